-- written by xprint.py (a program of this session's, over the kit's print): printed functions, and some by hand
import Derived.Test.YtpgegjbnnbkhiaaPFnExactNeedsAllx0
import Derived.Test.YtpgegjbnnbkhiaaPFnExactNeedsAllx2
import Derived.Test.YtpgegjbnnbkhiaaPFnExactNeedsAllx3
namespace Go.Proofs.Ytpgegjbnnbkhiaa.PFnExactNeedsAll
open Go.RowKit Go.Proofs.YtpgegjbnnbkhiaaW.PrintWords Go.Proofs.YtpgegjbnnbkhiaaW.PrintLast Go.Proofs.YtpgegjbnnbkhiaaW.PrintMore
attribute [local go_sem] max2_int min2_int max_two min_two max_three min_three max_four min_four   -- for this text's walks alone
set_option linter.unusedVariables false
set_option linter.unusedSimpArgs false

/-! ### spec_NeedsAll: function 25 -/
mutual
def spec_NeedsAll.j0 : Nat → List (S53) → Int → Bool → Option (List Int × Bool)
  | 0, _, _, _ => none
  | k + 1, x0, x1, x26 => if x26 = true then (some (([] : List Int), false)) else (if 0 ≤ (x0.length : Int) then (if ((x0.length : Int) : Int).toNat ≤ 281474976710656 then (if 0 ≤ x1 then (if x1 < (x0.length : Int) then (spec_NeedsAll.l0 k x0 (List.replicate ((x0.length : Int) : Int).toNat false) ((rd_T53 x0 x1).f1) (((rd_T53 x0 x1).f1).length : Int) 0) else (none)) else (none)) else (none)) else (none))
def spec_NeedsAll.l0 : Nat → List (S53) → List Bool → List Int → Int → Int → Option (List Int × Bool)
  | 0, _, _, _, _, _ => none
  | k + 1, x0, x6, x34, x35, x36 => if x36 < x35 then (if 0 ≤ x36 then (if x36 < (x34.length : Int) then (if 0 ≤ (rd x34 x36) then (if (rd x34 x36) < (x6.length : Int) then (spec_NeedsAll.l0 k x0 (x6.set ((rd x34 x36) : Int).toNat true) x34 x35 (wrap64 (x36 + 1))) else (none)) else (none)) else (none)) else (none)) else (spec_NeedsAll.l1 k x0 x6 true)
def spec_NeedsAll.l1 : Nat → List (S53) → List Bool → Bool → Option (List Int × Bool)
  | 0, _, _, _ => none
  | k + 1, x0, x6, x9 => if x9 = true then (spec_NeedsAll.l2 k x0 x6 false (x0.length : Int) 0) else (spec_NeedsAll.l4 k ([] : List Int) x6 (x6.length : Int) 0)
def spec_NeedsAll.l2 : Nat → List (S53) → List Bool → Bool → Int → Int → Option (List Int × Bool)
  | 0, _, _, _, _, _ => none
  | k + 1, x0, x6, x9, x46, x47 => if x47 < x46 then (if 0 ≤ x47 then (if x47 < (x0.length : Int) then (spec_NeedsAll.l3 k x0 x6 x9 x47 x46 x47 ((rd_T53 x0 x47).f1) (((rd_T53 x0 x47).f1).length : Int) 0) else (none)) else (none)) else (spec_NeedsAll.l1 k x0 x6 x9)
def spec_NeedsAll.l3 : Nat → List (S53) → List Bool → Bool → Int → Int → Int → List Int → Int → Int → Option (List Int × Bool)
  | 0, _, _, _, _, _, _, _, _, _ => none
  | k + 1, x0, x6, x9, x10, x46, x47, x54, x55, x56 => if x56 < x55 then (if 0 ≤ x56 then (if x56 < (x54.length : Int) then (if 0 ≤ x10 then (if x10 < (x6.length : Int) then (if rdOf false x6 x10 = true then (if 0 ≤ (rd x54 x56) then (if (rd x54 x56) < (x6.length : Int) then (if (rdOf false x6 (rd x54 x56) = true) then (spec_NeedsAll.l3 k x0 x6 x9 x10 x46 x47 x54 x55 (wrap64 (x56 + 1))) else (spec_NeedsAll.l3 k x0 (x6.set ((rd x54 x56) : Int).toNat true) true x10 x46 x47 x54 x55 (wrap64 (x56 + 1)))) else (none)) else (none)) else (spec_NeedsAll.l3 k x0 x6 x9 x10 x46 x47 x54 x55 (wrap64 (x56 + 1)))) else (none)) else (none)) else (none)) else (none)) else (spec_NeedsAll.l2 k x0 x6 x9 x46 (wrap64 (x47 + 1)))
def spec_NeedsAll.l4 : Nat → List Int → List Bool → Int → Int → Option (List Int × Bool)
  | 0, _, _, _, _ => none
  | k + 1, x13, x76, x77, x78 => if x78 < x77 then (if 0 ≤ x78 then (if x78 < (x76.length : Int) then (if rdOf false x76 x78 = true then (if x13.length < 17592186044416 then (spec_NeedsAll.l4 k (x13 ++ [x78]) x76 x77 (wrap64 (x78 + 1))) else (none)) else (spec_NeedsAll.l4 k x13 x76 x77 (wrap64 (x78 + 1)))) else (none)) else (none)) else (some (x13, true))
end
def spec_NeedsAll.f (k : Nat) (l0 : List (S53)) (a1 : Int) : Option (List Int × Bool) := (spec_GoodPlan.f k l0).bind fun t159 => (if t159 = true then ((spec_l1In.f a1 0 (wrap64 ((l0.length : Int) - 1))).bind fun t160 => (spec_NeedsAll.j0 k l0 a1 (!t160))) else (spec_NeedsAll.j0 k l0 a1 true))
theorem spec_NeedsAll.mono_l : ∀ k, (∀ y0 y1 y2, LeO (spec_NeedsAll.j0 k y0 y1 y2) (spec_NeedsAll.j0 (k + 1) y0 y1 y2)) ∧ (∀ y0 y1 y2 y3 y4, LeO (spec_NeedsAll.l0 k y0 y1 y2 y3 y4) (spec_NeedsAll.l0 (k + 1) y0 y1 y2 y3 y4)) ∧ (∀ y0 y1 y2, LeO (spec_NeedsAll.l1 k y0 y1 y2) (spec_NeedsAll.l1 (k + 1) y0 y1 y2)) ∧ (∀ y0 y1 y2 y3 y4, LeO (spec_NeedsAll.l2 k y0 y1 y2 y3 y4) (spec_NeedsAll.l2 (k + 1) y0 y1 y2 y3 y4)) ∧ (∀ y0 y1 y2 y3 y4 y5 y6 y7 y8, LeO (spec_NeedsAll.l3 k y0 y1 y2 y3 y4 y5 y6 y7 y8) (spec_NeedsAll.l3 (k + 1) y0 y1 y2 y3 y4 y5 y6 y7 y8)) ∧ (∀ y0 y1 y2 y3, LeO (spec_NeedsAll.l4 k y0 y1 y2 y3) (spec_NeedsAll.l4 (k + 1) y0 y1 y2 y3))
  | 0 => ⟨fun _ _ _ r h => by simp [spec_NeedsAll.j0] at h, fun _ _ _ _ _ r h => by simp [spec_NeedsAll.l0] at h, fun _ _ _ r h => by simp [spec_NeedsAll.l1] at h, fun _ _ _ _ _ r h => by simp [spec_NeedsAll.l2] at h, fun _ _ _ _ _ _ _ _ _ r h => by simp [spec_NeedsAll.l3] at h, fun _ _ _ _ r h => by simp [spec_NeedsAll.l4] at h⟩
  | k + 1 => by
    obtain ⟨ih0, ih1, ih2, ih3, ih4, ih5⟩ := spec_NeedsAll.mono_l k
    refine ⟨?_, ?_, ?_, ?_, ?_, ?_⟩
    · intro y0 y1 y2
      unfold spec_NeedsAll.j0
      repeat' first
      | (with_reducible exact ih0 _ _ _)
      | (with_reducible exact ih1 _ _ _ _ _)
      | (with_reducible exact ih2 _ _ _)
      | (with_reducible exact ih3 _ _ _ _ _)
      | (with_reducible exact ih4 _ _ _ _ _ _ _ _ _)
      | (with_reducible exact ih5 _ _ _ _)
      | (with_reducible exact spec_GoodPlan.mono _ _)
      | (with_reducible exact LeO.refl _)
      | (with_reducible exact LeO.none _)
      | (with_reducible refine LeO.ite ?_ ?_)
      | (with_reducible refine LeO.bind ?_ (fun _ => ?_))
      | exact ih0 _ _ _
      | exact ih1 _ _ _ _ _
      | exact ih2 _ _ _
      | exact ih3 _ _ _ _ _
      | exact ih4 _ _ _ _ _ _ _ _ _
      | exact ih5 _ _ _ _
      | exact spec_GoodPlan.mono _ _
      | exact LeO.none _
      | refine LeO.ite ?_ ?_
      | refine LeO.bind ?_ (fun _ => ?_)
    · intro y0 y1 y2 y3 y4
      unfold spec_NeedsAll.l0
      repeat' first
      | (with_reducible exact ih0 _ _ _)
      | (with_reducible exact ih1 _ _ _ _ _)
      | (with_reducible exact ih2 _ _ _)
      | (with_reducible exact ih3 _ _ _ _ _)
      | (with_reducible exact ih4 _ _ _ _ _ _ _ _ _)
      | (with_reducible exact ih5 _ _ _ _)
      | (with_reducible exact spec_GoodPlan.mono _ _)
      | (with_reducible exact LeO.refl _)
      | (with_reducible exact LeO.none _)
      | (with_reducible refine LeO.ite ?_ ?_)
      | (with_reducible refine LeO.bind ?_ (fun _ => ?_))
      | exact ih0 _ _ _
      | exact ih1 _ _ _ _ _
      | exact ih2 _ _ _
      | exact ih3 _ _ _ _ _
      | exact ih4 _ _ _ _ _ _ _ _ _
      | exact ih5 _ _ _ _
      | exact spec_GoodPlan.mono _ _
      | exact LeO.none _
      | refine LeO.ite ?_ ?_
      | refine LeO.bind ?_ (fun _ => ?_)
    · intro y0 y1 y2
      unfold spec_NeedsAll.l1
      repeat' first
      | (with_reducible exact ih0 _ _ _)
      | (with_reducible exact ih1 _ _ _ _ _)
      | (with_reducible exact ih2 _ _ _)
      | (with_reducible exact ih3 _ _ _ _ _)
      | (with_reducible exact ih4 _ _ _ _ _ _ _ _ _)
      | (with_reducible exact ih5 _ _ _ _)
      | (with_reducible exact spec_GoodPlan.mono _ _)
      | (with_reducible exact LeO.refl _)
      | (with_reducible exact LeO.none _)
      | (with_reducible refine LeO.ite ?_ ?_)
      | (with_reducible refine LeO.bind ?_ (fun _ => ?_))
      | exact ih0 _ _ _
      | exact ih1 _ _ _ _ _
      | exact ih2 _ _ _
      | exact ih3 _ _ _ _ _
      | exact ih4 _ _ _ _ _ _ _ _ _
      | exact ih5 _ _ _ _
      | exact spec_GoodPlan.mono _ _
      | exact LeO.none _
      | refine LeO.ite ?_ ?_
      | refine LeO.bind ?_ (fun _ => ?_)
    · intro y0 y1 y2 y3 y4
      unfold spec_NeedsAll.l2
      repeat' first
      | (with_reducible exact ih0 _ _ _)
      | (with_reducible exact ih1 _ _ _ _ _)
      | (with_reducible exact ih2 _ _ _)
      | (with_reducible exact ih3 _ _ _ _ _)
      | (with_reducible exact ih4 _ _ _ _ _ _ _ _ _)
      | (with_reducible exact ih5 _ _ _ _)
      | (with_reducible exact spec_GoodPlan.mono _ _)
      | (with_reducible exact LeO.refl _)
      | (with_reducible exact LeO.none _)
      | (with_reducible refine LeO.ite ?_ ?_)
      | (with_reducible refine LeO.bind ?_ (fun _ => ?_))
      | exact ih0 _ _ _
      | exact ih1 _ _ _ _ _
      | exact ih2 _ _ _
      | exact ih3 _ _ _ _ _
      | exact ih4 _ _ _ _ _ _ _ _ _
      | exact ih5 _ _ _ _
      | exact spec_GoodPlan.mono _ _
      | exact LeO.none _
      | refine LeO.ite ?_ ?_
      | refine LeO.bind ?_ (fun _ => ?_)
    · intro y0 y1 y2 y3 y4 y5 y6 y7 y8
      unfold spec_NeedsAll.l3
      repeat' first
      | (with_reducible exact ih0 _ _ _)
      | (with_reducible exact ih1 _ _ _ _ _)
      | (with_reducible exact ih2 _ _ _)
      | (with_reducible exact ih3 _ _ _ _ _)
      | (with_reducible exact ih4 _ _ _ _ _ _ _ _ _)
      | (with_reducible exact ih5 _ _ _ _)
      | (with_reducible exact spec_GoodPlan.mono _ _)
      | (with_reducible exact LeO.refl _)
      | (with_reducible exact LeO.none _)
      | (with_reducible refine LeO.ite ?_ ?_)
      | (with_reducible refine LeO.bind ?_ (fun _ => ?_))
      | exact ih0 _ _ _
      | exact ih1 _ _ _ _ _
      | exact ih2 _ _ _
      | exact ih3 _ _ _ _ _
      | exact ih4 _ _ _ _ _ _ _ _ _
      | exact ih5 _ _ _ _
      | exact spec_GoodPlan.mono _ _
      | exact LeO.none _
      | refine LeO.ite ?_ ?_
      | refine LeO.bind ?_ (fun _ => ?_)
    · intro y0 y1 y2 y3
      unfold spec_NeedsAll.l4
      repeat' first
      | (with_reducible exact ih0 _ _ _)
      | (with_reducible exact ih1 _ _ _ _ _)
      | (with_reducible exact ih2 _ _ _)
      | (with_reducible exact ih3 _ _ _ _ _)
      | (with_reducible exact ih4 _ _ _ _ _ _ _ _ _)
      | (with_reducible exact ih5 _ _ _ _)
      | (with_reducible exact spec_GoodPlan.mono _ _)
      | (with_reducible exact LeO.refl _)
      | (with_reducible exact LeO.none _)
      | (with_reducible refine LeO.ite ?_ ?_)
      | (with_reducible refine LeO.bind ?_ (fun _ => ?_))
      | exact ih0 _ _ _
      | exact ih1 _ _ _ _ _
      | exact ih2 _ _ _
      | exact ih3 _ _ _ _ _
      | exact ih4 _ _ _ _ _ _ _ _ _
      | exact ih5 _ _ _ _
      | exact spec_GoodPlan.mono _ _
      | exact LeO.none _
      | refine LeO.ite ?_ ?_
      | refine LeO.bind ?_ (fun _ => ?_)
theorem spec_NeedsAll.mono : ∀ a0 a1 k, LeO (spec_NeedsAll.f k a0 a1) (spec_NeedsAll.f (k + 1) a0 a1) := by
  intro a0 a1 k
  obtain ⟨ih0, ih1, ih2, ih3, ih4, ih5⟩ := spec_NeedsAll.mono_l k
  unfold spec_NeedsAll.f
  repeat' first
      | (with_reducible exact ih0 _ _ _)
      | (with_reducible exact ih1 _ _ _ _ _)
      | (with_reducible exact ih2 _ _ _)
      | (with_reducible exact ih3 _ _ _ _ _)
      | (with_reducible exact ih4 _ _ _ _ _ _ _ _ _)
      | (with_reducible exact ih5 _ _ _ _)
      | (with_reducible exact spec_GoodPlan.mono _ _)
      | (with_reducible exact LeO.refl _)
      | (with_reducible exact LeO.none _)
      | (with_reducible refine LeO.ite ?_ ?_)
      | (with_reducible refine LeO.bind ?_ (fun _ => ?_))
      | exact ih0 _ _ _
      | exact ih1 _ _ _ _ _
      | exact ih2 _ _ _
      | exact ih3 _ _ _ _ _
      | exact ih4 _ _ _ _ _ _ _ _ _
      | exact ih5 _ _ _ _
      | exact spec_GoodPlan.mono _ _
      | exact LeO.none _
      | refine LeO.ite ?_ ?_
      | refine LeO.bind ?_ (fun _ => ?_)
set_option maxHeartbeats 8000000 in
set_option maxRecDepth 100000 in
theorem spec_NeedsAll.calls (k : Nat) (A0 : Option Addr) (c0 : Nat) (l0 : List (S53)) (a1 : Int) (r1 : List Int) (r2 : Bool) (w : World) (hr0 : Kd.C k53 w A0 l0.length l0) (hc0 : l0.length ≤ c0) (h : spec_NeedsAll.f k l0 a1 = some (r1, r2)) :
    Calls Try.prog 25 #[.slice A0 l0.length c0, .int .i64 a1] w fun e w' => ∃ v0_ : Value, e = .returned (.tuple #[v0_, .bool r2]) ∧ Kd.R (Kd.int .i64) 3 w' w.heap.size (fun _ => True) v0_ r1 ∧ Below w.heap.size w w' := by
  have HR0 := Aside0.mk hr0
  have HC0 := Aside0.mk hc0
  clear hr0 hc0
  have HB := Aside0.mk (Below.refl w.heap.size w)
  have H : ((spec_GoodPlan.f k l0).bind fun t159 => (if t159 = true then ((spec_l1In.f a1 0 (wrap64 ((l0.length : Int) - 1))).bind fun t160 => (spec_NeedsAll.j0 k l0 a1 (!t160))) else (spec_NeedsAll.j0 k l0 a1 true))) = some (r1, r2) := h
  clear h
  have HC3 := Aside0.mk H
  clear H
  go_enter Try.func25, Try.ntmps25
  go_upto_region 1 with (fail)
  go_cut [26] (fun v26 wc => ∃ (kq : Nat) (x26_2 : Bool), v26 = .bool x26_2 ∧ Aside0 (spec_NeedsAll.j0 kq l0 a1 x26_2 = some (r1, r2)) ∧ Aside0 (kq ≤ k) ∧ Aside0 (Below w.heap.size w wc))
  case first =>
    have H := HC3.out
    clear HC3
    replace H := Option.bind_eq_some_iff.mp H
    obtain ⟨t159, A40, H⟩ := H
    replace H : (if t159 = true then ((spec_l1In.f a1 0 (wrap64 ((l0.length : Int) - 1))).bind fun t160 => (spec_NeedsAll.j0 k l0 a1 (!t160))) else (spec_NeedsAll.j0 k l0 a1 true)) = some (r1, r2) := H
    have A4 := Aside0.mk A40
    clear A40
    by_cases c5 : t159 = true
    · subst c5
      have H1 : ((spec_l1In.f a1 0 (wrap64 ((l0.length : Int) - 1))).bind fun t160 => (spec_NeedsAll.j0 k l0 a1 (!t160))) = some (r1, r2) := by rw [if_pos rfl] at H; exact H
      clear H
      have H := H1
      clear H1
      replace H := Option.bind_eq_some_iff.mp H
      obtain ⟨t160, A60, H⟩ := H
      replace H : (spec_NeedsAll.j0 k l0 a1 (!t160)) = some (r1, r2) := H
      have A6 := Aside0.mk A60
      clear A60
      have H' := Aside0.mk H
      clear H
      go_wp2_with (first | ((with_reducible refine gate_callee (f := 13) rfl ?_); refine goesL_ (some 17) rfl rfl Try.func13 (by kernel_rfl) rfl #[.slice A0 l0.length c0] rfl (by (try simp only [List.map_toArray, List.map_cons, List.map_nil]); first | done | rfl | (simp only [List.length_drop, List.length_take]; rfl)) ?_; (with_reducible refine (spec_GoodPlan.calls k _ _ l0 true _ ?side1 ?side2 A4.out).mono ?_); (case side1 => repeat (first | exact (Kd.C_below HR0.out HB.out) | (with_reducible refine Kd.C_alloc ?_ _) | (with_reducible refine Kd.C_drewN ?_ _) | (with_reducible refine Kd.C_drew ?_))); (case side2 => exact HC0.out); rintro e w7 ⟨rfl, hb⟩; refine ⟨_, rfl, ?_⟩; have n0_ := Aside0.mk (below_step (by repeat (first | (with_reducible first | exact HB.out | apply below_alloc | apply pw_below_drewN | apply below_drew1) | exact HB.out)) hb); clear HB; have HB := n0_; clear n0_; (try clear hb); (try clear hb2); (try clear hk); (try clear hi)) | (go_at_call 43; (with_reducible refine (spec_l1In.calls a1 0 (wrap64 ((l0.length : Int) - 1)) t160 _ A6.out).mono ?_); rintro e w' ⟨rfl, ⟨nd, rfl⟩⟩))
      go_meet
      case rel => exact ⟨_, (!t160), (by first | rfl | (simp; done) | (simp [*]; done)), H', ⟨by first | omega | exact Nat.le_refl _⟩, ⟨by repeat (first | (with_reducible first | exact HB.out | apply below_alloc | apply pw_below_drewN | apply below_drew1) | exact HB.out)⟩⟩
    · replace c5 := Bool.eq_false_iff.mpr c5
      subst c5
      have H1 : (spec_NeedsAll.j0 k l0 a1 true) = some (r1, r2) := by rw [if_neg (show ¬ (false = true) by decide)] at H; exact H
      clear H
      have H := H1
      clear H1
      have H' := Aside0.mk H
      clear H
      go_wp2_with (first | ((with_reducible refine gate_callee (f := 13) rfl ?_); refine goesL_ (some 17) rfl rfl Try.func13 (by kernel_rfl) rfl #[.slice A0 l0.length c0] rfl (by (try simp only [List.map_toArray, List.map_cons, List.map_nil]); first | done | rfl | (simp only [List.length_drop, List.length_take]; rfl)) ?_; (with_reducible refine (spec_GoodPlan.calls k _ _ l0 false _ ?side1 ?side2 A4.out).mono ?_); (case side1 => repeat (first | exact (Kd.C_below HR0.out HB.out) | (with_reducible refine Kd.C_alloc ?_ _) | (with_reducible refine Kd.C_drewN ?_ _) | (with_reducible refine Kd.C_drew ?_))); (case side2 => exact HC0.out); rintro e w8 ⟨rfl, hb⟩; refine ⟨_, rfl, ?_⟩; have n0_ := Aside0.mk (below_step (by repeat (first | (with_reducible first | exact HB.out | apply below_alloc | apply pw_below_drewN | apply below_drew1) | exact HB.out)) hb); clear HB; have HB := n0_; clear n0_; (try clear hb); (try clear hb2); (try clear hk); (try clear hi)))
      go_meet
      case rel => exact ⟨_, (true), (by first | rfl | (simp; done) | (simp [*]; done)), H', ⟨by first | omega | exact Nat.le_refl _⟩, ⟨by repeat (first | (with_reducible first | exact HB.out | apply below_alloc | apply pw_below_drewN | apply below_drew1) | exact HB.out)⟩⟩
  case rest =>
    clear HC3
    try clear c1
    try clear c2
    try clear p2
    try clear c5
    try clear p6
    obtain ⟨kq, x26_2, rfl, HA, HJ2, HB⟩ := hcut
    cases kq with
    | zero => exact absurd HA.out (by simp [spec_NeedsAll.j0])
    | succ kj2 =>
      have H := HA.out
      clear HA
      simp only [spec_NeedsAll.j0] at H
      by_cases c9 : x26_2 = true
      · subst c9
        have H1 : (some (([] : List Int), false)) = some (r1, r2) := by rw [if_pos rfl] at H; exact H
        clear H
        have H := H1
        clear H1
        simp only [Option.some.injEq, Prod.mk.injEq] at H
        obtain ⟨rfl, rfl⟩ := H
        go_wp2
        go_ret2
        exact ⟨_, by first | rfl | (simp [errW_none, errW_some] <;> rfl) | (simp [*, errW_none, errW_some] <;> rfl), by first | exact Kd.R_nil _ _ _ _ _ | exact Kd.N_nil _ _ _ _ _ | exact Kd.V_nil _ _ _ _ _ | exact Kd.Q_nil _ _ _ _ _ | exact Kd.S_nil _ _ _ _ _, by repeat (first | (with_reducible first | exact HB.out | apply below_alloc | apply pw_below_drewN | apply below_drew1) | exact HB.out)⟩
      · replace c9 := Bool.eq_false_iff.mpr c9
        subst c9
        have H1 : (if 0 ≤ (l0.length : Int) then (if ((l0.length : Int) : Int).toNat ≤ 281474976710656 then (if 0 ≤ a1 then (if a1 < (l0.length : Int) then (spec_NeedsAll.l0 kj2 l0 (List.replicate ((l0.length : Int) : Int).toNat false) ((rd_T53 l0 a1).f1) (((rd_T53 l0 a1).f1).length : Int) 0) else (none)) else (none)) else (none)) else (none)) = some (r1, r2) := by rw [if_neg (show ¬ (false = true) by decide)] at H; exact H
        clear H
        have H := H1
        clear H1
        by_cases c10 : 0 ≤ (l0.length : Int)
        · rw [if_pos c10] at H
          have c10b0 := eq_true c10
          have c10b1 : decide (0 ≤ (l0.length : Int)) = true := decide_eq_true c10
          clear c10
          by_cases c11 : ((l0.length : Int) : Int).toNat ≤ 281474976710656
          · rw [if_pos c11] at H
            have c11b0 := eq_true c11
            have c11b1 : decide (((l0.length : Int) : Int).toNat ≤ 281474976710656) = true := decide_eq_true c11
            clear c11
            obtain ⟨y161, hy161⟩ : ∃ y_ : List Bool, y_ = (List.replicate ((l0.length : Int) : Int).toNat false) := ⟨_, rfl⟩
            replace H : (if 0 ≤ a1 then (if a1 < (l0.length : Int) then (spec_NeedsAll.l0 kj2 l0 y161 ((rd_T53 l0 a1).f1) (((rd_T53 l0 a1).f1).length : Int) 0) else (none)) else (none)) = some (r1, r2) := by first | (rw [hy161]; with_reducible exact H) | (have H2_ := (Option.bind_some _ _).symm.trans H; rw [hy161]; with_reducible exact H2_) | (have H2_ := (Option.bind_some _ _).symm.trans H; with_reducible exact H2_) | with_reducible exact H | (rw [hy161]; exact H) | exact H
            have Ny161 := Aside0.mk hy161
            clear hy161
            by_cases c12 : 0 ≤ a1
            · rw [if_pos c12] at H
              have c12b0 : decide (0 ≤ a1) = true := decide_eq_true c12
              clear c12
              by_cases c13 : a1 < (l0.length : Int)
              · rw [if_pos c13] at H
                have c13b0 : decide (a1 < (l0.length : Int)) = true := decide_eq_true c13
                clear c13
                have H' := Aside0.mk H
                clear H
                go_wp2_with (first | ((with_reducible refine gate_dst (N := 29) rfl ?_); (try (refine gate_guard (by rfl) ?_; dsimp only)); refine Kd.R_make Kd.bool _ 4 rfl (N := 29) rfl 61 _ _ rfl (l0.length : Int) rfl rfl Try.underlying61 (.bool false) 1 info4 rfl (by decide) (by omega) false (ok := fun _ => True) (okp := fun _ => True) rfl (fun _ hk => hk) trivial (of_decide_eq_true (by first | (with_reducible assumption) | assumption)) (Nat.le_trans (Nat.mul_le_mul_right _ (of_decide_eq_true (by first | (with_reducible assumption) | assumption) : (l0.length : Int).toNat ≤ 281474976710656)) (by omega)) (Below.refl _ _) (Nat.le_refl _) ?_; intro v162 w14 ho15 hb hg_ hnew_; clear hg_ hnew_; (first | rw [← Ny161.out] at ho15 | (simp only [Int.reduceToNat] at ho15; rw [← Ny161.out] at ho15)); have n0_ := Aside0.mk (Kd.R_lower ho15 (below_size (by repeat (first | (with_reducible first | exact HB.out | apply below_alloc | apply pw_below_drewN | apply below_drew1) | exact HB.out)))); have n1_ := Aside0.mk (below_step (by repeat (first | (with_reducible first | exact HB.out | apply below_alloc | apply pw_below_drewN | apply below_drew1) | exact HB.out)) hb); clear HB; have HO163 := n0_; have HB := n1_; clear n0_ n1_; clear hb ho15; have p164 : 0 ≤ (a1 : Int) := of_decide_eq_true (by first | (with_reducible assumption) | assumption); have q164 : a1 < (l0.length : Int) := of_decide_eq_true (by first | (with_reducible assumption) | assumption); obtain ⟨ad164, A164_1, c164_1, e164, hx164_0, hx164_1, hl164_1, hi164_1⟩ := at_T53 HR0.out a1 p164 q164; cases e164; replace hx164_0 := (HB.out.cell (World.block_lt_of_cell? w _ hx164_0)).trans hx164_0; replace hx164_1 := (HB.out.cell (World.block_lt_of_cell? w _ hx164_1)).trans hx164_1; have HR164_1 := Aside0.mk hi164_1; have HC164_1 := Aside0.mk hl164_1; clear hi164_1 hl164_1; replace p164 := eq_true p164; replace q164 := eq_true q164))
                go_loopg [36] kj2 (fun kq v36 w' => ∃ (x6_2 : List Bool) (x36_2 : Int), v36 = .int .i64 x36_2 ∧ Aside0 (spec_NeedsAll.l0 kq l0 x6_2 ((rd_T53 l0 a1).f1) (((rd_T53 l0 a1).f1).length : Int) x36_2 = some (r1, r2)) ∧ Aside0 (kq ≤ kj2) ∧ Aside0 (Kd.R Kd.bool 4 w' w.heap.size (fun _ => True) v162 x6_2) ∧ Aside0 (Below w.heap.size w w'))
                case atStart => exact ⟨(y161), (0), (by first | rfl | (simp; done) | (simp [*]; done)), H', ⟨Nat.le_refl _⟩, ⟨by (with_reducible repeat (first | apply Kd.R_alloc | apply Kd.R_drewN | apply Kd.R_drew)); exact HO163.out⟩, ⟨by repeat (first | (with_reducible first | exact HB.out | apply below_alloc | apply pw_below_drewN | apply below_drew1) | exact HB.out)⟩⟩
                case round =>
                  clear H'
                  try clear c1
                  try clear p1
                  try clear q1
                  try clear hx1
                  try clear c2
                  try clear p2
                  try clear c5
                  try clear p6
                  try clear c9
                  try clear c10
                  try clear c10b0
                  try clear c10b1
                  try clear c11
                  try clear c11b0
                  try clear c11b1
                  try clear c12
                  try clear c12b0
                  try clear c13
                  try clear c13b0
                  try clear hx164_0
                  try clear hx164_1
                  try clear p164
                  try clear p2
                  try clear p6
                  try clear q164
                  obtain ⟨x6_2, x36_2, rfl, HA, HK2, HO_6, HB⟩ := hrel
                  cases gk with
                  | zero => exact absurd HA.out (by simp [spec_NeedsAll.l0])
                  | succ k2 =>
                    have H := HA.out
                    clear HA
                    simp only [spec_NeedsAll.l0] at H
                    by_cases c16 : x36_2 < (((rd_T53 l0 a1).f1).length : Int)
                    · rw [if_pos c16] at H
                      have c16b0 : decide (x36_2 < (((rd_T53 l0 a1).f1).length : Int)) = true := decide_eq_true c16
                      clear c16
                      by_cases c17 : 0 ≤ x36_2
                      · rw [if_pos c17] at H
                        have c17b0 : decide (0 ≤ x36_2) = true := decide_eq_true c17
                        clear c17
                        by_cases c18 : x36_2 < (((rd_T53 l0 a1).f1).length : Int)
                        · rw [if_pos c18] at H
                          have c18b0 : decide (x36_2 < (((rd_T53 l0 a1).f1).length : Int)) = true := decide_eq_true c18
                          clear c18
                          by_cases c19 : 0 ≤ (rd ((rd_T53 l0 a1).f1) x36_2)
                          · rw [if_pos c19] at H
                            have c19b0 : decide (0 ≤ (rd ((rd_T53 l0 a1).f1) x36_2)) = true := decide_eq_true c19
                            clear c19
                            by_cases c20 : (rd ((rd_T53 l0 a1).f1) x36_2) < (x6_2.length : Int)
                            · rw [if_pos c20] at H
                              have c20b0 : decide ((rd ((rd_T53 l0 a1).f1) x36_2) < (x6_2.length : Int)) = true := decide_eq_true c20
                              clear c20
                              obtain ⟨y166, hy166⟩ : ∃ y_ : List Bool, y_ = (x6_2.set ((rd ((rd_T53 l0 a1).f1) x36_2) : Int).toNat true) := ⟨_, rfl⟩
                              replace H : (spec_NeedsAll.l0 k2 l0 y166 ((rd_T53 l0 a1).f1) (((rd_T53 l0 a1).f1).length : Int) (wrap64 (x36_2 + 1))) = some (r1, r2) := by first | (rw [hy166]; with_reducible exact H) | (have H2_ := (Option.bind_some _ _).symm.trans H; rw [hy166]; with_reducible exact H2_) | (have H2_ := (Option.bind_some _ _).symm.trans H; with_reducible exact H2_) | with_reducible exact H | (rw [hy166]; exact H) | exact H
                              have Ny166 := Aside0.mk hy166
                              clear hy166
                              have H' := Aside0.mk H
                              clear H
                              have p165 : 0 ≤ (x36_2 : Int) := of_decide_eq_true (by first | (with_reducible assumption) | assumption)
                              have q165 : x36_2 < (((rd_T53 l0 a1).f1).length : Int) := of_decide_eq_true (by first | (with_reducible assumption) | assumption)
                              obtain ⟨ad165, e165, hx165_0⟩ := Kd.at_int HR164_1.out x36_2 p165 q165
                              cases e165
                              try replace hx165_0 := (HB.out.cell (World.block_lt_of_cell? w _ hx165_0)).trans hx165_0
                              replace p165 := eq_true p165
                              replace q165 := eq_true q165
                              have p21 : 0 ≤ ((rd ((rd_T53 l0 a1).f1) x36_2) : Int) := of_decide_eq_true (by first | (with_reducible assumption) | assumption)
                              have q21 : ((rd ((rd_T53 l0 a1).f1) x36_2) : Int) < ((x6_2.length : Int) : Int) := of_decide_eq_true (by first | (with_reducible assumption) | assumption)
                              obtain ⟨go21, co21, eo21, gb21, gl21, cl21, HG21⟩ := Kd.R_form HO_6.out (by omega)
                              (first | cases eo21 | (injection eo21 with ea_ en_ ec_; (first | subst ea_ | (injection ea_ with ea_; subst ea_)); subst ec_; clear en_))
                              have GB21 := Aside0.mk gb21
                              have GG21 := Aside0.mk HG21
                              clear gb21 gl21 HG21
                              obtain ⟨hx21_0, hf21_0⟩ := Kd.R_celln false HO_6.out ((rd ((rd_T53 l0 a1).f1) x36_2) : Int) p21 q21
                              replace p21 := eq_true p21
                              replace q21 := eq_true q21
                              have HP22 := Kd.R_putg HO_6.out ((rd ((rd_T53 l0 a1).f1) x36_2) : Int) true
                              go_wp2_with (first | ((with_reducible refine gate_store (t := 4) (p := 42) rfl ?_); refine store_event (t := 4) (p := 42) (v := ?vo_w23) (w1 := (wr.setCell ⟨go21, ((rd ((rd_T53 l0 a1).f1) x36_2) : Int).toNat, none⟩ (.bool true))) ?hg ?ho ?hn ?hr ?_; (case ho => rfl); (case hg => rfl); (case hn => rfl); (case hr => first | (go_simp; done) | (go_simp; rfl)); intro w23 hw; have hg : wr.grownBy w23 (some go21) := (by rw [hw]; exact HP22.2); have hp_ : Kd.R Kd.bool 4 w23 w.heap.size (fun _ => True) (.slice (some ⟨go21, 0, none⟩) x6_2.length co21) y166 := (by rw [hw, Ny166.out]; exact HP22.1); clear HP22; have n0_ := Aside0.mk (hp_); have n1_ := Aside0.mk ((by rw [hw]; exact below_set (HB.out) GB21.out : Below w.heap.size w w23)); clear HO_6; clear HB; have HO_6 := n0_; have HB := n1_; clear n0_ n1_; clear hg hw hp_))
                              go_roundg k2
                              case measure => have := HJ2.out; have := HK2.out; omega
                              case rel => exact ⟨(y166), (wrap64 (x36_2 + 1)), (by first | rfl | (simp; done) | (simp [*]; done)), H', ⟨by have := HJ2.out; have := HK2.out; omega⟩, ⟨by (with_reducible repeat (first | apply Kd.R_alloc | apply Kd.R_drewN | apply Kd.R_drew)); exact HO_6.out⟩, ⟨by repeat (first | (with_reducible first | exact HB.out | apply below_alloc | apply pw_below_drewN | apply below_drew1) | exact HB.out)⟩⟩
                            · rw [if_neg c20] at H
                              exact absurd H (by simp)
                          · rw [if_neg c19] at H
                            exact absurd H (by simp)
                        · rw [if_neg c18] at H
                          exact absurd H (by simp)
                      · rw [if_neg c17] at H
                        exact absurd H (by simp)
                    · rw [if_neg c16] at H
                      have c16b0 : decide (x36_2 < (((rd_T53 l0 a1).f1).length : Int)) = false := decide_eq_false c16
                      clear c16
                      have H' := Aside0.mk H
                      clear H
                      go_wp2
                      go_loopg [9] k2 (fun kq v9 w' => ∃ (x6_3 : List Bool) (x9_3 : Bool), v9 = .bool x9_3 ∧ Aside0 (spec_NeedsAll.l1 kq l0 x6_3 x9_3 = some (r1, r2)) ∧ Aside0 (kq ≤ k2) ∧ Aside0 (Kd.R Kd.bool 4 w' w.heap.size (fun _ => True) v162 x6_3) ∧ Aside0 (Below w.heap.size w w'))
                      case atStart => exact ⟨(x6_2), (true), (by first | rfl | (simp; done) | (simp [*]; done)), H', ⟨Nat.le_refl _⟩, ⟨by (with_reducible repeat (first | apply Kd.R_alloc | apply Kd.R_drewN | apply Kd.R_drew)); exact HO_6.out⟩, ⟨by repeat (first | (with_reducible first | exact HB.out | apply below_alloc | apply pw_below_drewN | apply below_drew1) | exact HB.out)⟩⟩
                      case round =>
                        clear H'
                        try clear c1
                        try clear p1
                        try clear q1
                        try clear hx1
                        try clear c2
                        try clear p2
                        try clear q2
                        try clear hx2
                        try clear hf2
                        try clear c5
                        try clear p6
                        try clear c9
                        try clear c10
                        try clear c10b0
                        try clear c10b1
                        try clear c11
                        try clear c11b0
                        try clear c11b1
                        try clear c12
                        try clear c12b0
                        try clear c13
                        try clear c13b0
                        try clear c16
                        try clear c16b0
                        try clear p16
                        try clear q16
                        try clear hx16
                        try clear c17
                        try clear c17b0
                        try clear c18
                        try clear c18b0
                        try clear c19
                        try clear c19b0
                        try clear c20
                        try clear c20b0
                        try clear p21
                        try clear q21
                        try clear hx21
                        try clear hf21
                        try clear hx164_0
                        try clear hx164_1
                        try clear hx165_0
                        try clear hx21_0
                        try clear p1
                        try clear p164
                        try clear p165
                        try clear p2
                        try clear p21
                        try clear p6
                        try clear q1
                        try clear q164
                        try clear q165
                        try clear q21
                        obtain ⟨x6_3, x9_3, rfl, HA, HK3, HO_6, HB⟩ := hrel
                        cases gk with
                        | zero => exact absurd HA.out (by simp [spec_NeedsAll.l1])
                        | succ k3 =>
                          have H := HA.out
                          clear HA
                          simp only [spec_NeedsAll.l1] at H
                          by_cases c24 : x9_3 = true
                          · subst c24
                            have H1 : (spec_NeedsAll.l2 k3 l0 x6_3 false (l0.length : Int) 0) = some (r1, r2) := by rw [if_pos rfl] at H; exact H
                            clear H
                            have H := H1
                            clear H1
                            have H' := Aside0.mk H
                            clear H
                            go_wp2
                            go_loopg [9, 47] k3 (fun kq v9 v47 w' => ∃ (x6_4 : List Bool) (x9_4 : Bool) (x47_4 : Int), v9 = .bool x9_4 ∧ v47 = .int .i64 x47_4 ∧ Aside0 (spec_NeedsAll.l2 kq l0 x6_4 x9_4 (l0.length : Int) x47_4 = some (r1, r2)) ∧ Aside0 (kq ≤ k3) ∧ Aside0 (Kd.R Kd.bool 4 w' w.heap.size (fun _ => True) v162 x6_4) ∧ Aside0 (Below w.heap.size w w'))
                            case atStart => exact ⟨(x6_3), (false), (0), (by first | rfl | (simp; done) | (simp [*]; done)), (by first | rfl | (simp; done) | (simp [*]; done)), H', ⟨Nat.le_refl _⟩, ⟨by (with_reducible repeat (first | apply Kd.R_alloc | apply Kd.R_drewN | apply Kd.R_drew)); exact HO_6.out⟩, ⟨by repeat (first | (with_reducible first | exact HB.out | apply below_alloc | apply pw_below_drewN | apply below_drew1) | exact HB.out)⟩⟩
                            case round =>
                              clear H'
                              try clear c1
                              try clear p1
                              try clear q1
                              try clear hx1
                              try clear c2
                              try clear p2
                              try clear q2
                              try clear hx2
                              try clear hf2
                              try clear c5
                              try clear p6
                              try clear c9
                              try clear c10
                              try clear c10b0
                              try clear c10b1
                              try clear c11
                              try clear c11b0
                              try clear c11b1
                              try clear c12
                              try clear c12b0
                              try clear c13
                              try clear c13b0
                              try clear c16
                              try clear c16b0
                              try clear p16
                              try clear q16
                              try clear hx16
                              try clear c17
                              try clear c17b0
                              try clear c18
                              try clear c18b0
                              try clear c19
                              try clear c19b0
                              try clear c20
                              try clear c20b0
                              try clear p21
                              try clear q21
                              try clear hx21
                              try clear hf21
                              try clear c24
                              try clear hx164_0
                              try clear hx164_1
                              try clear hx165_0
                              try clear hx21_0
                              try clear p1
                              try clear p16
                              try clear p164
                              try clear p165
                              try clear p2
                              try clear p21
                              try clear p6
                              try clear q1
                              try clear q16
                              try clear q164
                              try clear q165
                              try clear q2
                              try clear q21
                              obtain ⟨x6_4, x9_4, x47_4, rfl, rfl, HA, HK4, HO_6, HB⟩ := hrel
                              cases gk with
                              | zero => exact absurd HA.out (by simp [spec_NeedsAll.l2])
                              | succ k4 =>
                                have H := HA.out
                                clear HA
                                simp only [spec_NeedsAll.l2] at H
                                by_cases c25 : x47_4 < (l0.length : Int)
                                · rw [if_pos c25] at H
                                  have c25b0 : decide (x47_4 < (l0.length : Int)) = true := decide_eq_true c25
                                  clear c25
                                  by_cases c26 : 0 ≤ x47_4
                                  · rw [if_pos c26] at H
                                    have c26b0 : decide (0 ≤ x47_4) = true := decide_eq_true c26
                                    clear c26
                                    by_cases c27 : x47_4 < (l0.length : Int)
                                    · rw [if_pos c27] at H
                                      have c27b0 : decide (x47_4 < (l0.length : Int)) = true := decide_eq_true c27
                                      clear c27
                                      have H' := Aside0.mk H
                                      clear H
                                      have p167 : 0 ≤ (x47_4 : Int) := of_decide_eq_true (by first | (with_reducible assumption) | assumption)
                                      have q167 : x47_4 < (l0.length : Int) := of_decide_eq_true (by first | (with_reducible assumption) | assumption)
                                      obtain ⟨ad167, A167_1, c167_1, e167, hx167_0, hx167_1, hl167_1, hi167_1⟩ := at_T53 HR0.out x47_4 p167 q167
                                      obtain rfl : ad164 = ad167 := (by injection e167)
                                      try replace hx167_0 := (HB.out.cell (World.block_lt_of_cell? w _ hx167_0)).trans hx167_0
                                      try replace hx167_1 := (HB.out.cell (World.block_lt_of_cell? w _ hx167_1)).trans hx167_1
                                      have HR167_1 := Aside0.mk hi167_1
                                      have HC167_1 := Aside0.mk hl167_1
                                      clear hi167_1 hl167_1
                                      replace p167 := eq_true p167
                                      replace q167 := eq_true q167
                                      go_wp2
                                      go_loopg [9, 56] k4 (fun kq v9 v56 w' => ∃ (x6_5 : List Bool) (x9_5 : Bool) (x56_5 : Int), v9 = .bool x9_5 ∧ v56 = .int .i64 x56_5 ∧ Aside0 (spec_NeedsAll.l3 kq l0 x6_5 x9_5 x47_4 (l0.length : Int) x47_4 ((rd_T53 l0 x47_4).f1) (((rd_T53 l0 x47_4).f1).length : Int) x56_5 = some (r1, r2)) ∧ Aside0 (kq ≤ k4) ∧ Aside0 (Kd.R Kd.bool 4 w' w.heap.size (fun _ => True) v162 x6_5) ∧ Aside0 (Below w.heap.size w w'))
                                      case atStart => exact ⟨(x6_4), (x9_4), (0), (by first | rfl | (simp; done) | (simp [*]; done)), (by first | rfl | (simp; done) | (simp [*]; done)), H', ⟨Nat.le_refl _⟩, ⟨by (with_reducible repeat (first | apply Kd.R_alloc | apply Kd.R_drewN | apply Kd.R_drew)); exact HO_6.out⟩, ⟨by repeat (first | (with_reducible first | exact HB.out | apply below_alloc | apply pw_below_drewN | apply below_drew1) | exact HB.out)⟩⟩
                                      case round =>
                                        clear H'
                                        try clear c1
                                        try clear p1
                                        try clear q1
                                        try clear hx1
                                        try clear c2
                                        try clear p2
                                        try clear q2
                                        try clear hx2
                                        try clear hf2
                                        try clear c5
                                        try clear p6
                                        try clear c9
                                        try clear c10
                                        try clear c10b0
                                        try clear c10b1
                                        try clear c11
                                        try clear c11b0
                                        try clear c11b1
                                        try clear c12
                                        try clear c12b0
                                        try clear c13
                                        try clear c13b0
                                        try clear c16
                                        try clear c16b0
                                        try clear p16
                                        try clear q16
                                        try clear hx16
                                        try clear c17
                                        try clear c17b0
                                        try clear c18
                                        try clear c18b0
                                        try clear c19
                                        try clear c19b0
                                        try clear c20
                                        try clear c20b0
                                        try clear p21
                                        try clear q21
                                        try clear hx21
                                        try clear hf21
                                        try clear c24
                                        try clear c25
                                        try clear c25b0
                                        try clear c26
                                        try clear c26b0
                                        try clear c27
                                        try clear c27b0
                                        try clear hx164_0
                                        try clear hx164_1
                                        try clear hx165_0
                                        try clear hx167_0
                                        try clear hx167_1
                                        try clear hx21_0
                                        try clear p1
                                        try clear p16
                                        try clear p164
                                        try clear p165
                                        try clear p167
                                        try clear p2
                                        try clear p21
                                        try clear p6
                                        try clear q1
                                        try clear q16
                                        try clear q164
                                        try clear q165
                                        try clear q167
                                        try clear q2
                                        try clear q21
                                        obtain ⟨x6_5, x9_5, x56_5, rfl, rfl, HA, HK5, HO_6, HB⟩ := hrel
                                        cases gk with
                                        | zero => exact absurd HA.out (by simp [spec_NeedsAll.l3])
                                        | succ k5 =>
                                          have H := HA.out
                                          clear HA
                                          simp only [spec_NeedsAll.l3] at H
                                          by_cases c28 : x56_5 < (((rd_T53 l0 x47_4).f1).length : Int)
                                          · rw [if_pos c28] at H
                                            have c28b0 : decide (x56_5 < (((rd_T53 l0 x47_4).f1).length : Int)) = true := decide_eq_true c28
                                            clear c28
                                            by_cases c29 : 0 ≤ x56_5
                                            · rw [if_pos c29] at H
                                              have c29b0 : decide (0 ≤ x56_5) = true := decide_eq_true c29
                                              clear c29
                                              by_cases c30 : x56_5 < (((rd_T53 l0 x47_4).f1).length : Int)
                                              · rw [if_pos c30] at H
                                                have c30b0 : decide (x56_5 < (((rd_T53 l0 x47_4).f1).length : Int)) = true := decide_eq_true c30
                                                clear c30
                                                by_cases c31 : 0 ≤ x47_4
                                                · rw [if_pos c31] at H
                                                  have c31b0 : decide (0 ≤ x47_4) = true := decide_eq_true c31
                                                  clear c31
                                                  by_cases c32 : x47_4 < (x6_5.length : Int)
                                                  · rw [if_pos c32] at H
                                                    have c32b0 : decide (x47_4 < (x6_5.length : Int)) = true := decide_eq_true c32
                                                    clear c32
                                                    obtain ⟨bq33, hbq33⟩ : ∃ b_ : Bool, b_ = (rdOf false x6_5 x47_4) := ⟨_, rfl⟩
                                                    replace H : (if bq33 = true then (if 0 ≤ (rd ((rd_T53 l0 x47_4).f1) x56_5) then (if (rd ((rd_T53 l0 x47_4).f1) x56_5) < (x6_5.length : Int) then (if (rdOf false x6_5 (rd ((rd_T53 l0 x47_4).f1) x56_5) = true) then (spec_NeedsAll.l3 k5 l0 x6_5 x9_5 x47_4 (l0.length : Int) x47_4 ((rd_T53 l0 x47_4).f1) (((rd_T53 l0 x47_4).f1).length : Int) (wrap64 (x56_5 + 1))) else (spec_NeedsAll.l3 k5 l0 (x6_5.set ((rd ((rd_T53 l0 x47_4).f1) x56_5) : Int).toNat true) true x47_4 (l0.length : Int) x47_4 ((rd_T53 l0 x47_4).f1) (((rd_T53 l0 x47_4).f1).length : Int) (wrap64 (x56_5 + 1)))) else (none)) else (none)) else (spec_NeedsAll.l3 k5 l0 x6_5 x9_5 x47_4 (l0.length : Int) x47_4 ((rd_T53 l0 x47_4).f1) (((rd_T53 l0 x47_4).f1).length : Int) (wrap64 (x56_5 + 1)))) = some (r1, r2) := by rw [← hbq33] at H; exact H
                                                    have Nbq33 := Aside0.mk hbq33
                                                    clear hbq33
                                                    by_cases c34 : bq33 = true
                                                    · subst c34
                                                      have H1 : (if 0 ≤ (rd ((rd_T53 l0 x47_4).f1) x56_5) then (if (rd ((rd_T53 l0 x47_4).f1) x56_5) < (x6_5.length : Int) then (if (rdOf false x6_5 (rd ((rd_T53 l0 x47_4).f1) x56_5) = true) then (spec_NeedsAll.l3 k5 l0 x6_5 x9_5 x47_4 (l0.length : Int) x47_4 ((rd_T53 l0 x47_4).f1) (((rd_T53 l0 x47_4).f1).length : Int) (wrap64 (x56_5 + 1))) else (spec_NeedsAll.l3 k5 l0 (x6_5.set ((rd ((rd_T53 l0 x47_4).f1) x56_5) : Int).toNat true) true x47_4 (l0.length : Int) x47_4 ((rd_T53 l0 x47_4).f1) (((rd_T53 l0 x47_4).f1).length : Int) (wrap64 (x56_5 + 1)))) else (none)) else (none)) = some (r1, r2) := by rw [if_pos rfl] at H; exact H
                                                      clear H
                                                      have H := H1
                                                      clear H1
                                                      by_cases c35 : 0 ≤ (rd ((rd_T53 l0 x47_4).f1) x56_5)
                                                      · rw [if_pos c35] at H
                                                        have c35b0 : decide (0 ≤ (rd ((rd_T53 l0 x47_4).f1) x56_5)) = true := decide_eq_true c35
                                                        clear c35
                                                        by_cases c36 : (rd ((rd_T53 l0 x47_4).f1) x56_5) < (x6_5.length : Int)
                                                        · rw [if_pos c36] at H
                                                          have c36b0 : decide ((rd ((rd_T53 l0 x47_4).f1) x56_5) < (x6_5.length : Int)) = true := decide_eq_true c36
                                                          clear c36
                                                          obtain ⟨bq37, hbq37⟩ : ∃ b_ : Bool, b_ = (rdOf false x6_5 (rd ((rd_T53 l0 x47_4).f1) x56_5)) := ⟨_, rfl⟩
                                                          replace H : (if (bq37 = true) then (spec_NeedsAll.l3 k5 l0 x6_5 x9_5 x47_4 (l0.length : Int) x47_4 ((rd_T53 l0 x47_4).f1) (((rd_T53 l0 x47_4).f1).length : Int) (wrap64 (x56_5 + 1))) else (spec_NeedsAll.l3 k5 l0 (x6_5.set ((rd ((rd_T53 l0 x47_4).f1) x56_5) : Int).toNat true) true x47_4 (l0.length : Int) x47_4 ((rd_T53 l0 x47_4).f1) (((rd_T53 l0 x47_4).f1).length : Int) (wrap64 (x56_5 + 1)))) = some (r1, r2) := by rw [← hbq37] at H; exact H
                                                          have Nbq37 := Aside0.mk hbq37
                                                          clear hbq37
                                                          by_cases c38 : (bq37 = true)
                                                          · subst c38
                                                            have H1 : (spec_NeedsAll.l3 k5 l0 x6_5 x9_5 x47_4 (l0.length : Int) x47_4 ((rd_T53 l0 x47_4).f1) (((rd_T53 l0 x47_4).f1).length : Int) (wrap64 (x56_5 + 1))) = some (r1, r2) := by rw [if_pos rfl] at H; exact H
                                                            clear H
                                                            have H := H1
                                                            clear H1
                                                            have H' := Aside0.mk H
                                                            clear H
                                                            have p168 : 0 ≤ (x56_5 : Int) := of_decide_eq_true (by first | (with_reducible assumption) | assumption)
                                                            have q168 : x56_5 < (((rd_T53 l0 x47_4).f1).length : Int) := of_decide_eq_true (by first | (with_reducible assumption) | assumption)
                                                            obtain ⟨ad168, e168, hx168_0⟩ := Kd.at_int HR167_1.out x56_5 p168 q168
                                                            cases e168
                                                            try replace hx168_0 := (HB.out.cell (World.block_lt_of_cell? w _ hx168_0)).trans hx168_0
                                                            replace p168 := eq_true p168
                                                            replace q168 := eq_true q168
                                                            obtain ⟨Ao39, co39, eo39⟩ := Kd.R_slice HO_6.out
                                                            subst eo39
                                                            have p169 : 0 ≤ (x47_4 : Int) := of_decide_eq_true (by first | (with_reducible assumption) | assumption)
                                                            have q169 : x47_4 < (x6_5.length : Int) := of_decide_eq_true (by first | (with_reducible assumption) | assumption)
                                                            obtain ⟨ad169, e169, hx169_0⟩ := Kd.at_bool (Kd.R_reads' HO_6.out).2.2 x47_4 p169 q169
                                                            (try rw [← Nbq33.out] at hx169_0)
                                                            (try rw [← Nbq37.out] at hx169_0)
                                                            cases e169
                                                            replace p169 := eq_true p169
                                                            replace q169 := eq_true q169
                                                            have p170 : 0 ≤ ((rd ((rd_T53 l0 x47_4).f1) x56_5) : Int) := of_decide_eq_true (by first | (with_reducible assumption) | assumption)
                                                            have q170 : (rd ((rd_T53 l0 x47_4).f1) x56_5) < (x6_5.length : Int) := of_decide_eq_true (by first | (with_reducible assumption) | assumption)
                                                            obtain ⟨ad170, e170, hx170_0⟩ := Kd.at_bool (Kd.R_reads' HO_6.out).2.2 (rd ((rd_T53 l0 x47_4).f1) x56_5) p170 q170
                                                            (try rw [← Nbq33.out] at hx170_0)
                                                            (try rw [← Nbq37.out] at hx170_0)
                                                            obtain rfl : ad169 = ad170 := (by injection e170)
                                                            replace p170 := eq_true p170
                                                            replace q170 := eq_true q170
                                                            go_wp2
                                                            go_roundg k5
                                                            case measure => have := HJ2.out; have := HK2.out; have := HK3.out; have := HK4.out; have := HK5.out; omega
                                                            case rel => exact ⟨(x6_5), (x9_5), (wrap64 (x56_5 + 1)), (by first | rfl | (simp; done) | (simp [*]; done)), (by first | rfl | (simp; done) | (simp [*]; done)), H', ⟨by have := HJ2.out; have := HK2.out; have := HK3.out; have := HK4.out; have := HK5.out; omega⟩, ⟨by (with_reducible repeat (first | apply Kd.R_alloc | apply Kd.R_drewN | apply Kd.R_drew)); exact HO_6.out⟩, ⟨by repeat (first | (with_reducible first | exact HB.out | apply below_alloc | apply pw_below_drewN | apply below_drew1) | exact HB.out)⟩⟩
                                                          · replace c38 := Bool.eq_false_iff.mpr c38
                                                            subst c38
                                                            have H1 : (spec_NeedsAll.l3 k5 l0 (x6_5.set ((rd ((rd_T53 l0 x47_4).f1) x56_5) : Int).toNat true) true x47_4 (l0.length : Int) x47_4 ((rd_T53 l0 x47_4).f1) (((rd_T53 l0 x47_4).f1).length : Int) (wrap64 (x56_5 + 1))) = some (r1, r2) := by rw [if_neg (show ¬ (false = true) by decide)] at H; exact H
                                                            clear H
                                                            have H := H1
                                                            clear H1
                                                            obtain ⟨y171, hy171⟩ : ∃ y_ : List Bool, y_ = (x6_5.set ((rd ((rd_T53 l0 x47_4).f1) x56_5) : Int).toNat true) := ⟨_, rfl⟩
                                                            replace H : (spec_NeedsAll.l3 k5 l0 y171 true x47_4 (l0.length : Int) x47_4 ((rd_T53 l0 x47_4).f1) (((rd_T53 l0 x47_4).f1).length : Int) (wrap64 (x56_5 + 1))) = some (r1, r2) := by first | (rw [hy171]; with_reducible exact H) | (have H2_ := (Option.bind_some _ _).symm.trans H; rw [hy171]; with_reducible exact H2_) | (have H2_ := (Option.bind_some _ _).symm.trans H; with_reducible exact H2_) | with_reducible exact H | (rw [hy171]; exact H) | exact H
                                                            have Ny171 := Aside0.mk hy171
                                                            clear hy171
                                                            have H' := Aside0.mk H
                                                            clear H
                                                            have p168 : 0 ≤ (x56_5 : Int) := of_decide_eq_true (by first | (with_reducible assumption) | assumption)
                                                            have q168 : x56_5 < (((rd_T53 l0 x47_4).f1).length : Int) := of_decide_eq_true (by first | (with_reducible assumption) | assumption)
                                                            obtain ⟨ad168, e168, hx168_0⟩ := Kd.at_int HR167_1.out x56_5 p168 q168
                                                            cases e168
                                                            try replace hx168_0 := (HB.out.cell (World.block_lt_of_cell? w _ hx168_0)).trans hx168_0
                                                            replace p168 := eq_true p168
                                                            replace q168 := eq_true q168
                                                            obtain ⟨Ao41, co41, eo41⟩ := Kd.R_slice HO_6.out
                                                            subst eo41
                                                            have p169 : 0 ≤ (x47_4 : Int) := of_decide_eq_true (by first | (with_reducible assumption) | assumption)
                                                            have q169 : x47_4 < (x6_5.length : Int) := of_decide_eq_true (by first | (with_reducible assumption) | assumption)
                                                            obtain ⟨ad169, e169, hx169_0⟩ := Kd.at_bool (Kd.R_reads' HO_6.out).2.2 x47_4 p169 q169
                                                            (try rw [← Nbq33.out] at hx169_0)
                                                            (try rw [← Nbq37.out] at hx169_0)
                                                            cases e169
                                                            replace p169 := eq_true p169
                                                            replace q169 := eq_true q169
                                                            have p170 : 0 ≤ ((rd ((rd_T53 l0 x47_4).f1) x56_5) : Int) := of_decide_eq_true (by first | (with_reducible assumption) | assumption)
                                                            have q170 : (rd ((rd_T53 l0 x47_4).f1) x56_5) < (x6_5.length : Int) := of_decide_eq_true (by first | (with_reducible assumption) | assumption)
                                                            obtain ⟨ad170, e170, hx170_0⟩ := Kd.at_bool (Kd.R_reads' HO_6.out).2.2 (rd ((rd_T53 l0 x47_4).f1) x56_5) p170 q170
                                                            (try rw [← Nbq33.out] at hx170_0)
                                                            (try rw [← Nbq37.out] at hx170_0)
                                                            obtain rfl : ad169 = ad170 := (by injection e170)
                                                            replace p170 := eq_true p170
                                                            replace q170 := eq_true q170
                                                            have p40 : 0 ≤ ((rd ((rd_T53 l0 x47_4).f1) x56_5) : Int) := of_decide_eq_true (by first | (with_reducible assumption) | assumption)
                                                            have q40 : ((rd ((rd_T53 l0 x47_4).f1) x56_5) : Int) < ((x6_5.length : Int) : Int) := of_decide_eq_true (by first | (with_reducible assumption) | assumption)
                                                            obtain ⟨go40, co40, eo40, gb40, gl40, cl40, HG40⟩ := Kd.R_form HO_6.out (by omega)
                                                            (first | cases eo40 | (injection eo40 with ea_ en_ ec_; (first | subst ea_ | (injection ea_ with ea_; subst ea_)); subst ec_; clear en_))
                                                            have GB40 := Aside0.mk gb40
                                                            have GG40 := Aside0.mk HG40
                                                            clear gb40 gl40 HG40
                                                            (first | simp only [add_plain] at hx169_0 | skip)
                                                            (first | simp only [add_plain] at hx170_0 | skip)
                                                            obtain ⟨hx40_0, hf40_0⟩ := Kd.R_celln false HO_6.out ((rd ((rd_T53 l0 x47_4).f1) x56_5) : Int) p40 q40
                                                            replace p40 := eq_true p40
                                                            replace q40 := eq_true q40
                                                            have HP42 := Kd.R_putg HO_6.out ((rd ((rd_T53 l0 x47_4).f1) x56_5) : Int) true
                                                            go_wp2_with (first | ((with_reducible refine gate_store (t := 4) (p := 73) rfl ?_); refine store_event (t := 4) (p := 73) (v := ?vo_w43) (w1 := (wr.setCell ⟨go40, ((rd ((rd_T53 l0 x47_4).f1) x56_5) : Int).toNat, none⟩ (.bool true))) ?hg ?ho ?hn ?hr ?_; (case ho => rfl); (case hg => rfl); (case hn => rfl); (case hr => first | (go_simp; done) | (go_simp; rfl)); intro w43 hw; have hg : wr.grownBy w43 (some go40) := (by rw [hw]; exact HP42.2); have hp_ : Kd.R Kd.bool 4 w43 w.heap.size (fun _ => True) (.slice (some ⟨go40, 0, none⟩) x6_5.length co41) y171 := (by rw [hw, Ny171.out]; exact HP42.1); clear HP42; have n0_ := Aside0.mk (hp_); have n1_ := Aside0.mk ((by rw [hw]; exact below_set (HB.out) GB40.out : Below w.heap.size w w43)); clear HO_6; clear HB; have HO_6 := n0_; have HB := n1_; clear n0_ n1_; clear hg hw hp_))
                                                            go_roundg k5
                                                            case measure => have := HJ2.out; have := HK2.out; have := HK3.out; have := HK4.out; have := HK5.out; omega
                                                            case rel => exact ⟨(y171), (true), (wrap64 (x56_5 + 1)), (by first | rfl | (simp; done) | (simp [*]; done)), (by first | rfl | (simp; done) | (simp [*]; done)), H', ⟨by have := HJ2.out; have := HK2.out; have := HK3.out; have := HK4.out; have := HK5.out; omega⟩, ⟨by (with_reducible repeat (first | apply Kd.R_alloc | apply Kd.R_drewN | apply Kd.R_drew)); exact HO_6.out⟩, ⟨by repeat (first | (with_reducible first | exact HB.out | apply below_alloc | apply pw_below_drewN | apply below_drew1) | exact HB.out)⟩⟩
                                                        · rw [if_neg c36] at H
                                                          exact absurd H (by simp)
                                                      · rw [if_neg c35] at H
                                                        exact absurd H (by simp)
                                                    · replace c34 := Bool.eq_false_iff.mpr c34
                                                      subst c34
                                                      have H1 : (spec_NeedsAll.l3 k5 l0 x6_5 x9_5 x47_4 (l0.length : Int) x47_4 ((rd_T53 l0 x47_4).f1) (((rd_T53 l0 x47_4).f1).length : Int) (wrap64 (x56_5 + 1))) = some (r1, r2) := by rw [if_neg (show ¬ (false = true) by decide)] at H; exact H
                                                      clear H
                                                      have H := H1
                                                      clear H1
                                                      have H' := Aside0.mk H
                                                      clear H
                                                      have p168 : 0 ≤ (x56_5 : Int) := of_decide_eq_true (by first | (with_reducible assumption) | assumption)
                                                      have q168 : x56_5 < (((rd_T53 l0 x47_4).f1).length : Int) := of_decide_eq_true (by first | (with_reducible assumption) | assumption)
                                                      obtain ⟨ad168, e168, hx168_0⟩ := Kd.at_int HR167_1.out x56_5 p168 q168
                                                      cases e168
                                                      try replace hx168_0 := (HB.out.cell (World.block_lt_of_cell? w _ hx168_0)).trans hx168_0
                                                      replace p168 := eq_true p168
                                                      replace q168 := eq_true q168
                                                      obtain ⟨Ao44, co44, eo44⟩ := Kd.R_slice HO_6.out
                                                      subst eo44
                                                      have p169 : 0 ≤ (x47_4 : Int) := of_decide_eq_true (by first | (with_reducible assumption) | assumption)
                                                      have q169 : x47_4 < (x6_5.length : Int) := of_decide_eq_true (by first | (with_reducible assumption) | assumption)
                                                      obtain ⟨ad169, e169, hx169_0⟩ := Kd.at_bool (Kd.R_reads' HO_6.out).2.2 x47_4 p169 q169
                                                      (try rw [← Nbq33.out] at hx169_0)
                                                      cases e169
                                                      replace p169 := eq_true p169
                                                      replace q169 := eq_true q169
                                                      go_wp2
                                                      go_roundg k5
                                                      case measure => have := HJ2.out; have := HK2.out; have := HK3.out; have := HK4.out; have := HK5.out; omega
                                                      case rel => exact ⟨(x6_5), (x9_5), (wrap64 (x56_5 + 1)), (by first | rfl | (simp; done) | (simp [*]; done)), (by first | rfl | (simp; done) | (simp [*]; done)), H', ⟨by have := HJ2.out; have := HK2.out; have := HK3.out; have := HK4.out; have := HK5.out; omega⟩, ⟨by (with_reducible repeat (first | apply Kd.R_alloc | apply Kd.R_drewN | apply Kd.R_drew)); exact HO_6.out⟩, ⟨by repeat (first | (with_reducible first | exact HB.out | apply below_alloc | apply pw_below_drewN | apply below_drew1) | exact HB.out)⟩⟩
                                                  · rw [if_neg c32] at H
                                                    exact absurd H (by simp)
                                                · rw [if_neg c31] at H
                                                  exact absurd H (by simp)
                                              · rw [if_neg c30] at H
                                                exact absurd H (by simp)
                                            · rw [if_neg c29] at H
                                              exact absurd H (by simp)
                                          · rw [if_neg c28] at H
                                            have c28b0 : decide (x56_5 < (((rd_T53 l0 x47_4).f1).length : Int)) = false := decide_eq_false c28
                                            clear c28
                                            have H' := Aside0.mk H
                                            clear H
                                            go_wp2
                                            go_roundg k5
                                            case measure => have := HJ2.out; have := HK2.out; have := HK3.out; have := HK4.out; have := HK5.out; omega
                                            case rel => exact ⟨(x6_5), (x9_5), (wrap64 (x47_4 + 1)), (by first | rfl | (simp; done) | (simp [*]; done)), (by first | rfl | (simp; done) | (simp [*]; done)), H', ⟨by have := HJ2.out; have := HK2.out; have := HK3.out; have := HK4.out; have := HK5.out; omega⟩, ⟨by (with_reducible repeat (first | apply Kd.R_alloc | apply Kd.R_drewN | apply Kd.R_drew)); exact HO_6.out⟩, ⟨by repeat (first | (with_reducible first | exact HB.out | apply below_alloc | apply pw_below_drewN | apply below_drew1) | exact HB.out)⟩⟩
                                    · rw [if_neg c27] at H
                                      exact absurd H (by simp)
                                  · rw [if_neg c26] at H
                                    exact absurd H (by simp)
                                · rw [if_neg c25] at H
                                  have c25b0 : decide (x47_4 < (l0.length : Int)) = false := decide_eq_false c25
                                  try (have c25b0q := c25b0; rw [hl167_1] at c25b0q)
                                  clear c25
                                  have H' := Aside0.mk H
                                  clear H
                                  go_wp2
                                  go_roundg k4
                                  case measure => have := HJ2.out; have := HK2.out; have := HK3.out; have := HK4.out; omega
                                  case rel => exact ⟨(x6_4), (x9_4), (by first | rfl | (simp; done) | (simp [*]; done)), H', ⟨by have := HJ2.out; have := HK2.out; have := HK3.out; have := HK4.out; omega⟩, ⟨by (with_reducible repeat (first | apply Kd.R_alloc | apply Kd.R_drewN | apply Kd.R_drew)); exact HO_6.out⟩, ⟨by repeat (first | (with_reducible first | exact HB.out | apply below_alloc | apply pw_below_drewN | apply below_drew1) | exact HB.out)⟩⟩
                          · replace c24 := Bool.eq_false_iff.mpr c24
                            subst c24
                            have H1 : (spec_NeedsAll.l4 k3 ([] : List Int) x6_3 (x6_3.length : Int) 0) = some (r1, r2) := by rw [if_neg (show ¬ (false = true) by decide)] at H; exact H
                            clear H
                            have H := H1
                            clear H1
                            have H' := Aside0.mk H
                            clear H
                            obtain ⟨Ao45, co45, eo45⟩ := Kd.R_slice HO_6.out
                            subst eo45
                            go_wp2
                            go_loopg [13, 78] k3 (fun kq v13 v78 w' => ∃ (x13_4 : List Int) (x78_4 : Int), v78 = .int .i64 x78_4 ∧ Aside0 (spec_NeedsAll.l4 kq x13_4 x6_3 (x6_3.length : Int) x78_4 = some (r1, r2)) ∧ Aside0 (kq ≤ k3) ∧ Aside0 (Kd.R (Kd.int .i64) 3 w' w.heap.size (fun _ => True) v13 x13_4) ∧ Aside0 (Kd.R Kd.bool 4 w' w.heap.size (fun _ => True) (.slice Ao45 x6_3.length co45) x6_3) ∧ Aside0 (Below w.heap.size w w'))
                            case atStart => exact ⟨(([] : List Int)), (0), (by first | rfl | (simp; done) | (simp [*]; done)), H', ⟨Nat.le_refl _⟩, ⟨by first | exact Kd.R_nil _ _ _ _ _ | exact Kd.N_nil _ _ _ _ _ | exact Kd.V_nil _ _ _ _ _ | exact Kd.Q_nil _ _ _ _ _ | exact Kd.S_nil _ _ _ _ _⟩, ⟨by (with_reducible repeat (first | apply Kd.R_alloc | apply Kd.R_drewN | apply Kd.R_drew)); exact HO_6.out⟩, ⟨by repeat (first | (with_reducible first | exact HB.out | apply below_alloc | apply pw_below_drewN | apply below_drew1) | exact HB.out)⟩⟩
                            case round =>
                              clear H'
                              try clear c1
                              try clear p1
                              try clear q1
                              try clear hx1
                              try clear c2
                              try clear p2
                              try clear q2
                              try clear hx2
                              try clear hf2
                              try clear c3
                              try clear q3
                              try clear p4
                              try clear q4
                              try clear hx4
                              try clear hf4
                              try clear c5
                              try clear p6
                              try clear c9
                              try clear c10
                              try clear c10b0
                              try clear c10b1
                              try clear c11
                              try clear c11b0
                              try clear c11b1
                              try clear c12
                              try clear c12b0
                              try clear c13
                              try clear c13b0
                              try clear c16
                              try clear c16b0
                              try clear p16
                              try clear q16
                              try clear hx16
                              try clear c17
                              try clear c17b0
                              try clear p17
                              try clear q17
                              try clear hx17
                              try clear c18
                              try clear c18b0
                              try clear c19
                              try clear c19b0
                              try clear c20
                              try clear c20b0
                              try clear p21
                              try clear q21
                              try clear hx21
                              try clear hf21
                              try clear c24
                              try clear c25
                              try clear c25b0
                              try clear c26
                              try clear c26b0
                              try clear c27
                              try clear c27b0
                              try clear c28
                              try clear c28b0
                              try clear c29
                              try clear c29b0
                              try clear c30
                              try clear c30b0
                              try clear c31
                              try clear c31b0
                              try clear c32
                              try clear c32b0
                              try clear q33
                              try clear c34
                              try clear c35
                              try clear c35b0
                              try clear c36
                              try clear c36b0
                              try clear q37
                              try clear c38
                              try clear p40
                              try clear q40
                              try clear hx40
                              try clear hf40
                              try clear hx164_0
                              try clear hx164_1
                              try clear hx165_0
                              try clear hx167_0
                              try clear hx167_1
                              try clear hx168_0
                              try clear hx169_0
                              try clear hx170_0
                              try clear hx21_0
                              try clear hx40_0
                              try clear p1
                              try clear p16
                              try clear p164
                              try clear p165
                              try clear p167
                              try clear p168
                              try clear p169
                              try clear p170
                              try clear p2
                              try clear p21
                              try clear p40
                              try clear p6
                              try clear q1
                              try clear q16
                              try clear q164
                              try clear q165
                              try clear q167
                              try clear q168
                              try clear q169
                              try clear q170
                              try clear q2
                              try clear q21
                              try clear q40
                              obtain ⟨x13_4, x78_4, rfl, HA, HK4, HO_13, HO_76, HB⟩ := hrel
                              cases gk with
                              | zero => exact absurd HA.out (by simp [spec_NeedsAll.l4])
                              | succ k4 =>
                                have H := HA.out
                                clear HA
                                simp only [spec_NeedsAll.l4] at H
                                by_cases c46 : x78_4 < (x6_3.length : Int)
                                · rw [if_pos c46] at H
                                  have c46b0 : decide (x78_4 < (x6_3.length : Int)) = true := decide_eq_true c46
                                  clear c46
                                  by_cases c47 : 0 ≤ x78_4
                                  · rw [if_pos c47] at H
                                    have c47b0 : decide (0 ≤ x78_4) = true := decide_eq_true c47
                                    clear c47
                                    by_cases c48 : x78_4 < (x6_3.length : Int)
                                    · rw [if_pos c48] at H
                                      have c48b0 : decide (x78_4 < (x6_3.length : Int)) = true := decide_eq_true c48
                                      clear c48
                                      obtain ⟨bq49, hbq49⟩ : ∃ b_ : Bool, b_ = (rdOf false x6_3 x78_4) := ⟨_, rfl⟩
                                      replace H : (if bq49 = true then (if x13_4.length < 17592186044416 then (spec_NeedsAll.l4 k4 (x13_4 ++ [x78_4]) x6_3 (x6_3.length : Int) (wrap64 (x78_4 + 1))) else (none)) else (spec_NeedsAll.l4 k4 x13_4 x6_3 (x6_3.length : Int) (wrap64 (x78_4 + 1)))) = some (r1, r2) := by rw [← hbq49] at H; exact H
                                      have Nbq49 := Aside0.mk hbq49
                                      clear hbq49
                                      by_cases c50 : bq49 = true
                                      · subst c50
                                        have H1 : (if x13_4.length < 17592186044416 then (spec_NeedsAll.l4 k4 (x13_4 ++ [x78_4]) x6_3 (x6_3.length : Int) (wrap64 (x78_4 + 1))) else (none)) = some (r1, r2) := by rw [if_pos rfl] at H; exact H
                                        clear H
                                        have H := H1
                                        clear H1
                                        by_cases c51 : x13_4.length < 17592186044416
                                        · rw [if_pos c51] at H
                                          have LMc51 := Aside0.mk c51
                                          clear c51
                                          obtain ⟨y173, hy173⟩ : ∃ y_ : List Int, y_ = (x13_4 ++ [x78_4]) := ⟨_, rfl⟩
                                          replace H : (spec_NeedsAll.l4 k4 y173 x6_3 (x6_3.length : Int) (wrap64 (x78_4 + 1))) = some (r1, r2) := by first | (rw [hy173]; with_reducible exact H) | (have H2_ := (Option.bind_some _ _).symm.trans H; rw [hy173]; with_reducible exact H2_) | (have H2_ := (Option.bind_some _ _).symm.trans H; with_reducible exact H2_) | with_reducible exact H | (rw [hy173]; exact H) | exact H
                                          have Ny173 := Aside0.mk hy173
                                          clear hy173
                                          have H' := Aside0.mk H
                                          clear H
                                          have p172 : 0 ≤ (x78_4 : Int) := of_decide_eq_true (by first | (with_reducible assumption) | assumption)
                                          have q172 : x78_4 < (x6_3.length : Int) := of_decide_eq_true (by first | (with_reducible assumption) | assumption)
                                          obtain ⟨ad172, e172, hx172_0⟩ := Kd.at_bool (Kd.R_reads' HO_76.out).2.2 x78_4 p172 q172
                                          (try rw [← Nbq49.out] at hx172_0)
                                          cases e172
                                          replace p172 := eq_true p172
                                          replace q172 := eq_true q172
                                          go_wp2_with (first | ((with_reducible refine gate_builtin (b := .append) (xs := #[.tmp 84, .tmp 86]) rfl ?_); (try (refine gate_guard (by rfl) ?_; dsimp only)); at_builtin; refine Kd.R_append (Kd.int .i64) (w0 := w) w.heap.size rfl (.tmp 84) (.tmp 86) 29 3 (.int .i64 0) 8 rfl Try.underlying29 info3 rfl (by decide) (by omega) u13 x13_4 x78_4 [.int .i64 x78_4] (fun _ => True) (fun _ => False) rfl rfl ?aP (fun _ hk => hk.elim) ?aF ?aO ?aB ?aS ?aL ?_; (case aP => exact rfl); (case aB => exact (by repeat (first | (with_reducible first | exact HB.out | apply below_alloc | apply pw_below_drewN | apply below_drew1) | exact HB.out))); (case aF => exact (fun _ _ => trivial)); (case aO => exact (by (with_reducible repeat (first | apply Kd.R_alloc | apply Kd.R_drewN | apply Kd.R_drew)); exact HO_13.out)); (case aS => exact (below_size (by repeat (first | (with_reducible first | exact HB.out | apply below_alloc | apply pw_below_drewN | apply below_drew1) | exact HB.out)))); (case aL => have := LMc51.out; omega); intro v174 w52 ho hb hg hat; rw [← Ny173.out] at ho; have n0_ := Aside0.mk (Kd.R_over' (by (with_reducible repeat (first | apply Kd.R_alloc | apply Kd.R_drewN | apply Kd.R_drew)); exact HO_76.out) (Kd.R_typed (by (with_reducible repeat (first | apply Kd.R_alloc | apply Kd.R_drewN | apply Kd.R_drew)); exact HO_13.out)) (by decide) hg); have n1_ := Aside0.mk (hb); have n2_ := Aside0.mk (ho); clear HO_76; clear HB; clear HO_13; have HO_76 := n0_; have HB := n1_; have HO175 := n2_; clear n0_ n1_ n2_; clear ho hb hg hat))
                                          go_roundg k4
                                          case measure => have := HJ2.out; have := HK2.out; have := HK3.out; have := HK4.out; omega
                                          case rel => exact ⟨(y173), (wrap64 (x78_4 + 1)), (by first | rfl | (simp; done) | (simp [*]; done)), H', ⟨by have := HJ2.out; have := HK2.out; have := HK3.out; have := HK4.out; omega⟩, ⟨by (with_reducible repeat (first | apply Kd.R_alloc | apply Kd.R_drewN | apply Kd.R_drew)); exact HO175.out⟩, ⟨by (with_reducible repeat (first | apply Kd.R_alloc | apply Kd.R_drewN | apply Kd.R_drew)); exact HO_76.out⟩, ⟨by repeat (first | (with_reducible first | exact HB.out | apply below_alloc | apply pw_below_drewN | apply below_drew1) | exact HB.out)⟩⟩
                                        · rw [if_neg c51] at H
                                          exact absurd H (by simp)
                                      · replace c50 := Bool.eq_false_iff.mpr c50
                                        subst c50
                                        have H1 : (spec_NeedsAll.l4 k4 x13_4 x6_3 (x6_3.length : Int) (wrap64 (x78_4 + 1))) = some (r1, r2) := by rw [if_neg (show ¬ (false = true) by decide)] at H; exact H
                                        clear H
                                        have H := H1
                                        clear H1
                                        have H' := Aside0.mk H
                                        clear H
                                        have p172 : 0 ≤ (x78_4 : Int) := of_decide_eq_true (by first | (with_reducible assumption) | assumption)
                                        have q172 : x78_4 < (x6_3.length : Int) := of_decide_eq_true (by first | (with_reducible assumption) | assumption)
                                        obtain ⟨ad172, e172, hx172_0⟩ := Kd.at_bool (Kd.R_reads' HO_76.out).2.2 x78_4 p172 q172
                                        (try rw [← Nbq49.out] at hx172_0)
                                        cases e172
                                        replace p172 := eq_true p172
                                        replace q172 := eq_true q172
                                        go_wp2
                                        go_roundg k4
                                        case measure => have := HJ2.out; have := HK2.out; have := HK3.out; have := HK4.out; omega
                                        case rel => exact ⟨(x13_4), (wrap64 (x78_4 + 1)), (by first | rfl | (simp; done) | (simp [*]; done)), H', ⟨by have := HJ2.out; have := HK2.out; have := HK3.out; have := HK4.out; omega⟩, ⟨by (with_reducible repeat (first | apply Kd.R_alloc | apply Kd.R_drewN | apply Kd.R_drew)); exact HO_13.out⟩, ⟨by (with_reducible repeat (first | apply Kd.R_alloc | apply Kd.R_drewN | apply Kd.R_drew)); exact HO_76.out⟩, ⟨by repeat (first | (with_reducible first | exact HB.out | apply below_alloc | apply pw_below_drewN | apply below_drew1) | exact HB.out)⟩⟩
                                    · rw [if_neg c48] at H
                                      exact absurd H (by simp)
                                  · rw [if_neg c47] at H
                                    exact absurd H (by simp)
                                · rw [if_neg c46] at H
                                  have c46b0 : decide (x78_4 < (x6_3.length : Int)) = false := decide_eq_false c46
                                  try (have c46b0q := c46b0; rw [hl167_1] at c46b0q)
                                  clear c46
                                  simp only [Option.some.injEq, Prod.mk.injEq] at H
                                  obtain ⟨rfl, rfl⟩ := H
                                  go_wp2
                                  go_ret2
                                  exact ⟨_, by first | rfl | (simp [errW_none, errW_some] <;> rfl) | (simp [*, errW_none, errW_some] <;> rfl), by (with_reducible repeat (first | apply Kd.R_alloc | apply Kd.R_drewN | apply Kd.R_drew)); exact HO_13.out, by repeat (first | (with_reducible first | exact HB.out | apply below_alloc | apply pw_below_drewN | apply below_drew1) | exact HB.out)⟩
              · rw [if_neg c13] at H
                exact absurd H (by simp)
            · rw [if_neg c12] at H
              exact absurd H (by simp)
          · rw [if_neg c11] at H
            exact absurd H (by simp)
        · rw [if_neg c10] at H
          exact absurd H (by simp)

end Go.Proofs.Ytpgegjbnnbkhiaa.PFnExactNeedsAll
