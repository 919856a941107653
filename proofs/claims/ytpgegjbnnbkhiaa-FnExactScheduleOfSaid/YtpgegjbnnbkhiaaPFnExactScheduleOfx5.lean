-- written by xprint.py (a program of this session's, over the kit's print): printed functions, and some by hand
import Derived.Test.YtpgegjbnnbkhiaaPFnExactScheduleOfx0
import Derived.Test.YtpgegjbnnbkhiaaPFnExactScheduleOfx3
import Derived.Test.YtpgegjbnnbkhiaaPFnExactScheduleOfx4
namespace Go.Proofs.Ytpgegjbnnbkhiaa.PFnExactScheduleOf
open Go.RowKit Go.Proofs.YtpgegjbnnbkhiaaW.PrintWords Go.Proofs.YtpgegjbnnbkhiaaW.PrintLast Go.Proofs.YtpgegjbnnbkhiaaW.PrintMore
attribute [local go_sem] max2_int min2_int max_two min_two max_three min_three max_four min_four   -- for this text's walks alone
set_option linter.unusedVariables false
set_option linter.unusedSimpArgs false

/-! ### spec_ScheduleOf: function 38 -/
mutual
def spec_ScheduleOf.j0 : Nat → List (S53) → Int → Bool → Option ((List (S66)) × Int × Bool)
  | 0, _, _, _ => none
  | k + 1, x0, x1, x26 => if x26 = true then (some (([] : List (S66)), 0, false)) else (if 0 ≤ (x0.length : Int) then (if ((x0.length : Int) : Int).toNat ≤ 35184372088832 then ((some (List.replicate ((x0.length : Int) : Int).toNat 0 : List Int)).bind fun y165 => (if 0 ≤ x1 then (if (x1 : Int).toNat ≤ 35184372088832 then (spec_ScheduleOf.l0 k x0 y165 (List.replicate (x1 : Int).toNat 0) (y165.length : Int) 0) else (none)) else (none))) else (none)) else (none))
def spec_ScheduleOf.l0 : Nat → List (S53) → List Int → List Int → Int → Int → Option ((List (S66)) × Int × Bool)
  | 0, _, _, _, _, _ => none
  | k + 1, x0, x8, x9, x33, x34 => if x34 < x33 then (if 0 ≤ x34 then (if x34 < (x8.length : Int) then (spec_ScheduleOf.l0 k x0 (x8.set (x34 : Int).toNat (-1)) x9 x33 (wrap64 (x34 + 1))) else (none)) else (none)) else (spec_ScheduleOf.l1 k x0 ([] : List (S66)) x8 x9 0 0)
def spec_ScheduleOf.l1 : Nat → List (S53) → List (S66) → List Int → List Int → Int → Int → Option ((List (S66)) × Int × Bool)
  | 0, _, _, _, _, _, _ => none
  | k + 1, x0, x7, x8, x9, x11, x12 => if (x7.length : Int) < (x0.length : Int) then (spec_ScheduleOf.l2 k x0 x7 x8 x9 x11 x12 (x9.length : Int) 0) else (some (x7, x11, true))
def spec_ScheduleOf.l2 : Nat → List (S53) → List (S66) → List Int → List Int → Int → Int → Int → Int → Option ((List (S66)) × Int × Bool)
  | 0, _, _, _, _, _, _, _, _ => none
  | k + 1, x0, x7, x8, x9, x11, x12, x49, x50 => if x50 < x49 then (if 0 ≤ x50 then (if x50 < (x9.length : Int) then (if (rd x9 x50) > x12 then (spec_ScheduleOf.l2 k x0 x7 x8 x9 x11 x12 x49 (wrap64 (x50 + 1))) else (spec_ScheduleOf.l3 k x0 x7 x8 x9 x11 x12 x50 x49 x50 x0 (x0.length : Int) 0)) else (none)) else (none)) else (spec_ScheduleOf.l1 k x0 x7 x8 x9 x11 (wrap64 (x12 + 1)))
def spec_ScheduleOf.l3 : Nat → List (S53) → List (S66) → List Int → List Int → Int → Int → Int → Int → Int → List (S53) → Int → Int → Option ((List (S66)) × Int × Bool)
  | 0, _, _, _, _, _, _, _, _, _, _, _, _ => none
  | k + 1, x0, x7, x8, x9, x11, x12, x13, x49, x50, x59, x60, x61 => if x61 < x60 then (if 0 ≤ x61 then (if x61 < (x59.length : Int) then (if x61 < (x8.length : Int) then (spec_ScheduleOf.l4 k x0 x7 x8 x9 x11 x12 x13 x61 (decide ((rd x8 x61) < 0)) x49 x50 x59 x60 x61 ((rd_T53 x59 x61).f1) (((rd_T53 x59 x61).f1).length : Int) 0 ((rd_T53 x59 x61).f0) ((rd_T53 x59 x61).f1)) else (none)) else (none)) else (none)) else (spec_ScheduleOf.l2 k x0 x7 x8 x9 x11 x12 x49 (wrap64 (x50 + 1)))
def spec_ScheduleOf.l4 : Nat → List (S53) → List (S66) → List Int → List Int → Int → Int → Int → Int → Bool → Int → Int → List (S53) → Int → Int → List Int → Int → Int → Int → List Int → Option ((List (S66)) × Int × Bool)
  | 0, _, _, _, _, _, _, _, _, _, _, _, _, _, _, _, _, _, _, _ => none
  | k + 1, x0, x7, x8, x9, x11, x12, x13, x14, x16, x49, x50, x59, x60, x61, x72, x73, x74, x175000, x175001 => if x74 < x73 then (if 0 ≤ x74 then (if x74 < (x72.length : Int) then (if x16 = true then (if 0 ≤ (rd x72 x74) then (if (rd x72 x74) < (x8.length : Int) then ((spec_l1In.f (rd x8 (rd x72 x74)) 0 x12).bind fun t178 => (spec_ScheduleOf.l4 k x0 x7 x8 x9 x11 x12 x13 x14 t178 x49 x50 x59 x60 x61 x72 x73 (wrap64 (x74 + 1)) x175000 x175001)) else (none)) else (none)) else (spec_ScheduleOf.l4 k x0 x7 x8 x9 x11 x12 x13 x14 false x49 x50 x59 x60 x61 x72 x73 (wrap64 (x74 + 1)) x175000 x175001)) else (none)) else (none)) else (if x16 = true then (if x7.length < 5864062014805 then ((some (x7 ++ [(⟨x14, x13, x12⟩ : S66)] : List (S66))).bind fun y179 => (if 0 ≤ x14 then (if x14 < (x8.length : Int) then ((some (x8.set (x14 : Int).toNat (wrap64 (x12 + x175000)) : List Int)).bind fun y182 => (if 0 ≤ x13 then (if x13 < (x9.length : Int) then ((some (x9.set (x13 : Int).toNat (rd y182 x14) : List Int)).bind fun y184 => (if (rd y182 x14) > x11 then (spec_ScheduleOf.l2 k x0 y179 y182 y184 (rd y182 x14) x12 x49 (wrap64 (x50 + 1))) else (spec_ScheduleOf.l2 k x0 y179 y182 y184 x11 x12 x49 (wrap64 (x50 + 1))))) else (none)) else (none))) else (none)) else (none))) else (none)) else (spec_ScheduleOf.l3 k x0 x7 x8 x9 x11 x12 x13 x49 x50 x59 x60 (wrap64 (x61 + 1))))
end
def spec_ScheduleOf.f (k : Nat) (l0 : List (S53)) (a1 : Int) : Option ((List (S66)) × Int × Bool) := (spec_GoodPlan.f k l0).bind fun t163 => (if t163 = true then ((spec_l1In.f a1 1 8).bind fun t164 => (spec_ScheduleOf.j0 k l0 a1 (!t164))) else (spec_ScheduleOf.j0 k l0 a1 true))
theorem spec_ScheduleOf.mono_l : ∀ k, (∀ y0 y1 y2, LeO (spec_ScheduleOf.j0 k y0 y1 y2) (spec_ScheduleOf.j0 (k + 1) y0 y1 y2)) ∧ (∀ y0 y1 y2 y3 y4, LeO (spec_ScheduleOf.l0 k y0 y1 y2 y3 y4) (spec_ScheduleOf.l0 (k + 1) y0 y1 y2 y3 y4)) ∧ (∀ y0 y1 y2 y3 y4 y5, LeO (spec_ScheduleOf.l1 k y0 y1 y2 y3 y4 y5) (spec_ScheduleOf.l1 (k + 1) y0 y1 y2 y3 y4 y5)) ∧ (∀ y0 y1 y2 y3 y4 y5 y6 y7, LeO (spec_ScheduleOf.l2 k y0 y1 y2 y3 y4 y5 y6 y7) (spec_ScheduleOf.l2 (k + 1) y0 y1 y2 y3 y4 y5 y6 y7)) ∧ (∀ y0 y1 y2 y3 y4 y5 y6 y7 y8 y9 y10 y11, LeO (spec_ScheduleOf.l3 k y0 y1 y2 y3 y4 y5 y6 y7 y8 y9 y10 y11) (spec_ScheduleOf.l3 (k + 1) y0 y1 y2 y3 y4 y5 y6 y7 y8 y9 y10 y11)) ∧ (∀ y0 y1 y2 y3 y4 y5 y6 y7 y8 y9 y10 y11 y12 y13 y14 y15 y16 y17 y18, LeO (spec_ScheduleOf.l4 k y0 y1 y2 y3 y4 y5 y6 y7 y8 y9 y10 y11 y12 y13 y14 y15 y16 y17 y18) (spec_ScheduleOf.l4 (k + 1) y0 y1 y2 y3 y4 y5 y6 y7 y8 y9 y10 y11 y12 y13 y14 y15 y16 y17 y18))
  | 0 => ⟨fun _ _ _ r h => by simp [spec_ScheduleOf.j0] at h, fun _ _ _ _ _ r h => by simp [spec_ScheduleOf.l0] at h, fun _ _ _ _ _ _ r h => by simp [spec_ScheduleOf.l1] at h, fun _ _ _ _ _ _ _ _ r h => by simp [spec_ScheduleOf.l2] at h, fun _ _ _ _ _ _ _ _ _ _ _ _ r h => by simp [spec_ScheduleOf.l3] at h, fun _ _ _ _ _ _ _ _ _ _ _ _ _ _ _ _ _ _ _ r h => by simp [spec_ScheduleOf.l4] at h⟩
  | k + 1 => by
    obtain ⟨ih0, ih1, ih2, ih3, ih4, ih5⟩ := spec_ScheduleOf.mono_l k
    refine ⟨?_, ?_, ?_, ?_, ?_, ?_⟩
    · intro y0 y1 y2
      unfold spec_ScheduleOf.j0
      repeat' first
      | (with_reducible exact ih0 _ _ _)
      | (with_reducible exact ih1 _ _ _ _ _)
      | (with_reducible exact ih2 _ _ _ _ _ _)
      | (with_reducible exact ih3 _ _ _ _ _ _ _ _)
      | (with_reducible exact ih4 _ _ _ _ _ _ _ _ _ _ _ _)
      | (with_reducible exact ih5 _ _ _ _ _ _ _ _ _ _ _ _ _ _ _ _ _ _ _)
      | (with_reducible exact spec_GoodPlan.mono _ _)
      | (with_reducible exact LeO.refl _)
      | (with_reducible exact LeO.none _)
      | (with_reducible refine LeO.ite ?_ ?_)
      | (with_reducible refine LeO.bind ?_ (fun _ => ?_))
      | exact ih0 _ _ _
      | exact ih1 _ _ _ _ _
      | exact ih2 _ _ _ _ _ _
      | exact ih3 _ _ _ _ _ _ _ _
      | exact ih4 _ _ _ _ _ _ _ _ _ _ _ _
      | exact ih5 _ _ _ _ _ _ _ _ _ _ _ _ _ _ _ _ _ _ _
      | exact spec_GoodPlan.mono _ _
      | exact LeO.none _
      | refine LeO.ite ?_ ?_
      | refine LeO.bind ?_ (fun _ => ?_)
    · intro y0 y1 y2 y3 y4
      unfold spec_ScheduleOf.l0
      repeat' first
      | (with_reducible exact ih0 _ _ _)
      | (with_reducible exact ih1 _ _ _ _ _)
      | (with_reducible exact ih2 _ _ _ _ _ _)
      | (with_reducible exact ih3 _ _ _ _ _ _ _ _)
      | (with_reducible exact ih4 _ _ _ _ _ _ _ _ _ _ _ _)
      | (with_reducible exact ih5 _ _ _ _ _ _ _ _ _ _ _ _ _ _ _ _ _ _ _)
      | (with_reducible exact spec_GoodPlan.mono _ _)
      | (with_reducible exact LeO.refl _)
      | (with_reducible exact LeO.none _)
      | (with_reducible refine LeO.ite ?_ ?_)
      | (with_reducible refine LeO.bind ?_ (fun _ => ?_))
      | exact ih0 _ _ _
      | exact ih1 _ _ _ _ _
      | exact ih2 _ _ _ _ _ _
      | exact ih3 _ _ _ _ _ _ _ _
      | exact ih4 _ _ _ _ _ _ _ _ _ _ _ _
      | exact ih5 _ _ _ _ _ _ _ _ _ _ _ _ _ _ _ _ _ _ _
      | exact spec_GoodPlan.mono _ _
      | exact LeO.none _
      | refine LeO.ite ?_ ?_
      | refine LeO.bind ?_ (fun _ => ?_)
    · intro y0 y1 y2 y3 y4 y5
      unfold spec_ScheduleOf.l1
      repeat' first
      | (with_reducible exact ih0 _ _ _)
      | (with_reducible exact ih1 _ _ _ _ _)
      | (with_reducible exact ih2 _ _ _ _ _ _)
      | (with_reducible exact ih3 _ _ _ _ _ _ _ _)
      | (with_reducible exact ih4 _ _ _ _ _ _ _ _ _ _ _ _)
      | (with_reducible exact ih5 _ _ _ _ _ _ _ _ _ _ _ _ _ _ _ _ _ _ _)
      | (with_reducible exact spec_GoodPlan.mono _ _)
      | (with_reducible exact LeO.refl _)
      | (with_reducible exact LeO.none _)
      | (with_reducible refine LeO.ite ?_ ?_)
      | (with_reducible refine LeO.bind ?_ (fun _ => ?_))
      | exact ih0 _ _ _
      | exact ih1 _ _ _ _ _
      | exact ih2 _ _ _ _ _ _
      | exact ih3 _ _ _ _ _ _ _ _
      | exact ih4 _ _ _ _ _ _ _ _ _ _ _ _
      | exact ih5 _ _ _ _ _ _ _ _ _ _ _ _ _ _ _ _ _ _ _
      | exact spec_GoodPlan.mono _ _
      | exact LeO.none _
      | refine LeO.ite ?_ ?_
      | refine LeO.bind ?_ (fun _ => ?_)
    · intro y0 y1 y2 y3 y4 y5 y6 y7
      unfold spec_ScheduleOf.l2
      repeat' first
      | (with_reducible exact ih0 _ _ _)
      | (with_reducible exact ih1 _ _ _ _ _)
      | (with_reducible exact ih2 _ _ _ _ _ _)
      | (with_reducible exact ih3 _ _ _ _ _ _ _ _)
      | (with_reducible exact ih4 _ _ _ _ _ _ _ _ _ _ _ _)
      | (with_reducible exact ih5 _ _ _ _ _ _ _ _ _ _ _ _ _ _ _ _ _ _ _)
      | (with_reducible exact spec_GoodPlan.mono _ _)
      | (with_reducible exact LeO.refl _)
      | (with_reducible exact LeO.none _)
      | (with_reducible refine LeO.ite ?_ ?_)
      | (with_reducible refine LeO.bind ?_ (fun _ => ?_))
      | exact ih0 _ _ _
      | exact ih1 _ _ _ _ _
      | exact ih2 _ _ _ _ _ _
      | exact ih3 _ _ _ _ _ _ _ _
      | exact ih4 _ _ _ _ _ _ _ _ _ _ _ _
      | exact ih5 _ _ _ _ _ _ _ _ _ _ _ _ _ _ _ _ _ _ _
      | exact spec_GoodPlan.mono _ _
      | exact LeO.none _
      | refine LeO.ite ?_ ?_
      | refine LeO.bind ?_ (fun _ => ?_)
    · intro y0 y1 y2 y3 y4 y5 y6 y7 y8 y9 y10 y11
      unfold spec_ScheduleOf.l3
      repeat' first
      | (with_reducible exact ih0 _ _ _)
      | (with_reducible exact ih1 _ _ _ _ _)
      | (with_reducible exact ih2 _ _ _ _ _ _)
      | (with_reducible exact ih3 _ _ _ _ _ _ _ _)
      | (with_reducible exact ih4 _ _ _ _ _ _ _ _ _ _ _ _)
      | (with_reducible exact ih5 _ _ _ _ _ _ _ _ _ _ _ _ _ _ _ _ _ _ _)
      | (with_reducible exact spec_GoodPlan.mono _ _)
      | (with_reducible exact LeO.refl _)
      | (with_reducible exact LeO.none _)
      | (with_reducible refine LeO.ite ?_ ?_)
      | (with_reducible refine LeO.bind ?_ (fun _ => ?_))
      | exact ih0 _ _ _
      | exact ih1 _ _ _ _ _
      | exact ih2 _ _ _ _ _ _
      | exact ih3 _ _ _ _ _ _ _ _
      | exact ih4 _ _ _ _ _ _ _ _ _ _ _ _
      | exact ih5 _ _ _ _ _ _ _ _ _ _ _ _ _ _ _ _ _ _ _
      | exact spec_GoodPlan.mono _ _
      | exact LeO.none _
      | refine LeO.ite ?_ ?_
      | refine LeO.bind ?_ (fun _ => ?_)
    · intro y0 y1 y2 y3 y4 y5 y6 y7 y8 y9 y10 y11 y12 y13 y14 y15 y16 y17 y18
      unfold spec_ScheduleOf.l4
      repeat' first
      | (with_reducible exact ih0 _ _ _)
      | (with_reducible exact ih1 _ _ _ _ _)
      | (with_reducible exact ih2 _ _ _ _ _ _)
      | (with_reducible exact ih3 _ _ _ _ _ _ _ _)
      | (with_reducible exact ih4 _ _ _ _ _ _ _ _ _ _ _ _)
      | (with_reducible exact ih5 _ _ _ _ _ _ _ _ _ _ _ _ _ _ _ _ _ _ _)
      | (with_reducible exact spec_GoodPlan.mono _ _)
      | (with_reducible exact LeO.refl _)
      | (with_reducible exact LeO.none _)
      | (with_reducible refine LeO.ite ?_ ?_)
      | (with_reducible refine LeO.bind ?_ (fun _ => ?_))
      | exact ih0 _ _ _
      | exact ih1 _ _ _ _ _
      | exact ih2 _ _ _ _ _ _
      | exact ih3 _ _ _ _ _ _ _ _
      | exact ih4 _ _ _ _ _ _ _ _ _ _ _ _
      | exact ih5 _ _ _ _ _ _ _ _ _ _ _ _ _ _ _ _ _ _ _
      | exact spec_GoodPlan.mono _ _
      | exact LeO.none _
      | refine LeO.ite ?_ ?_
      | refine LeO.bind ?_ (fun _ => ?_)
theorem spec_ScheduleOf.mono : ∀ a0 a1 k, LeO (spec_ScheduleOf.f k a0 a1) (spec_ScheduleOf.f (k + 1) a0 a1) := by
  intro a0 a1 k
  obtain ⟨ih0, ih1, ih2, ih3, ih4, ih5⟩ := spec_ScheduleOf.mono_l k
  unfold spec_ScheduleOf.f
  repeat' first
      | (with_reducible exact ih0 _ _ _)
      | (with_reducible exact ih1 _ _ _ _ _)
      | (with_reducible exact ih2 _ _ _ _ _ _)
      | (with_reducible exact ih3 _ _ _ _ _ _ _ _)
      | (with_reducible exact ih4 _ _ _ _ _ _ _ _ _ _ _ _)
      | (with_reducible exact ih5 _ _ _ _ _ _ _ _ _ _ _ _ _ _ _ _ _ _ _)
      | (with_reducible exact spec_GoodPlan.mono _ _)
      | (with_reducible exact LeO.refl _)
      | (with_reducible exact LeO.none _)
      | (with_reducible refine LeO.ite ?_ ?_)
      | (with_reducible refine LeO.bind ?_ (fun _ => ?_))
      | exact ih0 _ _ _
      | exact ih1 _ _ _ _ _
      | exact ih2 _ _ _ _ _ _
      | exact ih3 _ _ _ _ _ _ _ _
      | exact ih4 _ _ _ _ _ _ _ _ _ _ _ _
      | exact ih5 _ _ _ _ _ _ _ _ _ _ _ _ _ _ _ _ _ _ _
      | exact spec_GoodPlan.mono _ _
      | exact LeO.none _
      | refine LeO.ite ?_ ?_
      | refine LeO.bind ?_ (fun _ => ?_)
set_option maxHeartbeats 8000000 in
set_option maxRecDepth 100000 in
theorem spec_ScheduleOf.calls (k : Nat) (A0 : Option Addr) (c0 : Nat) (l0 : List (S53)) (a1 : Int) (r1 : List (S66)) (r2 : Int) (r3 : Bool) (w : World) (hr0 : Kd.C k53 w A0 l0.length l0) (hc0 : l0.length ≤ c0) (h : spec_ScheduleOf.f k l0 a1 = some (r1, r2, r3)) :
    Calls Try.prog 38 #[.slice A0 l0.length c0, .int .i64 a1] w fun e w' => ∃ v0_ : Value, e = .returned (.tuple #[v0_, .int .i64 r2, .bool r3]) ∧ Kd.R k66 66 w' w.heap.size (fun _ => True) v0_ r1 ∧ Below w.heap.size w w' := by
  have hu53 := Try.underlying53
  have hu66 := Try.underlying66
  have HR0 := Aside0.mk hr0
  have HC0 := Aside0.mk hc0
  clear hr0 hc0
  have HB := Aside0.mk (Below.refl w.heap.size w)
  have H : ((spec_GoodPlan.f k l0).bind fun t163 => (if t163 = true then ((spec_l1In.f a1 1 8).bind fun t164 => (spec_ScheduleOf.j0 k l0 a1 (!t164))) else (spec_ScheduleOf.j0 k l0 a1 true))) = some (r1, r2, r3) := h
  clear h
  have HC3 := Aside0.mk H
  clear H
  go_enter Try.func38, Try.ntmps38
  go_upto_region 1 with (fail)
  go_cut [26] (fun v26 wc => ∃ (kq : Nat) (x26_2 : Bool), v26 = .bool x26_2 ∧ Aside0 (spec_ScheduleOf.j0 kq l0 a1 x26_2 = some (r1, r2, r3)) ∧ Aside0 (kq ≤ k) ∧ Aside0 (Below w.heap.size w wc))
  case first =>
    have H := HC3.out
    clear HC3
    replace H := Option.bind_eq_some_iff.mp H
    obtain ⟨t163, A40, H⟩ := H
    replace H : (if t163 = true then ((spec_l1In.f a1 1 8).bind fun t164 => (spec_ScheduleOf.j0 k l0 a1 (!t164))) else (spec_ScheduleOf.j0 k l0 a1 true)) = some (r1, r2, r3) := H
    have A4 := Aside0.mk A40
    clear A40
    by_cases c5 : t163 = true
    · subst c5
      have H1 : ((spec_l1In.f a1 1 8).bind fun t164 => (spec_ScheduleOf.j0 k l0 a1 (!t164))) = some (r1, r2, r3) := by rw [if_pos rfl] at H; exact H
      clear H
      have H := H1
      clear H1
      replace H := Option.bind_eq_some_iff.mp H
      obtain ⟨t164, A60, H⟩ := H
      replace H : (spec_ScheduleOf.j0 k l0 a1 (!t164)) = some (r1, r2, r3) := H
      have A6 := Aside0.mk A60
      clear A60
      have H' := Aside0.mk H
      clear H
      go_wp2_with (first | ((with_reducible refine gate_callee (f := 13) rfl ?_); refine goesL_ (some 20) rfl rfl Try.func13 (by kernel_rfl) rfl #[.slice A0 l0.length c0] rfl (by (try simp only [List.map_toArray, List.map_cons, List.map_nil]); first | done | rfl | (simp only [List.length_drop, List.length_take]; rfl)) ?_; (with_reducible refine (spec_GoodPlan.calls k _ _ l0 true _ ?side1 ?side2 A4.out).mono ?_); (case side1 => repeat (first | exact (Kd.C_below HR0.out HB.out) | (with_reducible refine Kd.C_alloc ?_ _) | (with_reducible refine Kd.C_drewN ?_ _) | (with_reducible refine Kd.C_drew ?_))); (case side2 => exact HC0.out); rintro e w7 ⟨rfl, hb⟩; refine ⟨_, rfl, ?_⟩; have n0_ := Aside0.mk (below_step (by repeat (first | (with_reducible first | exact HB.out | apply below_alloc | apply pw_below_drewN | apply below_drew1) | exact HB.out)) hb); clear HB; have HB := n0_; clear n0_; (try clear hb); (try clear hb2); (try clear hk); (try clear hi)) | (go_at_call 43; (with_reducible refine (spec_l1In.calls a1 1 8 t164 _ A6.out).mono ?_); rintro e w' ⟨rfl, ⟨nd, rfl⟩⟩))
      go_meet
      case rel => exact ⟨_, (!t164), (by first | rfl | (simp; done) | (simp [*]; done)), H', ⟨by first | omega | exact Nat.le_refl _⟩, ⟨by repeat (first | (with_reducible first | exact HB.out | apply below_alloc | apply pw_below_drewN | apply below_drew1) | exact HB.out)⟩⟩
    · replace c5 := Bool.eq_false_iff.mpr c5
      subst c5
      have H1 : (spec_ScheduleOf.j0 k l0 a1 true) = some (r1, r2, r3) := by rw [if_neg (show ¬ (false = true) by decide)] at H; exact H
      clear H
      have H := H1
      clear H1
      have H' := Aside0.mk H
      clear H
      go_wp2_with (first | ((with_reducible refine gate_callee (f := 13) rfl ?_); refine goesL_ (some 20) rfl rfl Try.func13 (by kernel_rfl) rfl #[.slice A0 l0.length c0] rfl (by (try simp only [List.map_toArray, List.map_cons, List.map_nil]); first | done | rfl | (simp only [List.length_drop, List.length_take]; rfl)) ?_; (with_reducible refine (spec_GoodPlan.calls k _ _ l0 false _ ?side1 ?side2 A4.out).mono ?_); (case side1 => repeat (first | exact (Kd.C_below HR0.out HB.out) | (with_reducible refine Kd.C_alloc ?_ _) | (with_reducible refine Kd.C_drewN ?_ _) | (with_reducible refine Kd.C_drew ?_))); (case side2 => exact HC0.out); rintro e w8 ⟨rfl, hb⟩; refine ⟨_, rfl, ?_⟩; have n0_ := Aside0.mk (below_step (by repeat (first | (with_reducible first | exact HB.out | apply below_alloc | apply pw_below_drewN | apply below_drew1) | exact HB.out)) hb); clear HB; have HB := n0_; clear n0_; (try clear hb); (try clear hb2); (try clear hk); (try clear hi)))
      go_meet
      case rel => exact ⟨_, (true), (by first | rfl | (simp; done) | (simp [*]; done)), H', ⟨by first | omega | exact Nat.le_refl _⟩, ⟨by repeat (first | (with_reducible first | exact HB.out | apply below_alloc | apply pw_below_drewN | apply below_drew1) | exact HB.out)⟩⟩
  case rest =>
    clear HC3
    try clear c1
    try clear p2
    try clear c3
    try clear c5
    obtain ⟨kq, x26_2, rfl, HA, HJ2, HB⟩ := hcut
    cases kq with
    | zero => exact absurd HA.out (by simp [spec_ScheduleOf.j0])
    | succ kj2 =>
      have H := HA.out
      clear HA
      simp only [spec_ScheduleOf.j0] at H
      by_cases c9 : x26_2 = true
      · subst c9
        have H1 : (some (([] : List (S66)), 0, false)) = some (r1, r2, r3) := by rw [if_pos rfl] at H; exact H
        clear H
        have H := H1
        clear H1
        simp only [Option.some.injEq, Prod.mk.injEq] at H
        obtain ⟨rfl, rfl, rfl⟩ := H
        go_wp2
        go_ret3
        exact ⟨_, by first | rfl | (simp [errW_none, errW_some] <;> rfl) | (simp [*, errW_none, errW_some] <;> rfl), by first | exact Kd.R_nil _ _ _ _ _ | exact Kd.N_nil _ _ _ _ _ | exact Kd.V_nil _ _ _ _ _ | exact Kd.Q_nil _ _ _ _ _ | exact Kd.S_nil _ _ _ _ _, by repeat (first | (with_reducible first | exact HB.out | apply below_alloc | apply pw_below_drewN | apply below_drew1) | exact HB.out)⟩
      · replace c9 := Bool.eq_false_iff.mpr c9
        subst c9
        have H1 : (if 0 ≤ (l0.length : Int) then (if ((l0.length : Int) : Int).toNat ≤ 35184372088832 then ((some (List.replicate ((l0.length : Int) : Int).toNat 0 : List Int)).bind fun y165 => (if 0 ≤ a1 then (if (a1 : Int).toNat ≤ 35184372088832 then (spec_ScheduleOf.l0 kj2 l0 y165 (List.replicate (a1 : Int).toNat 0) (y165.length : Int) 0) else (none)) else (none))) else (none)) else (none)) = some (r1, r2, r3) := by rw [if_neg (show ¬ (false = true) by decide)] at H; exact H
        clear H
        have H := H1
        clear H1
        by_cases c10 : 0 ≤ (l0.length : Int)
        · rw [if_pos c10] at H
          have c10b0 := eq_true c10
          have c10b1 : decide (0 ≤ (l0.length : Int)) = true := decide_eq_true c10
          clear c10
          by_cases c11 : ((l0.length : Int) : Int).toNat ≤ 35184372088832
          · rw [if_pos c11] at H
            have c11b0 := eq_true c11
            have c11b1 : decide (((l0.length : Int) : Int).toNat ≤ 35184372088832) = true := decide_eq_true c11
            clear c11
            obtain ⟨y165, hy165⟩ : ∃ y_ : List Int, y_ = (List.replicate ((l0.length : Int) : Int).toNat 0) := ⟨_, rfl⟩
            replace H : (if 0 ≤ a1 then (if (a1 : Int).toNat ≤ 35184372088832 then (spec_ScheduleOf.l0 kj2 l0 y165 (List.replicate (a1 : Int).toNat 0) (y165.length : Int) 0) else (none)) else (none)) = some (r1, r2, r3) := by first | (rw [hy165]; with_reducible exact H) | (have H2_ := (Option.bind_some _ _).symm.trans H; rw [hy165]; with_reducible exact H2_) | (have H2_ := (Option.bind_some _ _).symm.trans H; with_reducible exact H2_) | with_reducible exact H | (rw [hy165]; exact H) | exact H
            have Ny165 := Aside0.mk hy165
            clear hy165
            by_cases c12 : 0 ≤ a1
            · rw [if_pos c12] at H
              have c12b0 := eq_true c12
              have c12b1 : decide (0 ≤ a1) = true := decide_eq_true c12
              clear c12
              by_cases c13 : (a1 : Int).toNat ≤ 35184372088832
              · rw [if_pos c13] at H
                have c13b0 := eq_true c13
                have c13b1 : decide ((a1 : Int).toNat ≤ 35184372088832) = true := decide_eq_true c13
                clear c13
                obtain ⟨y168, hy168⟩ : ∃ y_ : List Int, y_ = (List.replicate (a1 : Int).toNat 0) := ⟨_, rfl⟩
                replace H : (spec_ScheduleOf.l0 kj2 l0 y165 y168 (y165.length : Int) 0) = some (r1, r2, r3) := by first | (rw [hy168]; with_reducible exact H) | (have H2_ := (Option.bind_some _ _).symm.trans H; rw [hy168]; with_reducible exact H2_) | (have H2_ := (Option.bind_some _ _).symm.trans H; with_reducible exact H2_) | with_reducible exact H | (rw [hy168]; exact H) | exact H
                have Ny168 := Aside0.mk hy168
                clear hy168
                have H' := Aside0.mk H
                clear H
                go_wp2_with (first | ((with_reducible refine gate_dst (N := 29) rfl ?_); refine Kd.R_make (Kd.int .i64) _ 3 rfl (N := 29) rfl 29 _ _ rfl (l0.length : Int) rfl rfl Try.underlying29 (.int .i64 0) 8 info3 rfl (by decide) (by omega) 0 (ok := fun _ => True) (okp := fun _ => True) rfl (fun _ hk => hk) trivial (of_decide_eq_true (by first | (with_reducible assumption) | assumption)) (Nat.le_trans (Nat.mul_le_mul_right _ (of_decide_eq_true (by first | (with_reducible assumption) | assumption) : (l0.length : Int).toNat ≤ 35184372088832)) (by omega)) (Below.refl _ _) (Nat.le_refl _) ?_; intro v166 w14 ho15 hb hg_ hnew_; clear hg_ hnew_; (first | rw [← Ny165.out] at ho15 | (simp only [Int.reduceToNat] at ho15; rw [← Ny165.out] at ho15)); have n0_ := Aside0.mk (Kd.R_lower ho15 (below_size (by repeat (first | (with_reducible first | exact HB.out | apply below_alloc | apply pw_below_drewN | apply below_drew1) | exact HB.out)))); have n1_ := Aside0.mk (below_step (by repeat (first | (with_reducible first | exact HB.out | apply below_alloc | apply pw_below_drewN | apply below_drew1) | exact HB.out)) hb); clear HB; have HO167 := n0_; have HB := n1_; clear n0_ n1_; clear hb ho15) | ((with_reducible refine gate_dst (N := 31) rfl ?_); refine Kd.R_make (Kd.int .i64) _ 3 rfl (N := 31) rfl 29 _ _ rfl a1 rfl rfl Try.underlying29 (.int .i64 0) 8 info3 rfl (by decide) (by omega) 0 (ok := fun _ => True) (okp := fun _ => True) rfl (fun _ hk => hk) trivial (of_decide_eq_true (by first | (with_reducible assumption) | assumption)) (Nat.le_trans (Nat.mul_le_mul_right _ (of_decide_eq_true (by first | (with_reducible assumption) | assumption) : a1.toNat ≤ 35184372088832)) (by omega)) (Below.refl _ _) (Nat.le_refl _) ?_; intro v169 w16 ho17 hb hg_ hnew_; clear hg_ hnew_; (first | rw [← Ny168.out] at ho17 | (simp only [Int.reduceToNat] at ho17; rw [← Ny168.out] at ho17)); have n0_ := Aside0.mk (Kd.R_elder' (by (with_reducible repeat (first | apply Kd.R_alloc | apply Kd.R_drewN | apply Kd.R_drew)); exact HO167.out) (Kd.R_base ho17) hb); have n1_ := Aside0.mk (Kd.R_lower (Kd.R_new' ho17 (Kd.R_lt (by (with_reducible repeat (first | apply Kd.R_alloc | apply Kd.R_drewN | apply Kd.R_drew)); exact HO167.out))) (below_size (by repeat (first | (with_reducible first | exact HB.out | apply below_alloc | apply pw_below_drewN | apply below_drew1) | exact HB.out)))); have n2_ := Aside0.mk (below_step (by repeat (first | (with_reducible first | exact HB.out | apply below_alloc | apply pw_below_drewN | apply below_drew1) | exact HB.out)) hb); clear HO167; clear HB; have HO167 := n0_; have HO170 := n1_; have HB := n2_; clear n0_ n1_ n2_; clear hb ho17; obtain ⟨Ao18, co18, eo18⟩ := Kd.R_slice HO167.out; subst eo18))
                go_loopg [34] kj2 (fun kq v34 w' => ∃ (x8_2 : List Int) (x34_2 : Int), v34 = .int .i64 x34_2 ∧ Aside0 (spec_ScheduleOf.l0 kq l0 x8_2 y168 (y165.length : Int) x34_2 = some (r1, r2, r3)) ∧ Aside0 (kq ≤ kj2) ∧ Aside0 (Kd.R (Kd.int .i64) 3 w' w.heap.size (fun k_ => some k_ ≠ (v169 : Value).ownBlock) (.slice Ao18 y165.length co18) x8_2) ∧ Aside0 (Kd.R (Kd.int .i64) 3 w' w.heap.size (fun k_ => some k_ ≠ ((.slice Ao18 y165.length co18) : Value).ownBlock) v169 y168) ∧ Aside0 (Below w.heap.size w w'))
                case atStart => exact ⟨(y165), (0), (by first | rfl | (simp; done) | (simp [*]; done)), H', ⟨Nat.le_refl _⟩, ⟨by (with_reducible repeat (first | apply Kd.R_alloc | apply Kd.R_drewN | apply Kd.R_drew)); exact Kd.R_mono HO167.out (fun _ hk => hk.2)⟩, ⟨by (with_reducible repeat (first | apply Kd.R_alloc | apply Kd.R_drewN | apply Kd.R_drew)); exact Kd.R_mono HO170.out (fun _ hk => hk.2)⟩, ⟨by repeat (first | (with_reducible first | exact HB.out | apply below_alloc | apply pw_below_drewN | apply below_drew1) | exact HB.out)⟩⟩
                case round =>
                  clear H'
                  try clear c1
                  try clear p2
                  try clear c3
                  try clear c5
                  try clear c9
                  try clear c10
                  try clear c10b0
                  try clear c10b1
                  try clear c11
                  try clear c11b0
                  try clear c11b1
                  try clear c12
                  try clear c12b0
                  try clear c12b1
                  try clear c13
                  try clear c13b0
                  try clear c13b1
                  try clear p2
                  obtain ⟨x8_2, x34_2, rfl, HA, HK2, HO_8, HO_9, HB⟩ := hrel
                  have hl8_2 := (Kd.R_reads' HO_8.out).1
                  rw [hl8_2] at HO_8
                  (try simp only [hl8_2])
                  (try simp only [hl8_2] at HO_9)
                  cases gk with
                  | zero => exact absurd HA.out (by simp [spec_ScheduleOf.l0])
                  | succ k2 =>
                    have H := HA.out
                    clear HA
                    simp only [spec_ScheduleOf.l0] at H
                    by_cases c19 : x34_2 < (y165.length : Int)
                    · rw [if_pos c19] at H
                      have c19b0 : decide (x34_2 < (y165.length : Int)) = true := decide_eq_true c19
                      clear c19
                      by_cases c20 : 0 ≤ x34_2
                      · rw [if_pos c20] at H
                        have c20b0 : decide (0 ≤ x34_2) = true := decide_eq_true c20
                        clear c20
                        by_cases c21 : x34_2 < (x8_2.length : Int)
                        · rw [if_pos c21] at H
                          have c21b0 : decide (x34_2 < (x8_2.length : Int)) = true := decide_eq_true c21
                          clear c21
                          obtain ⟨y171, hy171⟩ : ∃ y_ : List Int, y_ = (x8_2.set (x34_2 : Int).toNat (-1)) := ⟨_, rfl⟩
                          replace H : (spec_ScheduleOf.l0 k2 l0 y171 y168 (y165.length : Int) (wrap64 (x34_2 + 1))) = some (r1, r2, r3) := by first | (rw [hy171]; with_reducible exact H) | (have H2_ := (Option.bind_some _ _).symm.trans H; rw [hy171]; with_reducible exact H2_) | (have H2_ := (Option.bind_some _ _).symm.trans H; with_reducible exact H2_) | with_reducible exact H | (rw [hy171]; exact H) | exact H
                          have Ny171 := Aside0.mk hy171
                          clear hy171
                          have H' := Aside0.mk H
                          clear H
                          have p22 : 0 ≤ (x34_2 : Int) := of_decide_eq_true (by first | (with_reducible assumption) | assumption)
                          have q22 : (x34_2 : Int) < ((x8_2.length : Int) : Int) := of_decide_eq_true (by first | (with_reducible assumption) | assumption)
                          obtain ⟨go22, co22, eo22, gb22, gl22, cl22, HG22⟩ := Kd.R_form HO_8.out (by omega)
                          (first | cases eo22 | (injection eo22 with ea_ en_ ec_; (first | subst ea_ | (injection ea_ with ea_; subst ea_)); subst ec_; clear en_))
                          have GB22 := Aside0.mk gb22
                          have GG22 := Aside0.mk HG22
                          clear gb22 gl22 HG22
                          obtain ⟨hx22_0, hf22_0⟩ := Kd.R_celln 0 HO_8.out (x34_2 : Int) p22 q22
                          replace p22 := eq_true p22
                          replace q22 := eq_true q22
                          have HP23 := Kd.R_putg HO_8.out (x34_2 : Int) (-1)
                          go_wp2_with (first | ((with_reducible refine gate_store (t := 3) (p := 39) rfl ?_); refine store_event (t := 3) (p := 39) (v := ?vo_w24) (w1 := (wr.setCell ⟨go22, (x34_2 : Int).toNat, none⟩ (.int .i64 (-1)))) ?hg ?ho ?hn ?hr ?_; (case ho => rfl); (case hg => rfl); (case hn => rfl); (case hr => first | (go_simp; done) | (go_simp; rfl)); intro w24 hw; have hg : wr.grownBy w24 (some go22) := (by rw [hw]; exact HP23.2); have hp_ : Kd.R (Kd.int .i64) 3 w24 w.heap.size (fun k_ => some k_ ≠ (v169 : Value).ownBlock) (.slice (some ⟨go22, 0, none⟩) x8_2.length co18) y171 := (by rw [hw, Ny171.out]; exact HP23.1); clear HP23; have n0_ := Aside0.mk (hp_); have n1_ := Aside0.mk (Kd.R_after (v := (.slice (some ⟨go22, 0, none⟩) x8_2.length co18)) (v1 := (.slice (some ⟨go22, 0, none⟩) x8_2.length co18)) (ok := (fun _ => True)) (by (with_reducible repeat (first | apply Kd.R_alloc | apply Kd.R_drewN | apply Kd.R_drew)); exact Kd.R_mono HO_9.out (fun _ hk => ⟨trivial, hk⟩)) hg (.inl rfl)); have n2_ := Aside0.mk ((by rw [hw]; exact below_set (HB.out) GB22.out : Below w.heap.size w w24)); clear HO_8; clear HO_9; clear HB; have HO_8 := n0_; have HO_9 := n1_; have HB := n2_; clear n0_ n1_ n2_; clear hg hw hp_))
                          (try simp only [← hl8_2])
                          go_roundg k2
                          case measure => have := HJ2.out; have := HK2.out; omega
                          case rel => exact ⟨(y171), (wrap64 (x34_2 + 1)), (by first | rfl | (simp; done) | (simp [*]; done)), H', ⟨by have := HJ2.out; have := HK2.out; omega⟩, ⟨by (try simp only [hl8_2]); (with_reducible repeat (first | apply Kd.R_alloc | apply Kd.R_drewN | apply Kd.R_drew)); exact HO_8.out⟩, ⟨by (try simp only [hl8_2]); (with_reducible repeat (first | apply Kd.R_alloc | apply Kd.R_drewN | apply Kd.R_drew)); exact Kd.R_mono HO_9.out (fun _ hk => hk.2)⟩, ⟨by repeat (first | (with_reducible first | exact HB.out | apply below_alloc | apply pw_below_drewN | apply below_drew1) | exact HB.out)⟩⟩
                        · rw [if_neg c21] at H
                          exact absurd H (by simp)
                      · rw [if_neg c20] at H
                        exact absurd H (by simp)
                    · rw [if_neg c19] at H
                      have c19b0 : decide (x34_2 < (y165.length : Int)) = false := decide_eq_false c19
                      try (have c19b0q := c19b0; rw [hl8_2] at c19b0q)
                      try (have c19b0r := c19b0; rw [hl8_1] at c19b0r)
                      clear c19
                      have H' := Aside0.mk H
                      clear H
                      go_wp2
                      go_loopg [7, 11, 12] k2 (fun kq v7 v11 v12 w' => ∃ (x7_3 : List (S66)) (x8_3 : List Int) (x9_3 : List Int) (x11_3 : Int) (x12_3 : Int), v11 = .int .i64 x11_3 ∧ v12 = .int .i64 x12_3 ∧ Aside0 (spec_ScheduleOf.l1 kq l0 x7_3 x8_3 x9_3 x11_3 x12_3 = some (r1, r2, r3)) ∧ Aside0 (kq ≤ k2) ∧ Aside0 (Kd.R k66 66 w' w.heap.size (fun _ => True) v7 x7_3) ∧ Aside0 (Kd.R (Kd.int .i64) 3 w' w.heap.size (fun k_ => some k_ ≠ (v169 : Value).ownBlock) (.slice Ao18 x8_2.length co18) x8_3) ∧ Aside0 (Kd.R (Kd.int .i64) 3 w' w.heap.size (fun k_ => some k_ ≠ ((.slice Ao18 x8_2.length co18) : Value).ownBlock) v169 x9_3) ∧ Aside0 (Below w.heap.size w w'))
                      case atStart => exact ⟨(([] : List (S66))), (x8_2), (y168), (0), (0), (by first | rfl | (simp; done) | (simp [*]; done)), (by first | rfl | (simp; done) | (simp [*]; done)), H', ⟨Nat.le_refl _⟩, ⟨by (try simp only [hl8_2]); first | exact Kd.R_nil _ _ _ _ _ | exact Kd.N_nil _ _ _ _ _ | exact Kd.V_nil _ _ _ _ _ | exact Kd.Q_nil _ _ _ _ _ | exact Kd.S_nil _ _ _ _ _⟩, ⟨by (try simp only [hl8_2]); (with_reducible repeat (first | apply Kd.R_alloc | apply Kd.R_drewN | apply Kd.R_drew)); exact HO_8.out⟩, ⟨by (try simp only [hl8_2]); (with_reducible repeat (first | apply Kd.R_alloc | apply Kd.R_drewN | apply Kd.R_drew)); exact HO_9.out⟩, ⟨by repeat (first | (with_reducible first | exact HB.out | apply below_alloc | apply pw_below_drewN | apply below_drew1) | exact HB.out)⟩⟩
                      case round =>
                        clear H'
                        try clear c1
                        try clear c2
                        try clear p2
                        try clear q2
                        try clear hx2
                        try clear hf2
                        try clear c3
                        try clear c5
                        try clear p6
                        try clear c9
                        try clear c10
                        try clear c10b0
                        try clear c10b1
                        try clear c11
                        try clear c11b0
                        try clear c11b1
                        try clear c12
                        try clear c12b0
                        try clear c12b1
                        try clear c13
                        try clear c13b0
                        try clear c13b1
                        try clear c19
                        try clear c19b0
                        try clear c20
                        try clear c20b0
                        try clear c21
                        try clear c21b0
                        try clear p22
                        try clear q22
                        try clear hx22
                        try clear hf22
                        try clear hx22_0
                        try clear p2
                        try clear p22
                        try clear q22
                        obtain ⟨x7_3, x8_3, x9_3, x11_3, x12_3, rfl, rfl, HA, HK3, HO_7, HO_8, HO_9, HB⟩ := hrel
                        have hl8_3 := (Kd.R_reads' HO_8.out).1
                        rw [hl8_3] at HO_8
                        (try simp only [hl8_3])
                        (try simp only [hl8_3] at HO_7)
                        (try simp only [hl8_3] at HO_9)
                        cases gk with
                        | zero => exact absurd HA.out (by simp [spec_ScheduleOf.l1])
                        | succ k3 =>
                          have H := HA.out
                          clear HA
                          simp only [spec_ScheduleOf.l1] at H
                          by_cases c25 : (x7_3.length : Int) < (l0.length : Int)
                          · rw [if_pos c25] at H
                            have c25b0 : decide ((x7_3.length : Int) < (l0.length : Int)) = true := decide_eq_true c25
                            have c25b1 : decide (x7_3.length < l0.length) = true := decide_eq_true (Int.ofNat_lt.mp c25)
                            clear c25
                            have H' := Aside0.mk H
                            clear H
                            obtain ⟨Ao26, co26, eo26⟩ := Kd.R_slice HO_7.out
                            subst eo26
                            obtain ⟨Ao27, co27, eo27⟩ := Kd.R_slice HO_9.out
                            subst eo27
                            go_wp2
                            go_loopg [7, 11, 50] k3 (fun kq v7 v11 v50 w' => ∃ (x7_4 : List (S66)) (x8_4 : List Int) (x9_4 : List Int) (x11_4 : Int) (x50_4 : Int), v11 = .int .i64 x11_4 ∧ v50 = .int .i64 x50_4 ∧ Aside0 (spec_ScheduleOf.l2 kq l0 x7_4 x8_4 x9_4 x11_4 x12_3 (x9_3.length : Int) x50_4 = some (r1, r2, r3)) ∧ Aside0 (kq ≤ k3) ∧ Aside0 (Kd.R k66 66 w' w.heap.size (fun _ => True) v7 x7_4) ∧ Aside0 (Kd.R (Kd.int .i64) 3 w' w.heap.size (fun k_ => some k_ ≠ ((.slice Ao27 x9_3.length co27) : Value).ownBlock) (.slice Ao18 x8_3.length co18) x8_4) ∧ Aside0 (Kd.R (Kd.int .i64) 3 w' w.heap.size (fun k_ => some k_ ≠ ((.slice Ao18 x8_3.length co18) : Value).ownBlock) (.slice Ao27 x9_3.length co27) x9_4) ∧ Aside0 (Below w.heap.size w w'))
                            case atStart => exact ⟨(x7_3), (x8_3), (x9_3), (x11_3), (0), (by first | rfl | (simp; done) | (simp [*]; done)), (by first | rfl | (simp; done) | (simp [*]; done)), H', ⟨Nat.le_refl _⟩, ⟨by (try simp only [hl8_2]); (try simp only [hl8_3]); (with_reducible repeat (first | apply Kd.R_alloc | apply Kd.R_drewN | apply Kd.R_drew)); exact HO_7.out⟩, ⟨by (try simp only [hl8_2]); (try simp only [hl8_3]); (with_reducible repeat (first | apply Kd.R_alloc | apply Kd.R_drewN | apply Kd.R_drew)); exact HO_8.out⟩, ⟨by (try simp only [hl8_2]); (try simp only [hl8_3]); (with_reducible repeat (first | apply Kd.R_alloc | apply Kd.R_drewN | apply Kd.R_drew)); exact HO_9.out⟩, ⟨by repeat (first | (with_reducible first | exact HB.out | apply below_alloc | apply pw_below_drewN | apply below_drew1) | exact HB.out)⟩⟩
                            case round =>
                              clear H'
                              try clear c1
                              try clear c2
                              try clear p2
                              try clear q2
                              try clear hx2
                              try clear hf2
                              try clear c3
                              try clear c5
                              try clear p6
                              try clear c9
                              try clear c10
                              try clear c10b0
                              try clear c10b1
                              try clear c11
                              try clear c11b0
                              try clear c11b1
                              try clear c12
                              try clear c12b0
                              try clear c12b1
                              try clear c13
                              try clear c13b0
                              try clear c13b1
                              try clear c19
                              try clear c19b0
                              try clear c20
                              try clear c20b0
                              try clear c21
                              try clear c21b0
                              try clear p22
                              try clear q22
                              try clear hx22
                              try clear hf22
                              try clear c25
                              try clear c25b0
                              try clear c25b1
                              try clear hx22_0
                              try clear p2
                              try clear p22
                              try clear p6
                              try clear q2
                              try clear q22
                              obtain ⟨x7_4, x8_4, x9_4, x11_4, x50_4, rfl, rfl, HA, HK4, HO_7, HO_8, HO_9, HB⟩ := hrel
                              have hl8_4 := (Kd.R_reads' HO_8.out).1
                              rw [hl8_4] at HO_8
                              (try simp only [hl8_4])
                              (try simp only [hl8_4] at HO_7)
                              (try simp only [hl8_4] at HO_9)
                              have hl9_4 := (Kd.R_reads' HO_9.out).1
                              rw [hl9_4] at HO_9
                              (try simp only [hl9_4])
                              (try simp only [hl9_4] at HO_7)
                              (try simp only [hl9_4] at HO_8)
                              cases gk with
                              | zero => exact absurd HA.out (by simp [spec_ScheduleOf.l2])
                              | succ k4 =>
                                have H := HA.out
                                clear HA
                                simp only [spec_ScheduleOf.l2] at H
                                by_cases c28 : x50_4 < (x9_3.length : Int)
                                · rw [if_pos c28] at H
                                  have c28b0 : decide (x50_4 < (x9_3.length : Int)) = true := decide_eq_true c28
                                  clear c28
                                  by_cases c29 : 0 ≤ x50_4
                                  · rw [if_pos c29] at H
                                    have c29b0 : decide (0 ≤ x50_4) = true := decide_eq_true c29
                                    clear c29
                                    by_cases c30 : x50_4 < (x9_4.length : Int)
                                    · rw [if_pos c30] at H
                                      have c30b0 : decide (x50_4 < (x9_4.length : Int)) = true := decide_eq_true c30
                                      clear c30
                                      by_cases c31 : (rd x9_4 x50_4) > x12_3
                                      · rw [if_pos c31] at H
                                        have c31b0 : decide (x12_3 < (rd x9_4 x50_4)) = true := decide_eq_true c31
                                        clear c31
                                        have H' := Aside0.mk H
                                        clear H
                                        have p172 : 0 ≤ (x50_4 : Int) := of_decide_eq_true (by first | (with_reducible assumption) | assumption)
                                        have q172 : x50_4 < (x9_4.length : Int) := of_decide_eq_true (by first | (with_reducible assumption) | assumption)
                                        obtain ⟨ad172, e172, hx172_0⟩ := Kd.at_int (Kd.R_reads' HO_9.out).2.2 x50_4 p172 q172
                                        cases e172
                                        replace p172 := eq_true p172
                                        replace q172 := eq_true q172
                                        go_wp2
                                        (try simp only [← hl8_4, ← hl9_4])
                                        go_roundg k4
                                        case measure => have := HJ2.out; have := HK2.out; have := HK3.out; have := HK4.out; omega
                                        case rel => exact ⟨(x7_4), (x8_4), (x9_4), (x11_4), (wrap64 (x50_4 + 1)), (by first | rfl | (simp; done) | (simp [*]; done)), (by first | rfl | (simp; done) | (simp [*]; done)), H', ⟨by have := HJ2.out; have := HK2.out; have := HK3.out; have := HK4.out; omega⟩, ⟨by (try simp only [hl8_2]); (try simp only [hl8_3]); (try simp only [hl8_4]); (try simp only [hl9_4]); (with_reducible repeat (first | apply Kd.R_alloc | apply Kd.R_drewN | apply Kd.R_drew)); exact HO_7.out⟩, ⟨by (try simp only [hl8_2]); (try simp only [hl8_3]); (try simp only [hl8_4]); (try simp only [hl9_4]); (with_reducible repeat (first | apply Kd.R_alloc | apply Kd.R_drewN | apply Kd.R_drew)); exact HO_8.out⟩, ⟨by (try simp only [hl8_2]); (try simp only [hl8_3]); (try simp only [hl8_4]); (try simp only [hl9_4]); (with_reducible repeat (first | apply Kd.R_alloc | apply Kd.R_drewN | apply Kd.R_drew)); exact HO_9.out⟩, ⟨by repeat (first | (with_reducible first | exact HB.out | apply below_alloc | apply pw_below_drewN | apply below_drew1) | exact HB.out)⟩⟩
                                      · rw [if_neg c31] at H
                                        have c31b0 : decide (x12_3 < (rd x9_4 x50_4)) = false := decide_eq_false c31
                                        clear c31
                                        have H' := Aside0.mk H
                                        clear H
                                        have p172 : 0 ≤ (x50_4 : Int) := of_decide_eq_true (by first | (with_reducible assumption) | assumption)
                                        have q172 : x50_4 < (x9_4.length : Int) := of_decide_eq_true (by first | (with_reducible assumption) | assumption)
                                        obtain ⟨ad172, e172, hx172_0⟩ := Kd.at_int (Kd.R_reads' HO_9.out).2.2 x50_4 p172 q172
                                        cases e172
                                        replace p172 := eq_true p172
                                        replace q172 := eq_true q172
                                        go_wp2
                                        go_loopg [7, 11, 61] k4 (fun kq v7 v11 v61 w' => ∃ (x7_5 : List (S66)) (x8_5 : List Int) (x9_5 : List Int) (x11_5 : Int) (x61_5 : Int), v11 = .int .i64 x11_5 ∧ v61 = .int .i64 x61_5 ∧ Aside0 (spec_ScheduleOf.l3 kq l0 x7_5 x8_5 x9_5 x11_5 x12_3 x50_4 (x9_3.length : Int) x50_4 l0 (l0.length : Int) x61_5 = some (r1, r2, r3)) ∧ Aside0 (kq ≤ k4) ∧ Aside0 (Kd.R k66 66 w' w.heap.size (fun _ => True) v7 x7_5) ∧ Aside0 (Kd.R (Kd.int .i64) 3 w' w.heap.size (fun k_ => some k_ ≠ ((.slice (some ad172) x9_4.length co27) : Value).ownBlock) (.slice Ao18 x8_4.length co18) x8_5) ∧ Aside0 (Kd.R (Kd.int .i64) 3 w' w.heap.size (fun k_ => some k_ ≠ ((.slice Ao18 x8_4.length co18) : Value).ownBlock) (.slice (some ad172) x9_4.length co27) x9_5) ∧ Aside0 (Below w.heap.size w w'))
                                        case atStart => exact ⟨(x7_4), (x8_4), (x9_4), (x11_4), (0), (by first | rfl | (simp; done) | (simp [*]; done)), (by first | rfl | (simp; done) | (simp [*]; done)), H', ⟨Nat.le_refl _⟩, ⟨by (try simp only [hl8_2]); (try simp only [hl8_3]); (try simp only [hl8_4]); (try simp only [hl9_4]); (with_reducible repeat (first | apply Kd.R_alloc | apply Kd.R_drewN | apply Kd.R_drew)); exact HO_7.out⟩, ⟨by (try simp only [hl8_2]); (try simp only [hl8_3]); (try simp only [hl8_4]); (try simp only [hl9_4]); (with_reducible repeat (first | apply Kd.R_alloc | apply Kd.R_drewN | apply Kd.R_drew)); exact HO_8.out⟩, ⟨by (try simp only [hl8_2]); (try simp only [hl8_3]); (try simp only [hl8_4]); (try simp only [hl9_4]); (with_reducible repeat (first | apply Kd.R_alloc | apply Kd.R_drewN | apply Kd.R_drew)); exact HO_9.out⟩, ⟨by repeat (first | (with_reducible first | exact HB.out | apply below_alloc | apply pw_below_drewN | apply below_drew1) | exact HB.out)⟩⟩
                                        case round =>
                                          clear H'
                                          try clear c1
                                          try clear p1
                                          try clear q1
                                          try clear hx1
                                          try clear c2
                                          try clear p2
                                          try clear q2
                                          try clear hx2
                                          try clear hf2
                                          try clear c3
                                          try clear c5
                                          try clear p6
                                          try clear c9
                                          try clear c10
                                          try clear c10b0
                                          try clear c10b1
                                          try clear c11
                                          try clear c11b0
                                          try clear c11b1
                                          try clear c12
                                          try clear c12b0
                                          try clear c12b1
                                          try clear c13
                                          try clear c13b0
                                          try clear c13b1
                                          try clear p17
                                          try clear q17
                                          try clear hx17
                                          try clear c19
                                          try clear c19b0
                                          try clear c20
                                          try clear c20b0
                                          try clear c21
                                          try clear c21b0
                                          try clear p22
                                          try clear q22
                                          try clear hx22
                                          try clear hf22
                                          try clear c25
                                          try clear c25b0
                                          try clear c25b1
                                          try clear c28
                                          try clear c28b0
                                          try clear c29
                                          try clear c29b0
                                          try clear c30
                                          try clear c30b0
                                          try clear c31
                                          try clear c31b0
                                          try clear hx172_0
                                          try clear hx22_0
                                          try clear p172
                                          try clear p2
                                          try clear p22
                                          try clear p6
                                          try clear q172
                                          try clear q2
                                          try clear q22
                                          obtain ⟨x7_5, x8_5, x9_5, x11_5, x61_5, rfl, rfl, HA, HK5, HO_7, HO_8, HO_9, HB⟩ := hrel
                                          have hl8_5 := (Kd.R_reads' HO_8.out).1
                                          rw [hl8_5] at HO_8
                                          (try simp only [hl8_5])
                                          (try simp only [hl8_5] at HO_7)
                                          (try simp only [hl8_5] at HO_9)
                                          have hl9_5 := (Kd.R_reads' HO_9.out).1
                                          rw [hl9_5] at HO_9
                                          (try simp only [hl9_5])
                                          (try simp only [hl9_5] at HO_7)
                                          (try simp only [hl9_5] at HO_8)
                                          cases gk with
                                          | zero => exact absurd HA.out (by simp [spec_ScheduleOf.l3])
                                          | succ k5 =>
                                            have H := HA.out
                                            clear HA
                                            simp only [spec_ScheduleOf.l3] at H
                                            by_cases c32 : x61_5 < (l0.length : Int)
                                            · rw [if_pos c32] at H
                                              have c32b0 : decide (x61_5 < (l0.length : Int)) = true := decide_eq_true c32
                                              clear c32
                                              by_cases c33 : 0 ≤ x61_5
                                              · rw [if_pos c33] at H
                                                have c33b0 : decide (0 ≤ x61_5) = true := decide_eq_true c33
                                                clear c33
                                                by_cases c34 : x61_5 < (l0.length : Int)
                                                · rw [if_pos c34] at H
                                                  have c34b0 : decide (x61_5 < (l0.length : Int)) = true := decide_eq_true c34
                                                  clear c34
                                                  by_cases c35 : x61_5 < (x8_5.length : Int)
                                                  · rw [if_pos c35] at H
                                                    have c35b0 : decide (x61_5 < (x8_5.length : Int)) = true := decide_eq_true c35
                                                    clear c35
                                                    have H' := Aside0.mk H
                                                    clear H
                                                    have p173 : 0 ≤ (x61_5 : Int) := of_decide_eq_true (by first | (with_reducible assumption) | assumption)
                                                    have q173 : x61_5 < (l0.length : Int) := of_decide_eq_true (by first | (with_reducible assumption) | assumption)
                                                    obtain ⟨ad173, A173_1, c173_1, e173, hx173_0, hx173_1, hl173_1, hi173_1⟩ := at_T53 HR0.out x61_5 p173 q173
                                                    cases e173
                                                    try replace hx173_0 := (HB.out.cell (World.block_lt_of_cell? w _ hx173_0)).trans hx173_0
                                                    try replace hx173_1 := (HB.out.cell (World.block_lt_of_cell? w _ hx173_1)).trans hx173_1
                                                    have HR173_1 := Aside0.mk hi173_1
                                                    have HC173_1 := Aside0.mk hl173_1
                                                    clear hi173_1 hl173_1
                                                    replace p173 := eq_true p173
                                                    replace q173 := eq_true q173
                                                    go_wp2_with (first | ((with_reducible refine gate_dst (N := 15) rfl ?_); refine box_event ?hg (N := 15) ?hd (cs := #[.int .i64 0, .slice none 0 0]) (t := 53) ?hr ?_; (case hd => rfl); (case hg => rfl); (case hr => first | (go_simp; done) | (go_simp; rfl)); intro gb174 hg w36 hbox hb; have n0_ := Aside0.mk (Kd.R_below (by (with_reducible repeat (first | apply Kd.R_alloc | apply Kd.R_drewN | apply Kd.R_drew)); exact HO_7.out) hb); have n1_ := Aside0.mk (Kd.R_below (by (with_reducible repeat (first | apply Kd.R_alloc | apply Kd.R_drewN | apply Kd.R_drew)); exact HO_8.out) hb); have n2_ := Aside0.mk (Kd.R_below (by (with_reducible repeat (first | apply Kd.R_alloc | apply Kd.R_drewN | apply Kd.R_drew)); exact HO_9.out) hb); have n3_ := Aside0.mk (below_step (by repeat (first | (with_reducible first | exact HB.out | apply below_alloc | apply pw_below_drewN | apply below_drew1) | exact HB.out)) hb); have n4_ := Aside0.mk (hbox); have n5_ := Aside0.mk ((by rw [hg]; exact (below_size (by repeat (first | (with_reducible first | exact HB.out | apply below_alloc | apply pw_below_drewN | apply below_drew1) | exact HB.out))) : w.heap.size ≤ gb174)); have n6_ := Aside0.mk ((by rw [hg]; exact (below_size (by repeat (first | (with_reducible first | exact HB.out | apply below_alloc | apply pw_below_drewN | apply below_drew1) | exact HB.out))) : w.heap.size ≤ gb174)); clear HO_7; clear HO_8; clear HO_9; clear HB; have HO_7 := n0_; have HO_8 := n1_; have HO_9 := n2_; have HB := n3_; have BK174 := n4_; have GW174 := n5_; have GE174 := n6_; clear n0_ n1_ n2_ n3_ n4_ n5_ n6_; clear hb hbox hg; have hcz37_0 : w36.cell? ⟨gb174, 0, none⟩ = some (.int .i64 0) := (blk_cell BK174.out 0).trans rfl; have hcz37_1 : w36.cell? ⟨gb174, 1, none⟩ = some (.slice none 0 0) := (blk_cell BK174.out 1).trans rfl; have hfz37_0 := blk_frozen BK174.out 0; have hfz37_1 := blk_frozen BK174.out 1; have p175 : 0 ≤ (x61_5 : Int) := of_decide_eq_true (by first | (with_reducible assumption) | assumption); have q175 : x61_5 < (x8_5.length : Int) := of_decide_eq_true (by first | (with_reducible assumption) | assumption); obtain ⟨ad175, e175, hx175_0⟩ := Kd.at_int (Kd.R_reads' HO_8.out).2.2 x61_5 p175 q175; cases e175; have hn175_0 : ad175.block ≠ gb174 := Kd.own_blk (Kd.R_ne HO_8.out BK174.out (by decide)); have hn175_1 : ad175.block ≠ gb174 := Kd.own_blk (Kd.R_ne HO_8.out BK174.out (by decide)); replace hx175_0 := (cell_far (p := ⟨gb174, 0, none⟩) (by first | (rw [add_block]; exact hn175_0) | (show (Addr.add _ _).block ≠ _; rw [add_block]; exact hn175_0) | exact hn175_0) (.int .i64 ((rd_T53 l0 x61_5).f0))).trans hx175_0; replace hx175_0 := (cell_far (p := ⟨gb174, 1, none⟩) (by first | (rw [add_block]; exact hn175_1) | (show (Addr.add _ _).block ≠ _; rw [add_block]; exact hn175_1) | exact hn175_1) (.slice A173_1 ((rd_T53 l0 x61_5).f1).length c173_1)).trans hx175_0; clear hn175_0; clear hn175_1; replace p175 := eq_true p175; replace q175 := eq_true q175))
                                                    go_loopg [16, 74] k5 (fun kq v16 v74 w' => ∃ (x16_6 : Bool) (x74_6 : Int), v16 = .bool x16_6 ∧ v74 = .int .i64 x74_6 ∧ Aside0 (spec_ScheduleOf.l4 kq l0 x7_5 x8_5 x9_5 x11_5 x12_3 x50_4 x61_5 x16_6 (x9_3.length : Int) x50_4 l0 (l0.length : Int) x61_5 ((rd_T53 l0 x61_5).f1) (((rd_T53 l0 x61_5).f1).length : Int) x74_6 ((rd_T53 l0 x61_5).f0) ((rd_T53 l0 x61_5).f1) = some (r1, r2, r3)) ∧ Aside0 (kq ≤ k5) ∧ Aside0 (Kd.R k66 66 w' w.heap.size (fun _ => True) u7 x7_5) ∧ Aside0 (Kd.R (Kd.int .i64) 3 w' w.heap.size (fun k_ => some k_ ≠ ((.slice (some ad172) x9_5.length co27) : Value).ownBlock) (.slice (some ad175) x8_5.length co18) x8_5) ∧ Aside0 (Kd.R (Kd.int .i64) 3 w' w.heap.size (fun k_ => some k_ ≠ ((.slice (some ad175) x8_5.length co18) : Value).ownBlock) (.slice (some ad172) x9_5.length co27) x9_5) ∧ Aside0 (w'.heap[gb174]? = some (.cells #[.int .i64 ((rd_T53 l0 x61_5).f0), (.slice A173_1 ((rd_T53 l0 x61_5).f1).length c173_1)] 53 (0, 0))) ∧ Aside0 (Below w.heap.size w w'))
                                                    case atStart => exact ⟨(decide ((rd x8_5 x61_5) < 0)), (0), (by first | rfl | (simp; done) | (simp [*]; done)), (by first | rfl | (simp; done) | (simp [*]; done)), H', ⟨Nat.le_refl _⟩, ⟨by (try simp only [hl8_2]); (try simp only [hl8_3]); (try simp only [hl8_4]); (try simp only [hl9_4]); (try simp only [hl8_5]); (try simp only [hl9_5]); (with_reducible repeat (first | apply Kd.R_alloc | apply Kd.R_drewN | apply Kd.R_drew)); exact Kd.R_mono (Kd.R_far (p := ⟨gb174, 1, none⟩) (Kd.R_far (p := ⟨gb174, 0, none⟩) (Kd.R_types HO_7.out BK174.out (by decide)) (fun _ hk => hk.2) (.int .i64 ((rd_T53 l0 x61_5).f0))) (fun _ hk => hk.2) (.slice A173_1 ((rd_T53 l0 x61_5).f1).length c173_1)) (fun _ hk => trivial)⟩, ⟨by (try simp only [hl8_2]); (try simp only [hl8_3]); (try simp only [hl8_4]); (try simp only [hl9_4]); (try simp only [hl8_5]); (try simp only [hl9_5]); (with_reducible repeat (first | apply Kd.R_alloc | apply Kd.R_drewN | apply Kd.R_drew)); exact Kd.R_mono (Kd.R_far (p := ⟨gb174, 1, none⟩) (Kd.R_far (p := ⟨gb174, 0, none⟩) (Kd.R_types HO_8.out BK174.out (by decide)) (fun _ hk => hk.2) (.int .i64 ((rd_T53 l0 x61_5).f0))) (fun _ hk => hk.2) (.slice A173_1 ((rd_T53 l0 x61_5).f1).length c173_1)) (fun _ hk => hk.1)⟩, ⟨by (try simp only [hl8_2]); (try simp only [hl8_3]); (try simp only [hl8_4]); (try simp only [hl9_4]); (try simp only [hl8_5]); (try simp only [hl9_5]); (with_reducible repeat (first | apply Kd.R_alloc | apply Kd.R_drewN | apply Kd.R_drew)); exact Kd.R_mono (Kd.R_far (p := ⟨gb174, 1, none⟩) (Kd.R_far (p := ⟨gb174, 0, none⟩) (Kd.R_types HO_9.out BK174.out (by decide)) (fun _ hk => hk.2) (.int .i64 ((rd_T53 l0 x61_5).f0))) (fun _ hk => hk.2) (.slice A173_1 ((rd_T53 l0 x61_5).f1).length c173_1)) (fun _ hk => hk.1)⟩, ⟨by (try simp only [hl8_2]); (try simp only [hl8_3]); (try simp only [hl8_4]); (try simp only [hl9_4]); (try simp only [hl8_5]); (try simp only [hl9_5]); (with_reducible repeat (first | refine blk_drewN ?_ _ | refine blk_drew ?_ | refine blk_alloc ?_ _)); refine blk_put (cs := #[.int .i64 ((rd_T53 l0 x61_5).f0), .slice none 0 0]) ?_ 1 _ rfl; (with_reducible repeat (first | refine blk_drewN ?_ _ | refine blk_drew ?_ | refine blk_alloc ?_ _)); refine blk_put (cs := #[.int .i64 0, .slice none 0 0]) ?_ 0 _ rfl; (with_reducible repeat (first | refine blk_drewN ?_ _ | refine blk_drew ?_ | refine blk_alloc ?_ _)); exact BK174.out⟩, ⟨by repeat (first | (with_reducible first | exact HB.out | apply below_alloc | apply pw_below_drewN | apply below_drew1 | refine below_set ?_ GE174.out) | exact HB.out)⟩⟩
                                                    case round =>
                                                      clear H'
                                                      try clear c1
                                                      try clear p1
                                                      try clear q1
                                                      try clear hx1
                                                      try clear c2
                                                      try clear p2
                                                      try clear q2
                                                      try clear hx2
                                                      try clear hf2
                                                      try clear c3
                                                      try clear c5
                                                      try clear p6
                                                      try clear c9
                                                      try clear c10
                                                      try clear c10b0
                                                      try clear c10b1
                                                      try clear c11
                                                      try clear c11b0
                                                      try clear c11b1
                                                      try clear c12
                                                      try clear c12b0
                                                      try clear c12b1
                                                      try clear c13
                                                      try clear c13b0
                                                      try clear c13b1
                                                      try clear c17
                                                      try clear p17
                                                      try clear q17
                                                      try clear hx17
                                                      try clear c19
                                                      try clear c19b0
                                                      try clear c20
                                                      try clear c20b0
                                                      try clear c21
                                                      try clear c21b0
                                                      try clear p22
                                                      try clear q22
                                                      try clear hx22
                                                      try clear hf22
                                                      try clear c25
                                                      try clear c25b0
                                                      try clear c25b1
                                                      try clear c28
                                                      try clear c28b0
                                                      try clear c29
                                                      try clear c29b0
                                                      try clear c30
                                                      try clear c30b0
                                                      try clear c31
                                                      try clear c31b0
                                                      try clear c32
                                                      try clear c32b0
                                                      try clear c33
                                                      try clear c33b0
                                                      try clear c34
                                                      try clear c34b0
                                                      try clear c35
                                                      try clear c35b0
                                                      try clear hcz37_0
                                                      try clear hcz37_1
                                                      try clear hfz37_0
                                                      try clear hfz37_1
                                                      try clear hx172_0
                                                      try clear hx173_0
                                                      try clear hx173_1
                                                      try clear hx175_0
                                                      try clear hx22_0
                                                      try clear p1
                                                      try clear p17
                                                      try clear p172
                                                      try clear p173
                                                      try clear p175
                                                      try clear p2
                                                      try clear p22
                                                      try clear p6
                                                      try clear q1
                                                      try clear q17
                                                      try clear q172
                                                      try clear q173
                                                      try clear q175
                                                      try clear q2
                                                      try clear q22
                                                      obtain ⟨x16_6, x74_6, rfl, rfl, HA, HK6, HO_7, HO_8, HO_9, BK174, HB⟩ := hrel
                                                      cases gk with
                                                      | zero => exact absurd HA.out (by simp [spec_ScheduleOf.l4])
                                                      | succ k6 =>
                                                        have H := HA.out
                                                        clear HA
                                                        simp only [spec_ScheduleOf.l4] at H
                                                        by_cases c38 : x74_6 < (((rd_T53 l0 x61_5).f1).length : Int)
                                                        · rw [if_pos c38] at H
                                                          have c38b0 : decide (x74_6 < (((rd_T53 l0 x61_5).f1).length : Int)) = true := decide_eq_true c38
                                                          clear c38
                                                          by_cases c39 : 0 ≤ x74_6
                                                          · rw [if_pos c39] at H
                                                            have c39b0 : decide (0 ≤ x74_6) = true := decide_eq_true c39
                                                            clear c39
                                                            by_cases c40 : x74_6 < (((rd_T53 l0 x61_5).f1).length : Int)
                                                            · rw [if_pos c40] at H
                                                              have c40b0 : decide (x74_6 < (((rd_T53 l0 x61_5).f1).length : Int)) = true := decide_eq_true c40
                                                              clear c40
                                                              by_cases c41 : x16_6 = true
                                                              · subst c41
                                                                have H1 : (if 0 ≤ (rd ((rd_T53 l0 x61_5).f1) x74_6) then (if (rd ((rd_T53 l0 x61_5).f1) x74_6) < (x8_5.length : Int) then ((spec_l1In.f (rd x8_5 (rd ((rd_T53 l0 x61_5).f1) x74_6)) 0 x12_3).bind fun t178 => (spec_ScheduleOf.l4 k6 l0 x7_5 x8_5 x9_5 x11_5 x12_3 x50_4 x61_5 t178 (x9_3.length : Int) x50_4 l0 (l0.length : Int) x61_5 ((rd_T53 l0 x61_5).f1) (((rd_T53 l0 x61_5).f1).length : Int) (wrap64 (x74_6 + 1)) ((rd_T53 l0 x61_5).f0) ((rd_T53 l0 x61_5).f1))) else (none)) else (none)) = some (r1, r2, r3) := by rw [if_pos rfl] at H; exact H
                                                                clear H
                                                                have H := H1
                                                                clear H1
                                                                by_cases c42 : 0 ≤ (rd ((rd_T53 l0 x61_5).f1) x74_6)
                                                                · rw [if_pos c42] at H
                                                                  have c42b0 : decide (0 ≤ (rd ((rd_T53 l0 x61_5).f1) x74_6)) = true := decide_eq_true c42
                                                                  clear c42
                                                                  by_cases c43 : (rd ((rd_T53 l0 x61_5).f1) x74_6) < (x8_5.length : Int)
                                                                  · rw [if_pos c43] at H
                                                                    have c43b0 : decide ((rd ((rd_T53 l0 x61_5).f1) x74_6) < (x8_5.length : Int)) = true := decide_eq_true c43
                                                                    clear c43
                                                                    replace H := Option.bind_eq_some_iff.mp H
                                                                    obtain ⟨t178, A440, H⟩ := H
                                                                    replace H : (spec_ScheduleOf.l4 k6 l0 x7_5 x8_5 x9_5 x11_5 x12_3 x50_4 x61_5 t178 (x9_3.length : Int) x50_4 l0 (l0.length : Int) x61_5 ((rd_T53 l0 x61_5).f1) (((rd_T53 l0 x61_5).f1).length : Int) (wrap64 (x74_6 + 1)) ((rd_T53 l0 x61_5).f0) ((rd_T53 l0 x61_5).f1)) = some (r1, r2, r3) := H
                                                                    have A44 := Aside0.mk A440
                                                                    clear A440
                                                                    have H' := Aside0.mk H
                                                                    clear H
                                                                    have p176 : 0 ≤ (x74_6 : Int) := of_decide_eq_true (by first | (with_reducible assumption) | assumption)
                                                                    have q176 : x74_6 < (((rd_T53 l0 x61_5).f1).length : Int) := of_decide_eq_true (by first | (with_reducible assumption) | assumption)
                                                                    obtain ⟨ad176, e176, hx176_0⟩ := Kd.at_int HR173_1.out x74_6 p176 q176
                                                                    cases e176
                                                                    try replace hx176_0 := (HB.out.cell (World.block_lt_of_cell? w _ hx176_0)).trans hx176_0
                                                                    replace p176 := eq_true p176
                                                                    replace q176 := eq_true q176
                                                                    have p177 : 0 ≤ ((rd ((rd_T53 l0 x61_5).f1) x74_6) : Int) := of_decide_eq_true (by first | (with_reducible assumption) | assumption)
                                                                    have q177 : (rd ((rd_T53 l0 x61_5).f1) x74_6) < (x8_5.length : Int) := of_decide_eq_true (by first | (with_reducible assumption) | assumption)
                                                                    obtain ⟨ad177, e177, hx177_0⟩ := Kd.at_int (Kd.R_reads' HO_8.out).2.2 (rd ((rd_T53 l0 x61_5).f1) x74_6) p177 q177
                                                                    obtain rfl : ad175 = ad177 := (by injection e177)
                                                                    replace p177 := eq_true p177
                                                                    replace q177 := eq_true q177
                                                                    go_wp2_with (first | (go_at_call 43; (with_reducible refine (spec_l1In.calls (rd x8_5 (rd ((rd_T53 l0 x61_5).f1) x74_6)) 0 x12_3 t178 _ A44.out).mono ?_); rintro e w' ⟨rfl, ⟨nd, rfl⟩⟩))
                                                                    go_roundg k6
                                                                    case measure => have := HJ2.out; have := HK2.out; have := HK3.out; have := HK4.out; have := HK5.out; have := HK6.out; omega
                                                                    case rel => exact ⟨(t178), (wrap64 (x74_6 + 1)), (by first | rfl | (simp; done) | (simp [*]; done)), (by first | rfl | (simp; done) | (simp [*]; done)), H', ⟨by have := HJ2.out; have := HK2.out; have := HK3.out; have := HK4.out; have := HK5.out; have := HK6.out; omega⟩, ⟨by (try simp only [hl8_2]); (try simp only [hl8_3]); (try simp only [hl8_4]); (try simp only [hl9_4]); (try simp only [hl8_5]); (try simp only [hl9_5]); (with_reducible repeat (first | apply Kd.R_alloc | apply Kd.R_drewN | apply Kd.R_drew)); exact HO_7.out⟩, ⟨by (try simp only [hl8_2]); (try simp only [hl8_3]); (try simp only [hl8_4]); (try simp only [hl9_4]); (try simp only [hl8_5]); (try simp only [hl9_5]); (with_reducible repeat (first | apply Kd.R_alloc | apply Kd.R_drewN | apply Kd.R_drew)); exact HO_8.out⟩, ⟨by (try simp only [hl8_2]); (try simp only [hl8_3]); (try simp only [hl8_4]); (try simp only [hl9_4]); (try simp only [hl8_5]); (try simp only [hl9_5]); (with_reducible repeat (first | apply Kd.R_alloc | apply Kd.R_drewN | apply Kd.R_drew)); exact HO_9.out⟩, ⟨by (try simp only [hl8_2]); (try simp only [hl8_3]); (try simp only [hl8_4]); (try simp only [hl9_4]); (try simp only [hl8_5]); (try simp only [hl9_5]); (with_reducible repeat (first | refine blk_drewN ?_ _ | refine blk_drew ?_ | refine blk_alloc ?_ _)); exact BK174.out⟩, ⟨by repeat (first | (with_reducible first | exact HB.out | apply below_alloc | apply pw_below_drewN | apply below_drew1 | refine below_set ?_ GE174.out) | exact HB.out)⟩⟩
                                                                  · rw [if_neg c43] at H
                                                                    exact absurd H (by simp)
                                                                · rw [if_neg c42] at H
                                                                  exact absurd H (by simp)
                                                              · replace c41 := Bool.eq_false_iff.mpr c41
                                                                subst c41
                                                                have H1 : (spec_ScheduleOf.l4 k6 l0 x7_5 x8_5 x9_5 x11_5 x12_3 x50_4 x61_5 false (x9_3.length : Int) x50_4 l0 (l0.length : Int) x61_5 ((rd_T53 l0 x61_5).f1) (((rd_T53 l0 x61_5).f1).length : Int) (wrap64 (x74_6 + 1)) ((rd_T53 l0 x61_5).f0) ((rd_T53 l0 x61_5).f1)) = some (r1, r2, r3) := by rw [if_neg (show ¬ (false = true) by decide)] at H; exact H
                                                                clear H
                                                                have H := H1
                                                                clear H1
                                                                have H' := Aside0.mk H
                                                                clear H
                                                                have p176 : 0 ≤ (x74_6 : Int) := of_decide_eq_true (by first | (with_reducible assumption) | assumption)
                                                                have q176 : x74_6 < (((rd_T53 l0 x61_5).f1).length : Int) := of_decide_eq_true (by first | (with_reducible assumption) | assumption)
                                                                obtain ⟨ad176, e176, hx176_0⟩ := Kd.at_int HR173_1.out x74_6 p176 q176
                                                                cases e176
                                                                try replace hx176_0 := (HB.out.cell (World.block_lt_of_cell? w _ hx176_0)).trans hx176_0
                                                                replace p176 := eq_true p176
                                                                replace q176 := eq_true q176
                                                                go_wp2
                                                                go_roundg k6
                                                                case measure => have := HJ2.out; have := HK2.out; have := HK3.out; have := HK4.out; have := HK5.out; have := HK6.out; omega
                                                                case rel => exact ⟨(false), (wrap64 (x74_6 + 1)), (by first | rfl | (simp; done) | (simp [*]; done)), (by first | rfl | (simp; done) | (simp [*]; done)), H', ⟨by have := HJ2.out; have := HK2.out; have := HK3.out; have := HK4.out; have := HK5.out; have := HK6.out; omega⟩, ⟨by (try simp only [hl8_2]); (try simp only [hl8_3]); (try simp only [hl8_4]); (try simp only [hl9_4]); (try simp only [hl8_5]); (try simp only [hl9_5]); (with_reducible repeat (first | apply Kd.R_alloc | apply Kd.R_drewN | apply Kd.R_drew)); exact HO_7.out⟩, ⟨by (try simp only [hl8_2]); (try simp only [hl8_3]); (try simp only [hl8_4]); (try simp only [hl9_4]); (try simp only [hl8_5]); (try simp only [hl9_5]); (with_reducible repeat (first | apply Kd.R_alloc | apply Kd.R_drewN | apply Kd.R_drew)); exact HO_8.out⟩, ⟨by (try simp only [hl8_2]); (try simp only [hl8_3]); (try simp only [hl8_4]); (try simp only [hl9_4]); (try simp only [hl8_5]); (try simp only [hl9_5]); (with_reducible repeat (first | apply Kd.R_alloc | apply Kd.R_drewN | apply Kd.R_drew)); exact HO_9.out⟩, ⟨by (try simp only [hl8_2]); (try simp only [hl8_3]); (try simp only [hl8_4]); (try simp only [hl9_4]); (try simp only [hl8_5]); (try simp only [hl9_5]); (with_reducible repeat (first | refine blk_drewN ?_ _ | refine blk_drew ?_ | refine blk_alloc ?_ _)); exact BK174.out⟩, ⟨by repeat (first | (with_reducible first | exact HB.out | apply below_alloc | apply pw_below_drewN | apply below_drew1 | refine below_set ?_ GE174.out) | exact HB.out)⟩⟩
                                                            · rw [if_neg c40] at H
                                                              exact absurd H (by simp)
                                                          · rw [if_neg c39] at H
                                                            exact absurd H (by simp)
                                                        · rw [if_neg c38] at H
                                                          have c38b0 : decide (x74_6 < (((rd_T53 l0 x61_5).f1).length : Int)) = false := decide_eq_false c38
                                                          clear c38
                                                          by_cases c45 : x16_6 = true
                                                          · subst c45
                                                            have H1 : (if x7_5.length < 5864062014805 then ((some (x7_5 ++ [(⟨x61_5, x50_4, x12_3⟩ : S66)] : List (S66))).bind fun y179 => (if 0 ≤ x61_5 then (if x61_5 < (x8_5.length : Int) then ((some (x8_5.set (x61_5 : Int).toNat (wrap64 (x12_3 + ((rd_T53 l0 x61_5).f0))) : List Int)).bind fun y182 => (if 0 ≤ x50_4 then (if x50_4 < (x9_5.length : Int) then ((some (x9_5.set (x50_4 : Int).toNat (rd y182 x61_5) : List Int)).bind fun y184 => (if (rd y182 x61_5) > x11_5 then (spec_ScheduleOf.l2 k6 l0 y179 y182 y184 (rd y182 x61_5) x12_3 (x9_3.length : Int) (wrap64 (x50_4 + 1))) else (spec_ScheduleOf.l2 k6 l0 y179 y182 y184 x11_5 x12_3 (x9_3.length : Int) (wrap64 (x50_4 + 1))))) else (none)) else (none))) else (none)) else (none))) else (none)) = some (r1, r2, r3) := by rw [if_pos rfl] at H; exact H
                                                            clear H
                                                            have H := H1
                                                            clear H1
                                                            by_cases c46 : x7_5.length < 5864062014805
                                                            · rw [if_pos c46] at H
                                                              have LMc46 := Aside0.mk c46
                                                              clear c46
                                                              obtain ⟨y179, hy179⟩ : ∃ y_ : List (S66), y_ = (x7_5 ++ [(⟨x61_5, x50_4, x12_3⟩ : S66)]) := ⟨_, rfl⟩
                                                              replace H : (if 0 ≤ x61_5 then (if x61_5 < (x8_5.length : Int) then ((some (x8_5.set (x61_5 : Int).toNat (wrap64 (x12_3 + ((rd_T53 l0 x61_5).f0))) : List Int)).bind fun y182 => (if 0 ≤ x50_4 then (if x50_4 < (x9_5.length : Int) then ((some (x9_5.set (x50_4 : Int).toNat (rd y182 x61_5) : List Int)).bind fun y184 => (if (rd y182 x61_5) > x11_5 then (spec_ScheduleOf.l2 k6 l0 y179 y182 y184 (rd y182 x61_5) x12_3 (x9_3.length : Int) (wrap64 (x50_4 + 1))) else (spec_ScheduleOf.l2 k6 l0 y179 y182 y184 x11_5 x12_3 (x9_3.length : Int) (wrap64 (x50_4 + 1))))) else (none)) else (none))) else (none)) else (none)) = some (r1, r2, r3) := by first | (rw [hy179]; with_reducible exact H) | (have H2_ := (Option.bind_some _ _).symm.trans H; rw [hy179]; with_reducible exact H2_) | (have H2_ := (Option.bind_some _ _).symm.trans H; with_reducible exact H2_) | with_reducible exact H | (rw [hy179]; exact H) | exact H
                                                              have Ny179 := Aside0.mk hy179
                                                              clear hy179
                                                              by_cases c47 : 0 ≤ x61_5
                                                              · rw [if_pos c47] at H
                                                                have c47b0 : decide (0 ≤ x61_5) = true := decide_eq_true c47
                                                                clear c47
                                                                by_cases c48 : x61_5 < (x8_5.length : Int)
                                                                · rw [if_pos c48] at H
                                                                  have c48b0 : decide (x61_5 < (x8_5.length : Int)) = true := decide_eq_true c48
                                                                  clear c48
                                                                  obtain ⟨y182, hy182⟩ : ∃ y_ : List Int, y_ = (x8_5.set (x61_5 : Int).toNat (wrap64 (x12_3 + ((rd_T53 l0 x61_5).f0)))) := ⟨_, rfl⟩
                                                                  replace H : (if 0 ≤ x50_4 then (if x50_4 < (x9_5.length : Int) then ((some (x9_5.set (x50_4 : Int).toNat (rd y182 x61_5) : List Int)).bind fun y184 => (if (rd y182 x61_5) > x11_5 then (spec_ScheduleOf.l2 k6 l0 y179 y182 y184 (rd y182 x61_5) x12_3 (x9_3.length : Int) (wrap64 (x50_4 + 1))) else (spec_ScheduleOf.l2 k6 l0 y179 y182 y184 x11_5 x12_3 (x9_3.length : Int) (wrap64 (x50_4 + 1))))) else (none)) else (none)) = some (r1, r2, r3) := by first | (rw [hy182]; with_reducible exact H) | (have H2_ := (Option.bind_some _ _).symm.trans H; rw [hy182]; with_reducible exact H2_) | (have H2_ := (Option.bind_some _ _).symm.trans H; with_reducible exact H2_) | with_reducible exact H | (rw [hy182]; exact H) | exact H
                                                                  have Ny182 := Aside0.mk hy182
                                                                  clear hy182
                                                                  by_cases c50 : 0 ≤ x50_4
                                                                  · rw [if_pos c50] at H
                                                                    have c50b0 : decide (0 ≤ x50_4) = true := decide_eq_true c50
                                                                    clear c50
                                                                    by_cases c51 : x50_4 < (x9_5.length : Int)
                                                                    · rw [if_pos c51] at H
                                                                      have c51b0 : decide (x50_4 < (x9_5.length : Int)) = true := decide_eq_true c51
                                                                      clear c51
                                                                      obtain ⟨y184, hy184⟩ : ∃ y_ : List Int, y_ = (x9_5.set (x50_4 : Int).toNat (rd y182 x61_5)) := ⟨_, rfl⟩
                                                                      replace H : (if (rd y182 x61_5) > x11_5 then (spec_ScheduleOf.l2 k6 l0 y179 y182 y184 (rd y182 x61_5) x12_3 (x9_3.length : Int) (wrap64 (x50_4 + 1))) else (spec_ScheduleOf.l2 k6 l0 y179 y182 y184 x11_5 x12_3 (x9_3.length : Int) (wrap64 (x50_4 + 1)))) = some (r1, r2, r3) := by first | (rw [hy184]; with_reducible exact H) | (have H2_ := (Option.bind_some _ _).symm.trans H; rw [hy184]; with_reducible exact H2_) | (have H2_ := (Option.bind_some _ _).symm.trans H; with_reducible exact H2_) | with_reducible exact H | (rw [hy184]; exact H) | exact H
                                                                      have Ny184 := Aside0.mk hy184
                                                                      clear hy184
                                                                      by_cases c53 : (rd y182 x61_5) > x11_5
                                                                      · rw [if_pos c53] at H
                                                                        have c53b0 : decide (x11_5 < (rd y182 x61_5)) = true := decide_eq_true c53
                                                                        clear c53
                                                                        have H' := Aside0.mk H
                                                                        clear H
                                                                        go_wp2_with (first | ((with_reducible refine gate_builtin (b := .append) (xs := #[.tmp 90, .tmp 95]) rfl ?_); at_builtin; refine Kd.R_append k66 (w0 := w) w.heap.size rfl (.tmp 90) (.tmp 95) 43 66 (.agg #[(.int .i64 0), (.int .i64 0), (.int .i64 0)]) 24 rfl Try.underlying43 info66 rfl (by decide) (by omega) u7 x7_5 (⟨x61_5, x50_4, x12_3⟩ : S66) [.int .i64 x61_5, .int .i64 x50_4, .int .i64 x12_3] (fun _ => True) (fun _ => False) rfl rfl ?aP (fun _ hk => hk.elim) ?aF ?aO ?aB ?aS ?aL ?_; (case aP => exact k66_mkM _ _ _ (⟨x61_5, x50_4, x12_3⟩ : S66)); (case aB => exact (by repeat (first | (with_reducible first | exact HB.out | apply below_alloc | apply pw_below_drewN | apply below_drew1 | refine below_set ?_ GE174.out) | exact HB.out))); (case aF => exact (fun _ _ => trivial)); (case aO => exact (by (with_reducible repeat (first | apply Kd.R_alloc | apply Kd.R_drewN | apply Kd.R_drew)); exact HO_7.out)); (case aS => exact (below_size (by repeat (first | (with_reducible first | exact HB.out | apply below_alloc | apply pw_below_drewN | apply below_drew1 | refine below_set ?_ GE174.out) | exact HB.out)))); (case aL => have := LMc46.out; omega); intro v180 w54 ho hb hg hat; rw [← Ny179.out] at ho; have n0_ := Aside0.mk (Kd.R_over' (by (with_reducible repeat (first | apply Kd.R_alloc | apply Kd.R_drewN | apply Kd.R_drew)); exact HO_8.out) (Kd.R_typed (by (with_reducible repeat (first | apply Kd.R_alloc | apply Kd.R_drewN | apply Kd.R_drew)); exact HO_7.out)) (by decide) hg); have n1_ := Aside0.mk (Kd.R_over' (by (with_reducible repeat (first | apply Kd.R_alloc | apply Kd.R_drewN | apply Kd.R_drew)); exact HO_9.out) (Kd.R_typed (by (with_reducible repeat (first | apply Kd.R_alloc | apply Kd.R_drewN | apply Kd.R_drew)); exact HO_7.out)) (by decide) hg); have n2_ := Aside0.mk (blk_grown (g := gb174) (o := .cells #[.int .i64 ((rd_T53 l0 x61_5).f0), .slice A173_1 ((rd_T53 l0 x61_5).f1).length c173_1] 53 (0, 0)) (by (with_reducible repeat (first | refine blk_drewN ?_ _ | refine blk_drew ?_ | refine blk_alloc ?_ _)); exact BK174.out) hg (Kd.R_ne HO_7.out BK174.out (by decide))); have n3_ := Aside0.mk (hb); have n4_ := Aside0.mk (ho); clear HO_8; clear HO_9; clear BK174; clear HB; clear HO_7; have HO_8 := n0_; have HO_9 := n1_; have BK174 := n2_; have HB := n3_; have HO181 := n4_; clear n0_ n1_ n2_ n3_ n4_; clear ho hb hg hat; have hcz55_0 : w54.cell? ⟨gb174, 0, none⟩ = some (.int .i64 ((rd_T53 l0 x61_5).f0)) := (blk_cell BK174.out 0).trans rfl; have hcz55_1 : w54.cell? ⟨gb174, 1, none⟩ = some (.slice A173_1 ((rd_T53 l0 x61_5).f1).length c173_1) := (blk_cell BK174.out 1).trans rfl; have hfz55_0 := blk_frozen BK174.out 0; have hfz55_1 := blk_frozen BK174.out 1; have p49 : 0 ≤ (x61_5 : Int) := of_decide_eq_true (by first | (with_reducible assumption) | assumption); have q49 : (x61_5 : Int) < ((x8_5.length : Int) : Int) := of_decide_eq_true (by first | (with_reducible assumption) | assumption); obtain ⟨go49, co49, eo49, gb49, gl49, cl49, HG49⟩ := Kd.R_form HO_8.out (by omega); (first | cases eo49 | (injection eo49 with ea_ en_ ec_; (first | subst ea_ | (injection ea_ with ea_; subst ea_)); subst ec_; clear en_)); have GB49 := Aside0.mk gb49; have GG49 := Aside0.mk HG49; clear gb49 gl49 HG49; (first | simp only [add_plain] at hx175_0 | skip); (first | simp only [add_plain] at hx177_0 | skip); obtain ⟨hx49_0, hf49_0⟩ := Kd.R_celln 0 HO_8.out (x61_5 : Int) p49 q49; replace p49 := eq_true p49; replace q49 := eq_true q49; obtain ⟨hy56_, hz56_⟩ := Kd.R_celln 0 HO_8.out (x61_5 : Int) (of_decide_eq_true (by first | (with_reducible assumption) | assumption)) (of_decide_eq_true (by first | (with_reducible assumption) | assumption)); have HP56 := Kd.R_putg HO_8.out (x61_5 : Int) (wrap64 (x12_3 + ((rd_T53 l0 x61_5).f0)))) | ((with_reducible refine gate_store (t := 3) (p := 103) rfl ?_); refine store_event (t := 3) (p := 103) (v := ?vo_w57) (w1 := (w54.setCell ⟨go49, (x61_5 : Int).toNat, none⟩ (.int .i64 (wrap64 (x12_3 + ((rd_T53 l0 x61_5).f0)))))) ?hg ?ho ?hn ?hr ?_; (case ho => rfl); (case hg => rfl); (case hn => rfl); (case hr => first | (go_simp; done) | (go_simp; rfl)); intro w57 hw; have hg : w54.grownBy w57 (some go49) := (by rw [hw]; exact HP56.2); have hp_ : Kd.R (Kd.int .i64) 3 w57 w.heap.size (fun k_ => some k_ ≠ (.slice (some ad172) x9_5.length co27 : Value).ownBlock) (.slice (some ⟨go49, 0, none⟩) x8_5.length co18) y182 := (by rw [hw, Ny182.out]; exact HP56.1); clear HP56; have n0_ := Aside0.mk (hp_); have n1_ := Aside0.mk (Kd.R_after (v := (.slice (some ⟨go49, 0, none⟩) x8_5.length co18)) (v1 := (.slice (some ⟨go49, 0, none⟩) x8_5.length co18)) (ok := (fun _ => True)) (by (with_reducible repeat (first | apply Kd.R_alloc | apply Kd.R_drewN | apply Kd.R_drew)); exact Kd.R_mono HO_9.out (fun _ hk => ⟨trivial, hk⟩)) hg (.inl rfl)); have n2_ := Aside0.mk (blk_grown (g := gb174) (o := .cells #[.int .i64 ((rd_T53 l0 x61_5).f0), .slice A173_1 ((rd_T53 l0 x61_5).f1).length c173_1] 53 (0, 0)) (by (with_reducible repeat (first | refine blk_drewN ?_ _ | refine blk_drew ?_ | refine blk_alloc ?_ _)); exact BK174.out) hg (Kd.R_ne HO_8.out BK174.out (by decide))); have n3_ := Aside0.mk (Kd.R_over' (v := (.slice (some ⟨go49, 0, none⟩) x8_5.length co18)) (by (with_reducible repeat (first | apply Kd.R_alloc | apply Kd.R_drewN | apply Kd.R_drew)); exact HO181.out) (Kd.R_typed HO_8.out) (by decide) hg); have n4_ := Aside0.mk ((by rw [hw]; exact below_set (HB.out) GB49.out : Below w.heap.size w w57)); clear HO_8; clear HO_9; clear BK174; clear HO181; clear HB; have HO_8 := n0_; have HO_9 := n1_; have BK174 := n2_; have HO181 := n3_; have HB := n4_; clear n0_ n1_ n2_ n3_ n4_; clear hg hw hp_; have p183 : 0 ≤ (x61_5 : Int) := of_decide_eq_true (by first | (with_reducible assumption) | assumption); have q183 : x61_5 < (y182.length : Int) := (by have h_ : (x61_5 : Int) < ((x8_5.length : Int) : Int) := of_decide_eq_true (by first | (with_reducible assumption) | assumption); first | (have e_ := (Kd.R_reads' HO_8.out).1; omega) | simpa only [Ny182.out, List.length_set] using h_); have ql183 : ((x61_5 : Int) < ((x8_5.length : Int) : Int)) = True := eq_true (of_decide_eq_true (by first | (with_reducible assumption) | assumption)); obtain ⟨ad183, e183, hx183_0⟩ := Kd.at_int (Kd.R_reads' HO_8.out).2.2 x61_5 p183 q183; obtain rfl : (⟨go49, 0, none⟩ : Addr) = ad183 := (by injection e183); (first | simp only [add_plain] at hx183_0 | simp only [add_at] at hx183_0 | simp only [Addr.add, Nat.zero_add] at hx183_0 | skip); replace p183 := eq_true p183; replace q183 := eq_true q183; have p52 : 0 ≤ (x50_4 : Int) := of_decide_eq_true (by first | (with_reducible assumption) | assumption); have q52 : (x50_4 : Int) < ((x9_5.length : Int) : Int) := of_decide_eq_true (by first | (with_reducible assumption) | assumption); obtain ⟨go52, co52, eo52, gb52, gl52, cl52, HG52⟩ := Kd.R_form HO_9.out (by omega); (first | cases eo52 | (injection eo52 with ea_ en_ ec_; (first | subst ea_ | (injection ea_ with ea_; subst ea_)); subst ec_; clear en_)); have GB52 := Aside0.mk gb52; have GG52 := Aside0.mk HG52; clear gb52 gl52 HG52; (first | simp only [add_plain] at hx172_0 | skip); obtain ⟨hx52_0, hf52_0⟩ := Kd.R_celln 0 HO_9.out (x50_4 : Int) p52 q52; replace p52 := eq_true p52; replace q52 := eq_true q52; have n_ := Aside0.mk (Kd.R_mono (ok' := (fun k_ => some k_ ≠ (.slice (some ⟨go49, 0, none⟩) x8_5.length co18 : Value).ownBlock)) HO_9.out (fun k_ hk => hk.2)); clear HO_9; have HO_9 := n_; clear n_; obtain ⟨hy58_, hz58_⟩ := Kd.R_celln 0 HO_9.out (x50_4 : Int) (of_decide_eq_true (by first | (with_reducible assumption) | assumption)) (of_decide_eq_true (by first | (with_reducible assumption) | assumption)); have HP58 := Kd.R_putg HO_9.out (x50_4 : Int) (rd y182 x61_5)) | ((with_reducible refine gate_store (t := 3) (p := 110) rfl ?_); refine store_event (t := 3) (p := 110) (v := ?vo_w59) (w1 := (w57.setCell ⟨go52, (x50_4 : Int).toNat, none⟩ (.int .i64 (rd y182 x61_5)))) ?hg ?ho ?hn ?hr ?_; (case ho => rfl); (case hg => rfl); (case hn => rfl); (case hr => first | (go_simp; done) | (go_simp; rfl)); intro w59 hw; have hg : w57.grownBy w59 (some go52) := (by rw [hw]; exact HP58.2); have hp_ : Kd.R (Kd.int .i64) 3 w59 w.heap.size (fun k_ => some k_ ≠ (.slice (some ⟨go49, 0, none⟩) x8_5.length co18 : Value).ownBlock) (.slice (some ⟨go52, 0, none⟩) x9_5.length co27) y184 := (by rw [hw, Ny184.out]; exact HP58.1); clear HP58; have n0_ := Aside0.mk (Kd.R_after (v := (.slice (some ⟨go52, 0, none⟩) x9_5.length co27)) (v1 := (.slice (some ⟨go52, 0, none⟩) x9_5.length co27)) (ok := (fun _ => True)) (by (with_reducible repeat (first | apply Kd.R_alloc | apply Kd.R_drewN | apply Kd.R_drew)); exact Kd.R_mono HO_8.out (fun _ hk => ⟨trivial, hk⟩)) hg (.inl rfl)); have n1_ := Aside0.mk (hp_); have n2_ := Aside0.mk (blk_grown (g := gb174) (o := .cells #[.int .i64 ((rd_T53 l0 x61_5).f0), .slice A173_1 ((rd_T53 l0 x61_5).f1).length c173_1] 53 (0, 0)) (by (with_reducible repeat (first | refine blk_drewN ?_ _ | refine blk_drew ?_ | refine blk_alloc ?_ _)); exact BK174.out) hg (Kd.R_ne HO_9.out BK174.out (by decide))); have n3_ := Aside0.mk (Kd.R_over' (v := (.slice (some ⟨go52, 0, none⟩) x9_5.length co27)) (by (with_reducible repeat (first | apply Kd.R_alloc | apply Kd.R_drewN | apply Kd.R_drew)); exact HO181.out) (Kd.R_typed HO_9.out) (by decide) hg); have n4_ := Aside0.mk ((by rw [hw]; exact below_set (HB.out) GB52.out : Below w.heap.size w w59)); clear HO_8; clear HO_9; clear BK174; clear HO181; clear HB; have HO_8 := n0_; have HO_9 := n1_; have BK174 := n2_; have HO181 := n3_; have HB := n4_; clear n0_ n1_ n2_ n3_ n4_; clear hg hw hp_; have p185 : 0 ≤ (x61_5 : Int) := of_decide_eq_true (by first | (with_reducible assumption) | assumption); have q185 : x61_5 < (y182.length : Int) := (by have h_ : (x61_5 : Int) < ((x8_5.length : Int) : Int) := of_decide_eq_true (by first | (with_reducible assumption) | assumption); first | (have e_ := (Kd.R_reads' HO_8.out).1; omega) | simpa only [Ny182.out, List.length_set] using h_); have ql185 : ((x61_5 : Int) < ((x8_5.length : Int) : Int)) = True := eq_true (of_decide_eq_true (by first | (with_reducible assumption) | assumption)); obtain ⟨ad185, e185, hx185_0⟩ := Kd.at_int (Kd.R_reads' HO_8.out).2.2 x61_5 p185 q185; obtain rfl : (⟨go49, 0, none⟩ : Addr) = ad185 := (by injection e185); (first | simp only [add_plain] at hx185_0 | simp only [add_at] at hx185_0 | simp only [Addr.add, Nat.zero_add] at hx185_0 | skip); replace p185 := eq_true p185; replace q185 := eq_true q185; have p186 : 0 ≤ (x61_5 : Int) := of_decide_eq_true (by first | (with_reducible assumption) | assumption); have q186 : x61_5 < (y182.length : Int) := (by have h_ : (x61_5 : Int) < ((x8_5.length : Int) : Int) := of_decide_eq_true (by first | (with_reducible assumption) | assumption); first | (have e_ := (Kd.R_reads' HO_8.out).1; omega) | simpa only [Ny182.out, List.length_set] using h_); have ql186 : ((x61_5 : Int) < ((x8_5.length : Int) : Int)) = True := eq_true (of_decide_eq_true (by first | (with_reducible assumption) | assumption)); obtain ⟨ad186, e186, hx186_0⟩ := Kd.at_int (Kd.R_reads' HO_8.out).2.2 x61_5 p186 q186; obtain rfl : (⟨go49, 0, none⟩ : Addr) = ad186 := (by injection e186); (first | simp only [add_plain] at hx186_0 | simp only [add_at] at hx186_0 | simp only [Addr.add, Nat.zero_add] at hx186_0 | skip); replace p186 := eq_true p186; replace q186 := eq_true q186))
                                                                        (try simp only [← hl8_4, ← hl9_4, ← hl8_5, ← hl9_5])
                                                                        go_roundg k6
                                                                        case measure => have := HJ2.out; have := HK2.out; have := HK3.out; have := HK4.out; have := HK5.out; have := HK6.out; omega
                                                                        case rel => exact ⟨(y179), (y182), (y184), (rd y182 x61_5), (wrap64 (x50_4 + 1)), (by first | rfl | (simp; done) | (simp [*]; done)), (by first | rfl | (simp; done) | (simp [*]; done)), H', ⟨by have := HJ2.out; have := HK2.out; have := HK3.out; have := HK4.out; have := HK5.out; have := HK6.out; omega⟩, ⟨by (try simp only [hl8_2]); (try simp only [hl8_3]); (try simp only [hl8_4]); (try simp only [hl9_4]); (try simp only [hl8_5]); (try simp only [hl9_5]); (with_reducible repeat (first | apply Kd.R_alloc | apply Kd.R_drewN | apply Kd.R_drew)); exact HO181.out⟩, ⟨by (try simp only [hl8_2]); (try simp only [hl8_3]); (try simp only [hl8_4]); (try simp only [hl9_4]); (try simp only [hl8_5]); (try simp only [hl9_5]); (with_reducible repeat (first | apply Kd.R_alloc | apply Kd.R_drewN | apply Kd.R_drew)); exact Kd.R_mono HO_8.out (fun _ hk => hk.2)⟩, ⟨by (try simp only [hl8_2]); (try simp only [hl8_3]); (try simp only [hl8_4]); (try simp only [hl9_4]); (try simp only [hl8_5]); (try simp only [hl9_5]); (with_reducible repeat (first | apply Kd.R_alloc | apply Kd.R_drewN | apply Kd.R_drew)); exact HO_9.out⟩, ⟨by repeat (first | (with_reducible first | exact HB.out | apply below_alloc | apply pw_below_drewN | apply below_drew1 | refine below_set ?_ GE174.out) | exact HB.out)⟩⟩
                                                                      · rw [if_neg c53] at H
                                                                        have c53b0 : decide (x11_5 < (rd y182 x61_5)) = false := decide_eq_false c53
                                                                        clear c53
                                                                        have H' := Aside0.mk H
                                                                        clear H
                                                                        go_wp2_with (first | ((with_reducible refine gate_builtin (b := .append) (xs := #[.tmp 90, .tmp 95]) rfl ?_); at_builtin; refine Kd.R_append k66 (w0 := w) w.heap.size rfl (.tmp 90) (.tmp 95) 43 66 (.agg #[(.int .i64 0), (.int .i64 0), (.int .i64 0)]) 24 rfl Try.underlying43 info66 rfl (by decide) (by omega) u7 x7_5 (⟨x61_5, x50_4, x12_3⟩ : S66) [.int .i64 x61_5, .int .i64 x50_4, .int .i64 x12_3] (fun _ => True) (fun _ => False) rfl rfl ?aP (fun _ hk => hk.elim) ?aF ?aO ?aB ?aS ?aL ?_; (case aP => exact k66_mkM _ _ _ (⟨x61_5, x50_4, x12_3⟩ : S66)); (case aB => exact (by repeat (first | (with_reducible first | exact HB.out | apply below_alloc | apply pw_below_drewN | apply below_drew1 | refine below_set ?_ GE174.out) | exact HB.out))); (case aF => exact (fun _ _ => trivial)); (case aO => exact (by (with_reducible repeat (first | apply Kd.R_alloc | apply Kd.R_drewN | apply Kd.R_drew)); exact HO_7.out)); (case aS => exact (below_size (by repeat (first | (with_reducible first | exact HB.out | apply below_alloc | apply pw_below_drewN | apply below_drew1 | refine below_set ?_ GE174.out) | exact HB.out)))); (case aL => have := LMc46.out; omega); intro v180 w60 ho hb hg hat; rw [← Ny179.out] at ho; have n0_ := Aside0.mk (Kd.R_over' (by (with_reducible repeat (first | apply Kd.R_alloc | apply Kd.R_drewN | apply Kd.R_drew)); exact HO_8.out) (Kd.R_typed (by (with_reducible repeat (first | apply Kd.R_alloc | apply Kd.R_drewN | apply Kd.R_drew)); exact HO_7.out)) (by decide) hg); have n1_ := Aside0.mk (Kd.R_over' (by (with_reducible repeat (first | apply Kd.R_alloc | apply Kd.R_drewN | apply Kd.R_drew)); exact HO_9.out) (Kd.R_typed (by (with_reducible repeat (first | apply Kd.R_alloc | apply Kd.R_drewN | apply Kd.R_drew)); exact HO_7.out)) (by decide) hg); have n2_ := Aside0.mk (blk_grown (g := gb174) (o := .cells #[.int .i64 ((rd_T53 l0 x61_5).f0), .slice A173_1 ((rd_T53 l0 x61_5).f1).length c173_1] 53 (0, 0)) (by (with_reducible repeat (first | refine blk_drewN ?_ _ | refine blk_drew ?_ | refine blk_alloc ?_ _)); exact BK174.out) hg (Kd.R_ne HO_7.out BK174.out (by decide))); have n3_ := Aside0.mk (hb); have n4_ := Aside0.mk (ho); clear HO_8; clear HO_9; clear BK174; clear HB; clear HO_7; have HO_8 := n0_; have HO_9 := n1_; have BK174 := n2_; have HB := n3_; have HO181 := n4_; clear n0_ n1_ n2_ n3_ n4_; clear ho hb hg hat; have hcz61_0 : w60.cell? ⟨gb174, 0, none⟩ = some (.int .i64 ((rd_T53 l0 x61_5).f0)) := (blk_cell BK174.out 0).trans rfl; have hcz61_1 : w60.cell? ⟨gb174, 1, none⟩ = some (.slice A173_1 ((rd_T53 l0 x61_5).f1).length c173_1) := (blk_cell BK174.out 1).trans rfl; have hfz61_0 := blk_frozen BK174.out 0; have hfz61_1 := blk_frozen BK174.out 1; have p49 : 0 ≤ (x61_5 : Int) := of_decide_eq_true (by first | (with_reducible assumption) | assumption); have q49 : (x61_5 : Int) < ((x8_5.length : Int) : Int) := of_decide_eq_true (by first | (with_reducible assumption) | assumption); obtain ⟨go49, co49, eo49, gb49, gl49, cl49, HG49⟩ := Kd.R_form HO_8.out (by omega); (first | cases eo49 | (injection eo49 with ea_ en_ ec_; (first | subst ea_ | (injection ea_ with ea_; subst ea_)); subst ec_; clear en_)); have GB49 := Aside0.mk gb49; have GG49 := Aside0.mk HG49; clear gb49 gl49 HG49; obtain ⟨hx49_0, hf49_0⟩ := Kd.R_celln 0 HO_8.out (x61_5 : Int) p49 q49; replace p49 := eq_true p49; replace q49 := eq_true q49; obtain ⟨hy62_, hz62_⟩ := Kd.R_celln 0 HO_8.out (x61_5 : Int) (of_decide_eq_true (by first | (with_reducible assumption) | assumption)) (of_decide_eq_true (by first | (with_reducible assumption) | assumption)); have HP62 := Kd.R_putg HO_8.out (x61_5 : Int) (wrap64 (x12_3 + ((rd_T53 l0 x61_5).f0)))) | ((with_reducible refine gate_store (t := 3) (p := 103) rfl ?_); refine store_event (t := 3) (p := 103) (v := ?vo_w63) (w1 := (w60.setCell ⟨go49, (x61_5 : Int).toNat, none⟩ (.int .i64 (wrap64 (x12_3 + ((rd_T53 l0 x61_5).f0)))))) ?hg ?ho ?hn ?hr ?_; (case ho => rfl); (case hg => rfl); (case hn => rfl); (case hr => first | (go_simp; done) | (go_simp; rfl)); intro w63 hw; have hg : w60.grownBy w63 (some go49) := (by rw [hw]; exact HP62.2); have hp_ : Kd.R (Kd.int .i64) 3 w63 w.heap.size (fun k_ => some k_ ≠ (.slice (some ad172) x9_5.length co27 : Value).ownBlock) (.slice (some ⟨go49, 0, none⟩) x8_5.length co18) y182 := (by rw [hw, Ny182.out]; exact HP62.1); clear HP62; have n0_ := Aside0.mk (hp_); have n1_ := Aside0.mk (Kd.R_after (v := (.slice (some ⟨go49, 0, none⟩) x8_5.length co18)) (v1 := (.slice (some ⟨go49, 0, none⟩) x8_5.length co18)) (ok := (fun _ => True)) (by (with_reducible repeat (first | apply Kd.R_alloc | apply Kd.R_drewN | apply Kd.R_drew)); exact Kd.R_mono HO_9.out (fun _ hk => ⟨trivial, hk⟩)) hg (.inl rfl)); have n2_ := Aside0.mk (blk_grown (g := gb174) (o := .cells #[.int .i64 ((rd_T53 l0 x61_5).f0), .slice A173_1 ((rd_T53 l0 x61_5).f1).length c173_1] 53 (0, 0)) (by (with_reducible repeat (first | refine blk_drewN ?_ _ | refine blk_drew ?_ | refine blk_alloc ?_ _)); exact BK174.out) hg (Kd.R_ne HO_8.out BK174.out (by decide))); have n3_ := Aside0.mk (Kd.R_over' (v := (.slice (some ⟨go49, 0, none⟩) x8_5.length co18)) (by (with_reducible repeat (first | apply Kd.R_alloc | apply Kd.R_drewN | apply Kd.R_drew)); exact HO181.out) (Kd.R_typed HO_8.out) (by decide) hg); have n4_ := Aside0.mk ((by rw [hw]; exact below_set (HB.out) GB49.out : Below w.heap.size w w63)); clear HO_8; clear HO_9; clear BK174; clear HO181; clear HB; have HO_8 := n0_; have HO_9 := n1_; have BK174 := n2_; have HO181 := n3_; have HB := n4_; clear n0_ n1_ n2_ n3_ n4_; clear hg hw hp_; have p183 : 0 ≤ (x61_5 : Int) := of_decide_eq_true (by first | (with_reducible assumption) | assumption); have q183 : x61_5 < (y182.length : Int) := (by have h_ : (x61_5 : Int) < ((x8_5.length : Int) : Int) := of_decide_eq_true (by first | (with_reducible assumption) | assumption); first | (have e_ := (Kd.R_reads' HO_8.out).1; omega) | simpa only [Ny182.out, List.length_set] using h_); have ql183 : ((x61_5 : Int) < ((x8_5.length : Int) : Int)) = True := eq_true (of_decide_eq_true (by first | (with_reducible assumption) | assumption)); obtain ⟨ad183, e183, hx183_0⟩ := Kd.at_int (Kd.R_reads' HO_8.out).2.2 x61_5 p183 q183; obtain rfl : (⟨go49, 0, none⟩ : Addr) = ad183 := (by injection e183); (first | simp only [add_plain] at hx183_0 | simp only [add_at] at hx183_0 | simp only [Addr.add, Nat.zero_add] at hx183_0 | skip); replace p183 := eq_true p183; replace q183 := eq_true q183; have p52 : 0 ≤ (x50_4 : Int) := of_decide_eq_true (by first | (with_reducible assumption) | assumption); have q52 : (x50_4 : Int) < ((x9_5.length : Int) : Int) := of_decide_eq_true (by first | (with_reducible assumption) | assumption); obtain ⟨go52, co52, eo52, gb52, gl52, cl52, HG52⟩ := Kd.R_form HO_9.out (by omega); (first | cases eo52 | (injection eo52 with ea_ en_ ec_; (first | subst ea_ | (injection ea_ with ea_; subst ea_)); subst ec_; clear en_)); have GB52 := Aside0.mk gb52; have GG52 := Aside0.mk HG52; clear gb52 gl52 HG52; obtain ⟨hx52_0, hf52_0⟩ := Kd.R_celln 0 HO_9.out (x50_4 : Int) p52 q52; replace p52 := eq_true p52; replace q52 := eq_true q52; have n_ := Aside0.mk (Kd.R_mono (ok' := (fun k_ => some k_ ≠ (.slice (some ⟨go49, 0, none⟩) x8_5.length co18 : Value).ownBlock)) HO_9.out (fun k_ hk => hk.2)); clear HO_9; have HO_9 := n_; clear n_; obtain ⟨hy64_, hz64_⟩ := Kd.R_celln 0 HO_9.out (x50_4 : Int) (of_decide_eq_true (by first | (with_reducible assumption) | assumption)) (of_decide_eq_true (by first | (with_reducible assumption) | assumption)); have HP64 := Kd.R_putg HO_9.out (x50_4 : Int) (rd y182 x61_5)) | ((with_reducible refine gate_store (t := 3) (p := 110) rfl ?_); refine store_event (t := 3) (p := 110) (v := ?vo_w65) (w1 := (w63.setCell ⟨go52, (x50_4 : Int).toNat, none⟩ (.int .i64 (rd y182 x61_5)))) ?hg ?ho ?hn ?hr ?_; (case ho => rfl); (case hg => rfl); (case hn => rfl); (case hr => first | (go_simp; done) | (go_simp; rfl)); intro w65 hw; have hg : w63.grownBy w65 (some go52) := (by rw [hw]; exact HP64.2); have hp_ : Kd.R (Kd.int .i64) 3 w65 w.heap.size (fun k_ => some k_ ≠ (.slice (some ⟨go49, 0, none⟩) x8_5.length co18 : Value).ownBlock) (.slice (some ⟨go52, 0, none⟩) x9_5.length co27) y184 := (by rw [hw, Ny184.out]; exact HP64.1); clear HP64; have n0_ := Aside0.mk (Kd.R_after (v := (.slice (some ⟨go52, 0, none⟩) x9_5.length co27)) (v1 := (.slice (some ⟨go52, 0, none⟩) x9_5.length co27)) (ok := (fun _ => True)) (by (with_reducible repeat (first | apply Kd.R_alloc | apply Kd.R_drewN | apply Kd.R_drew)); exact Kd.R_mono HO_8.out (fun _ hk => ⟨trivial, hk⟩)) hg (.inl rfl)); have n1_ := Aside0.mk (hp_); have n2_ := Aside0.mk (blk_grown (g := gb174) (o := .cells #[.int .i64 ((rd_T53 l0 x61_5).f0), .slice A173_1 ((rd_T53 l0 x61_5).f1).length c173_1] 53 (0, 0)) (by (with_reducible repeat (first | refine blk_drewN ?_ _ | refine blk_drew ?_ | refine blk_alloc ?_ _)); exact BK174.out) hg (Kd.R_ne HO_9.out BK174.out (by decide))); have n3_ := Aside0.mk (Kd.R_over' (v := (.slice (some ⟨go52, 0, none⟩) x9_5.length co27)) (by (with_reducible repeat (first | apply Kd.R_alloc | apply Kd.R_drewN | apply Kd.R_drew)); exact HO181.out) (Kd.R_typed HO_9.out) (by decide) hg); have n4_ := Aside0.mk ((by rw [hw]; exact below_set (HB.out) GB52.out : Below w.heap.size w w65)); clear HO_8; clear HO_9; clear BK174; clear HO181; clear HB; have HO_8 := n0_; have HO_9 := n1_; have BK174 := n2_; have HO181 := n3_; have HB := n4_; clear n0_ n1_ n2_ n3_ n4_; clear hg hw hp_; have p185 : 0 ≤ (x61_5 : Int) := of_decide_eq_true (by first | (with_reducible assumption) | assumption); have q185 : x61_5 < (y182.length : Int) := (by have h_ : (x61_5 : Int) < ((x8_5.length : Int) : Int) := of_decide_eq_true (by first | (with_reducible assumption) | assumption); first | (have e_ := (Kd.R_reads' HO_8.out).1; omega) | simpa only [Ny182.out, List.length_set] using h_); have ql185 : ((x61_5 : Int) < ((x8_5.length : Int) : Int)) = True := eq_true (of_decide_eq_true (by first | (with_reducible assumption) | assumption)); obtain ⟨ad185, e185, hx185_0⟩ := Kd.at_int (Kd.R_reads' HO_8.out).2.2 x61_5 p185 q185; obtain rfl : (⟨go49, 0, none⟩ : Addr) = ad185 := (by injection e185); (first | simp only [add_plain] at hx185_0 | simp only [add_at] at hx185_0 | simp only [Addr.add, Nat.zero_add] at hx185_0 | skip); replace p185 := eq_true p185; replace q185 := eq_true q185))
                                                                        (try simp only [← hl8_4, ← hl9_4, ← hl8_5, ← hl9_5])
                                                                        go_roundg k6
                                                                        case measure => have := HJ2.out; have := HK2.out; have := HK3.out; have := HK4.out; have := HK5.out; have := HK6.out; omega
                                                                        case rel => exact ⟨(y179), (y182), (y184), (x11_5), (wrap64 (x50_4 + 1)), (by first | rfl | (simp; done) | (simp [*]; done)), (by first | rfl | (simp; done) | (simp [*]; done)), H', ⟨by have := HJ2.out; have := HK2.out; have := HK3.out; have := HK4.out; have := HK5.out; have := HK6.out; omega⟩, ⟨by (try simp only [hl8_2]); (try simp only [hl8_3]); (try simp only [hl8_4]); (try simp only [hl9_4]); (try simp only [hl8_5]); (try simp only [hl9_5]); (with_reducible repeat (first | apply Kd.R_alloc | apply Kd.R_drewN | apply Kd.R_drew)); exact HO181.out⟩, ⟨by (try simp only [hl8_2]); (try simp only [hl8_3]); (try simp only [hl8_4]); (try simp only [hl9_4]); (try simp only [hl8_5]); (try simp only [hl9_5]); (with_reducible repeat (first | apply Kd.R_alloc | apply Kd.R_drewN | apply Kd.R_drew)); exact Kd.R_mono HO_8.out (fun _ hk => hk.2)⟩, ⟨by (try simp only [hl8_2]); (try simp only [hl8_3]); (try simp only [hl8_4]); (try simp only [hl9_4]); (try simp only [hl8_5]); (try simp only [hl9_5]); (with_reducible repeat (first | apply Kd.R_alloc | apply Kd.R_drewN | apply Kd.R_drew)); exact HO_9.out⟩, ⟨by repeat (first | (with_reducible first | exact HB.out | apply below_alloc | apply pw_below_drewN | apply below_drew1 | refine below_set ?_ GE174.out) | exact HB.out)⟩⟩
                                                                    · rw [if_neg c51] at H
                                                                      exact absurd H (by simp)
                                                                  · rw [if_neg c50] at H
                                                                    exact absurd H (by simp)
                                                                · rw [if_neg c48] at H
                                                                  exact absurd H (by simp)
                                                              · rw [if_neg c47] at H
                                                                exact absurd H (by simp)
                                                            · rw [if_neg c46] at H
                                                              exact absurd H (by simp)
                                                          · replace c45 := Bool.eq_false_iff.mpr c45
                                                            subst c45
                                                            have H1 : (spec_ScheduleOf.l3 k6 l0 x7_5 x8_5 x9_5 x11_5 x12_3 x50_4 (x9_3.length : Int) x50_4 l0 (l0.length : Int) (wrap64 (x61_5 + 1))) = some (r1, r2, r3) := by rw [if_neg (show ¬ (false = true) by decide)] at H; exact H
                                                            clear H
                                                            have H := H1
                                                            clear H1
                                                            have H' := Aside0.mk H
                                                            clear H
                                                            go_wp2
                                                            (try simp only [← hl8_5, ← hl9_5])
                                                            go_roundg k6
                                                            case measure => have := HJ2.out; have := HK2.out; have := HK3.out; have := HK4.out; have := HK5.out; have := HK6.out; omega
                                                            case rel => exact ⟨(x7_5), (x8_5), (x9_5), (x11_5), (wrap64 (x61_5 + 1)), (by first | rfl | (simp; done) | (simp [*]; done)), (by first | rfl | (simp; done) | (simp [*]; done)), H', ⟨by have := HJ2.out; have := HK2.out; have := HK3.out; have := HK4.out; have := HK5.out; have := HK6.out; omega⟩, ⟨by (try simp only [hl8_2]); (try simp only [hl8_3]); (try simp only [hl8_4]); (try simp only [hl9_4]); (try simp only [hl8_5]); (try simp only [hl9_5]); (with_reducible repeat (first | apply Kd.R_alloc | apply Kd.R_drewN | apply Kd.R_drew)); exact HO_7.out⟩, ⟨by (try simp only [hl8_2]); (try simp only [hl8_3]); (try simp only [hl8_4]); (try simp only [hl9_4]); (try simp only [hl8_5]); (try simp only [hl9_5]); (with_reducible repeat (first | apply Kd.R_alloc | apply Kd.R_drewN | apply Kd.R_drew)); exact HO_8.out⟩, ⟨by (try simp only [hl8_2]); (try simp only [hl8_3]); (try simp only [hl8_4]); (try simp only [hl9_4]); (try simp only [hl8_5]); (try simp only [hl9_5]); (with_reducible repeat (first | apply Kd.R_alloc | apply Kd.R_drewN | apply Kd.R_drew)); exact HO_9.out⟩, ⟨by repeat (first | (with_reducible first | exact HB.out | apply below_alloc | apply pw_below_drewN | apply below_drew1 | refine below_set ?_ GE174.out) | exact HB.out)⟩⟩
                                                  · rw [if_neg c35] at H
                                                    exact absurd H (by simp)
                                                · rw [if_neg c34] at H
                                                  exact absurd H (by simp)
                                              · rw [if_neg c33] at H
                                                exact absurd H (by simp)
                                            · rw [if_neg c32] at H
                                              have c32b0 : decide (x61_5 < (l0.length : Int)) = false := decide_eq_false c32
                                              try (have c32b0q := c32b0; rw [hl9_5] at c32b0q)
                                              try (have c32b0r := c32b0; rw [hl9_4] at c32b0r)
                                              clear c32
                                              have H' := Aside0.mk H
                                              clear H
                                              go_wp2
                                              (try simp only [← hl8_4, ← hl9_4, ← hl8_5, ← hl9_5])
                                              go_roundg k5
                                              case measure => have := HJ2.out; have := HK2.out; have := HK3.out; have := HK4.out; have := HK5.out; omega
                                              case rel => exact ⟨(x7_5), (x8_5), (x9_5), (x11_5), (wrap64 (x50_4 + 1)), (by first | rfl | (simp; done) | (simp [*]; done)), (by first | rfl | (simp; done) | (simp [*]; done)), H', ⟨by have := HJ2.out; have := HK2.out; have := HK3.out; have := HK4.out; have := HK5.out; omega⟩, ⟨by (try simp only [hl8_2]); (try simp only [hl8_3]); (try simp only [hl8_4]); (try simp only [hl9_4]); (try simp only [hl8_5]); (try simp only [hl9_5]); (with_reducible repeat (first | apply Kd.R_alloc | apply Kd.R_drewN | apply Kd.R_drew)); exact HO_7.out⟩, ⟨by (try simp only [hl8_2]); (try simp only [hl8_3]); (try simp only [hl8_4]); (try simp only [hl9_4]); (try simp only [hl8_5]); (try simp only [hl9_5]); (with_reducible repeat (first | apply Kd.R_alloc | apply Kd.R_drewN | apply Kd.R_drew)); exact HO_8.out⟩, ⟨by (try simp only [hl8_2]); (try simp only [hl8_3]); (try simp only [hl8_4]); (try simp only [hl9_4]); (try simp only [hl8_5]); (try simp only [hl9_5]); (with_reducible repeat (first | apply Kd.R_alloc | apply Kd.R_drewN | apply Kd.R_drew)); exact HO_9.out⟩, ⟨by repeat (first | (with_reducible first | exact HB.out | apply below_alloc | apply pw_below_drewN | apply below_drew1) | exact HB.out)⟩⟩
                                    · rw [if_neg c30] at H
                                      exact absurd H (by simp)
                                  · rw [if_neg c29] at H
                                    exact absurd H (by simp)
                                · rw [if_neg c28] at H
                                  have c28b0 : decide (x50_4 < (x9_3.length : Int)) = false := decide_eq_false c28
                                  try (have c28b0q := c28b0; rw [hl9_5] at c28b0q)
                                  try (have c28b0r := c28b0; rw [hl9_4] at c28b0r)
                                  clear c28
                                  have H' := Aside0.mk H
                                  clear H
                                  go_wp2
                                  (try simp only [← hl8_3, ← hl8_4, ← hl9_4])
                                  go_roundg k4
                                  case measure => have := HJ2.out; have := HK2.out; have := HK3.out; have := HK4.out; omega
                                  case rel => exact ⟨(x7_4), (x8_4), (x9_4), (x11_4), (wrap64 (x12_3 + 1)), (by first | rfl | (simp; done) | (simp [*]; done)), (by first | rfl | (simp; done) | (simp [*]; done)), H', ⟨by have := HJ2.out; have := HK2.out; have := HK3.out; have := HK4.out; omega⟩, ⟨by (try simp only [hl8_2]); (try simp only [hl8_3]); (try simp only [hl8_4]); (try simp only [hl9_4]); (with_reducible repeat (first | apply Kd.R_alloc | apply Kd.R_drewN | apply Kd.R_drew)); exact HO_7.out⟩, ⟨by (try simp only [hl8_2]); (try simp only [hl8_3]); (try simp only [hl8_4]); (try simp only [hl9_4]); (with_reducible repeat (first | apply Kd.R_alloc | apply Kd.R_drewN | apply Kd.R_drew)); exact HO_8.out⟩, ⟨by (try simp only [hl8_2]); (try simp only [hl8_3]); (try simp only [hl8_4]); (try simp only [hl9_4]); (with_reducible repeat (first | apply Kd.R_alloc | apply Kd.R_drewN | apply Kd.R_drew)); exact HO_9.out⟩, ⟨by repeat (first | (with_reducible first | exact HB.out | apply below_alloc | apply pw_below_drewN | apply below_drew1) | exact HB.out)⟩⟩
                          · rw [if_neg c25] at H
                            have c25b0 : decide ((x7_3.length : Int) < (l0.length : Int)) = false := decide_eq_false c25
                            have c25b1 : decide (x7_3.length < l0.length) = false := decide_eq_false (fun h => c25 (Int.ofNat_lt.mpr h))
                            clear c25
                            simp only [Option.some.injEq, Prod.mk.injEq] at H
                            obtain ⟨rfl, rfl, rfl⟩ := H
                            obtain ⟨Ao66, co66, eo66⟩ := Kd.R_slice HO_7.out
                            subst eo66
                            go_wp2
                            go_ret3
                            exact ⟨_, by first | rfl | (simp [errW_none, errW_some] <;> rfl) | (simp [*, errW_none, errW_some] <;> rfl), by (with_reducible repeat (first | apply Kd.R_alloc | apply Kd.R_drewN | apply Kd.R_drew)); exact HO_7.out, by repeat (first | (with_reducible first | exact HB.out | apply below_alloc | apply pw_below_drewN | apply below_drew1) | exact HB.out)⟩
              · rw [if_neg c13] at H
                exact absurd H (by simp)
            · rw [if_neg c12] at H
              exact absurd H (by simp)
          · rw [if_neg c11] at H
            exact absurd H (by simp)
        · rw [if_neg c10] at H
          exact absurd H (by simp)

end Go.Proofs.Ytpgegjbnnbkhiaa.PFnExactScheduleOf
