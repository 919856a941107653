-- written by xprint.py (a program of this session's, over the kit's print): printed functions, and some by hand
import Derived.Test.YtmhhjmadpnkelaaPFnCutsx0
import Derived.Test.YtmhhjmadpnkelaaPFnCutsx3
import Derived.Test.YtmhhjmadpnkelaaPFnCutsx4
import Derived.Test.YtmhhjmadpnkelaaPFnCutsx5
namespace Go.Proofs.Ytmhhjmadpnkelaa.PFnCuts
open Go.RowKit Go.Proofs.YtmhhjmadpnkelaaW.PrintWords Go.Proofs.YtmhhjmadpnkelaaW.PrintLast Go.Proofs.YtmhhjmadpnkelaaW.PrintMore
attribute [local go_sem] max2_int min2_int max_two min_two max_three min_three max_four min_four   -- for this text's walks alone
set_option linter.unusedVariables false
set_option linter.unusedSimpArgs false

/-! ### spec_CutIsWhole: function 36 -/
mutual
def spec_CutIsWhole.j0 : Nat → Int → List (S57) → List Int → Bool → Option (Bool × Bool)
 | 0, _, _, _, _ => none
 | k + 1, x0, x1, x2, x26 => if x26 = true then (some (false, false)) else (if 0 ≤ x0 then (if (x0 : Int).toNat ≤ 35184372088832 then (if 0 ≤ (x1.length : Int) then (if ((x1.length : Int) : Int).toNat ≤ 281474976710656 then (spec_CutIsWhole.l0 k x1 x2 (List.replicate (x0 : Int).toNat 0) (List.replicate ((x1.length : Int) : Int).toNat false) x1 (x1.length : Int) 0) else (none)) else (none)) else (none)) else (none))
def spec_CutIsWhole.l0 : Nat → List (S57) → List Int → List Int → List Bool → List (S57) → Int → Int → Option (Bool × Bool)
 | 0, _, _, _, _, _, _, _ => none
 | k + 1, x1, x2, x8, x9, x32, x33, x34 => if x34 < x33 then (if 0 ≤ x34 then (if x34 < (x32.length : Int) then (if 0 ≤ ((rd_T57 x32 x34).f0) then (if ((rd_T57 x32 x34).f0) < (x8.length : Int) then (if ((rd_T57 x32 x34).f0) < (x2.length : Int) then (if x34 < (x9.length : Int) then (spec_CutIsWhole.l0 k x1 x2 (x8.set (((rd_T57 x32 x34).f0) : Int).toNat (wrap64 ((rd x8 ((rd_T57 x32 x34).f0)) + 1))) (x9.set (x34 : Int).toNat (decide ((rd x8 ((rd_T57 x32 x34).f0)) < (rd x2 ((rd_T57 x32 x34).f0))))) x32 x33 (wrap64 (x34 + 1))) else (none)) else (none)) else (none)) else (none)) else (none)) else (none)) else (spec_CutIsWhole.l1 k x1 x8 x9 x2 (x2.length : Int) 0)
def spec_CutIsWhole.l1 : Nat → List (S57) → List Int → List Bool → List Int → Int → Int → Option (Bool × Bool)
 | 0, _, _, _, _, _, _ => none
 | k + 1, x1, x8, x9, x61, x62, x63 => if x63 < x62 then (if 0 ≤ x63 then (if x63 < (x61.length : Int) then (if x63 < (x8.length : Int) then ((spec_l1In.f (rd x61 x63) 0 (rd x8 x63)).bind fun t156 => (if t156 = true then (spec_CutIsWhole.l1 k x1 x8 x9 x61 x62 (wrap64 (x63 + 1))) else (some (false, false)))) else (none)) else (none)) else (none)) else ((spec_l2Ahead.f k x1).bind fun t157 => (spec_CutIsWhole.l2 k x9 t157 (t157.length : Int) 0))
def spec_CutIsWhole.l2 : Nat → List Bool → List (List Bool) → Int → Int → Option (Bool × Bool)
 | 0, _, _, _, _ => none
 | k + 1, x9, x77, x78, x79 => if x79 < x78 then (if 0 ≤ x79 then (if x79 < (x77.length : Int) then (spec_CutIsWhole.l3 k x9 x79 (rd_L6 x77 x79) 0 x77 x78 x79) else (none)) else (none)) else (some (true, true))
def spec_CutIsWhole.l3 : Nat → List Bool → Int → List Bool → Int → List (List Bool) → Int → Int → Option (Bool × Bool)
 | 0, _, _, _, _, _, _, _ => none
 | k + 1, x9, x14, x15, x16, x77, x78, x79 => if x16 < x14 then (if 0 ≤ x14 then (if x14 < (x9.length : Int) then (if rdOf false x9 x14 = true then (if 0 ≤ x16 then (if x16 < (x15.length : Int) then (if rdOf false x15 x16 = true then (if x16 < (x9.length : Int) then (if rdOf false x9 x16 = true then (spec_CutIsWhole.l3 k x9 x14 x15 (wrap64 (x16 + 1)) x77 x78 x79) else (some (false, true))) else (none)) else (spec_CutIsWhole.l3 k x9 x14 x15 (wrap64 (x16 + 1)) x77 x78 x79)) else (none)) else (none)) else (spec_CutIsWhole.l3 k x9 x14 x15 (wrap64 (x16 + 1)) x77 x78 x79)) else (none)) else (none)) else (spec_CutIsWhole.l2 k x9 x77 x78 (wrap64 (x79 + 1)))
end
def spec_CutIsWhole.f (k : Nat) (a0 : Int) (l1 : List (S57)) (l2 : List Int) : Option (Bool × Bool) := (spec_GoodActs.f k a0 l1).bind fun t140 => (if t140 = true then (spec_CutIsWhole.j0 k a0 l1 l2 ((l2.length : Int) != a0)) else (spec_CutIsWhole.j0 k a0 l1 l2 true))
theorem spec_CutIsWhole.mono_l : ∀ k, (∀ y0 y1 y2 y3, LeO (spec_CutIsWhole.j0 k y0 y1 y2 y3) (spec_CutIsWhole.j0 (k + 1) y0 y1 y2 y3)) ∧ (∀ y0 y1 y2 y3 y4 y5 y6, LeO (spec_CutIsWhole.l0 k y0 y1 y2 y3 y4 y5 y6) (spec_CutIsWhole.l0 (k + 1) y0 y1 y2 y3 y4 y5 y6)) ∧ (∀ y0 y1 y2 y3 y4 y5, LeO (spec_CutIsWhole.l1 k y0 y1 y2 y3 y4 y5) (spec_CutIsWhole.l1 (k + 1) y0 y1 y2 y3 y4 y5)) ∧ (∀ y0 y1 y2 y3, LeO (spec_CutIsWhole.l2 k y0 y1 y2 y3) (spec_CutIsWhole.l2 (k + 1) y0 y1 y2 y3)) ∧ (∀ y0 y1 y2 y3 y4 y5 y6, LeO (spec_CutIsWhole.l3 k y0 y1 y2 y3 y4 y5 y6) (spec_CutIsWhole.l3 (k + 1) y0 y1 y2 y3 y4 y5 y6))
 | 0 => ⟨fun _ _ _ _ r h => by simp [spec_CutIsWhole.j0] at h, fun _ _ _ _ _ _ _ r h => by simp [spec_CutIsWhole.l0] at h, fun _ _ _ _ _ _ r h => by simp [spec_CutIsWhole.l1] at h, fun _ _ _ _ r h => by simp [spec_CutIsWhole.l2] at h, fun _ _ _ _ _ _ _ r h => by simp [spec_CutIsWhole.l3] at h⟩
 | k + 1 => by
  obtain ⟨ih0, ih1, ih2, ih3, ih4⟩ := spec_CutIsWhole.mono_l k
  refine ⟨?_, ?_, ?_, ?_, ?_⟩
  ·intro y0 y1 y2 y3
   unfold spec_CutIsWhole.j0
   repeat' first
   | (with_reducible exact ih0 _ _ _ _)
   | (with_reducible exact ih1 _ _ _ _ _ _ _)
   | (with_reducible exact ih2 _ _ _ _ _ _)
   | (with_reducible exact ih3 _ _ _ _)
   | (with_reducible exact ih4 _ _ _ _ _ _ _)
   | (with_reducible exact spec_GoodActs.mono _ _ _)
   | (with_reducible exact spec_l2Ahead.mono _ _)
   | (with_reducible exact LeO.refl _)
   | (with_reducible exact LeO.none _)
   | (with_reducible refine LeO.ite ?_ ?_)
   | (with_reducible refine LeO.bind ?_ (fun _ => ?_))
   | exact ih0 _ _ _ _
   | exact ih1 _ _ _ _ _ _ _
   | exact ih2 _ _ _ _ _ _
   | exact ih3 _ _ _ _
   | exact ih4 _ _ _ _ _ _ _
   | exact spec_GoodActs.mono _ _ _
   | exact spec_l2Ahead.mono _ _
   | exact LeO.none _
   | refine LeO.ite ?_ ?_
   | refine LeO.bind ?_ (fun _ => ?_)
  ·intro y0 y1 y2 y3 y4 y5 y6
   unfold spec_CutIsWhole.l0
   repeat' first
   | (with_reducible exact ih0 _ _ _ _)
   | (with_reducible exact ih1 _ _ _ _ _ _ _)
   | (with_reducible exact ih2 _ _ _ _ _ _)
   | (with_reducible exact ih3 _ _ _ _)
   | (with_reducible exact ih4 _ _ _ _ _ _ _)
   | (with_reducible exact spec_GoodActs.mono _ _ _)
   | (with_reducible exact spec_l2Ahead.mono _ _)
   | (with_reducible exact LeO.refl _)
   | (with_reducible exact LeO.none _)
   | (with_reducible refine LeO.ite ?_ ?_)
   | (with_reducible refine LeO.bind ?_ (fun _ => ?_))
   | exact ih0 _ _ _ _
   | exact ih1 _ _ _ _ _ _ _
   | exact ih2 _ _ _ _ _ _
   | exact ih3 _ _ _ _
   | exact ih4 _ _ _ _ _ _ _
   | exact spec_GoodActs.mono _ _ _
   | exact spec_l2Ahead.mono _ _
   | exact LeO.none _
   | refine LeO.ite ?_ ?_
   | refine LeO.bind ?_ (fun _ => ?_)
  ·intro y0 y1 y2 y3 y4 y5
   unfold spec_CutIsWhole.l1
   repeat' first
   | (with_reducible exact ih0 _ _ _ _)
   | (with_reducible exact ih1 _ _ _ _ _ _ _)
   | (with_reducible exact ih2 _ _ _ _ _ _)
   | (with_reducible exact ih3 _ _ _ _)
   | (with_reducible exact ih4 _ _ _ _ _ _ _)
   | (with_reducible exact spec_GoodActs.mono _ _ _)
   | (with_reducible exact spec_l2Ahead.mono _ _)
   | (with_reducible exact LeO.refl _)
   | (with_reducible exact LeO.none _)
   | (with_reducible refine LeO.ite ?_ ?_)
   | (with_reducible refine LeO.bind ?_ (fun _ => ?_))
   | exact ih0 _ _ _ _
   | exact ih1 _ _ _ _ _ _ _
   | exact ih2 _ _ _ _ _ _
   | exact ih3 _ _ _ _
   | exact ih4 _ _ _ _ _ _ _
   | exact spec_GoodActs.mono _ _ _
   | exact spec_l2Ahead.mono _ _
   | exact LeO.none _
   | refine LeO.ite ?_ ?_
   | refine LeO.bind ?_ (fun _ => ?_)
  ·intro y0 y1 y2 y3
   unfold spec_CutIsWhole.l2
   repeat' first
   | (with_reducible exact ih0 _ _ _ _)
   | (with_reducible exact ih1 _ _ _ _ _ _ _)
   | (with_reducible exact ih2 _ _ _ _ _ _)
   | (with_reducible exact ih3 _ _ _ _)
   | (with_reducible exact ih4 _ _ _ _ _ _ _)
   | (with_reducible exact spec_GoodActs.mono _ _ _)
   | (with_reducible exact spec_l2Ahead.mono _ _)
   | (with_reducible exact LeO.refl _)
   | (with_reducible exact LeO.none _)
   | (with_reducible refine LeO.ite ?_ ?_)
   | (with_reducible refine LeO.bind ?_ (fun _ => ?_))
   | exact ih0 _ _ _ _
   | exact ih1 _ _ _ _ _ _ _
   | exact ih2 _ _ _ _ _ _
   | exact ih3 _ _ _ _
   | exact ih4 _ _ _ _ _ _ _
   | exact spec_GoodActs.mono _ _ _
   | exact spec_l2Ahead.mono _ _
   | exact LeO.none _
   | refine LeO.ite ?_ ?_
   | refine LeO.bind ?_ (fun _ => ?_)
  ·intro y0 y1 y2 y3 y4 y5 y6
   unfold spec_CutIsWhole.l3
   repeat' first
   | (with_reducible exact ih0 _ _ _ _)
   | (with_reducible exact ih1 _ _ _ _ _ _ _)
   | (with_reducible exact ih2 _ _ _ _ _ _)
   | (with_reducible exact ih3 _ _ _ _)
   | (with_reducible exact ih4 _ _ _ _ _ _ _)
   | (with_reducible exact spec_GoodActs.mono _ _ _)
   | (with_reducible exact spec_l2Ahead.mono _ _)
   | (with_reducible exact LeO.refl _)
   | (with_reducible exact LeO.none _)
   | (with_reducible refine LeO.ite ?_ ?_)
   | (with_reducible refine LeO.bind ?_ (fun _ => ?_))
   | exact ih0 _ _ _ _
   | exact ih1 _ _ _ _ _ _ _
   | exact ih2 _ _ _ _ _ _
   | exact ih3 _ _ _ _
   | exact ih4 _ _ _ _ _ _ _
   | exact spec_GoodActs.mono _ _ _
   | exact spec_l2Ahead.mono _ _
   | exact LeO.none _
   | refine LeO.ite ?_ ?_
   | refine LeO.bind ?_ (fun _ => ?_)
theorem spec_CutIsWhole.mono : ∀ a0 a1 a2 k, LeO (spec_CutIsWhole.f k a0 a1 a2) (spec_CutIsWhole.f (k + 1) a0 a1 a2) := by
 intro a0 a1 a2 k
 obtain ⟨ih0, ih1, ih2, ih3, ih4⟩ := spec_CutIsWhole.mono_l k
 unfold spec_CutIsWhole.f
 repeat' first
   | (with_reducible exact ih0 _ _ _ _)
   | (with_reducible exact ih1 _ _ _ _ _ _ _)
   | (with_reducible exact ih2 _ _ _ _ _ _)
   | (with_reducible exact ih3 _ _ _ _)
   | (with_reducible exact ih4 _ _ _ _ _ _ _)
   | (with_reducible exact spec_GoodActs.mono _ _ _)
   | (with_reducible exact spec_l2Ahead.mono _ _)
   | (with_reducible exact LeO.refl _)
   | (with_reducible exact LeO.none _)
   | (with_reducible refine LeO.ite ?_ ?_)
   | (with_reducible refine LeO.bind ?_ (fun _ => ?_))
   | exact ih0 _ _ _ _
   | exact ih1 _ _ _ _ _ _ _
   | exact ih2 _ _ _ _ _ _
   | exact ih3 _ _ _ _
   | exact ih4 _ _ _ _ _ _ _
   | exact spec_GoodActs.mono _ _ _
   | exact spec_l2Ahead.mono _ _
   | exact LeO.none _
   | refine LeO.ite ?_ ?_
   | refine LeO.bind ?_ (fun _ => ?_)
def spec_CutIsWhole.T8 : Bool × List (List Nat × List Nat) := (true, [([], []), ([], []), ([], []), ([], []), ([3], [3]), ([2, 4], [2, 4]), ([5], [5]), ([], []), ([], []), ([8], [8]), ([7, 9], [7, 9]), ([10], [10]), ([6, 11], [6, 11]), ([0, 1, 0, 1, 2, 3, 4, 5, 6, 7, 8, 9, 10, 11, 12], [0, 1]), ([13, 12, 0, 1, 2, 3, 4, 5, 6, 7, 8, 9, 10, 11, 12], [12, 13])])
def spec_CutIsWhole.B8 : List Nat := [0, 0, 0, 0, 8, 28, 60, 0, 0, 256, 896, 1920, 4092, 8191, 16383]
theorem spec_CutIsWhole.tab8 : rtab .any (opsOf Try.f36 8) = spec_CutIsWhole.T8 := by kernel_rfl
theorem spec_CutIsWhole.bits8 : waitsOk spec_CutIsWhole.T8.2 spec_CutIsWhole.B8 = true := by kernel_rfl
set_option maxHeartbeats 8000000 in
set_option maxRecDepth 100000 in
theorem spec_CutIsWhole.calls (k : Nat) (a0 : Int) (A1 : Option Addr) (c1 : Nat) (l1 : List (S57)) (A2 : Option Addr) (c2 : Nat) (l2 : List Int) (r1 : Bool) (r2 : Bool) (w : World) (hr1 : Kd.C k57 w A1 l1.length l1) (hc1 : l1.length ≤ c1) (hr2 : Kd.C (Kd.int .i64) w A2 l2.length l2) (hc2 : l2.length ≤ c2) (h : spec_CutIsWhole.f k a0 l1 l2 = some (r1, r2)) :
  Calls Try.prog 36 #[.int .i64 a0, .slice A1 l1.length c1, .slice A2 l2.length c2] w fun e w' => e = .returned (.tuple #[.bool r1, .bool r2]) ∧ Below w.heap.size w w' := by
 have hu57 := Try.underlying57
 have HR1 := Aside0.mk hr1
 have HC1 := Aside0.mk hc1
 clear hr1 hc1
 have HR2 := Aside0.mk hr2
 have HC2 := Aside0.mk hc2
 clear hr2 hc2
 have HB := Aside0.mk (Below.refl w.heap.size w)
 have H : ((spec_GoodActs.f k a0 l1).bind fun t140 => (if t140 = true then (spec_CutIsWhole.j0 k a0 l1 l2 ((l2.length : Int) != a0)) else (spec_CutIsWhole.j0 k a0 l1 l2 true))) = some (r1, r2) := h
 clear h
 have HC4 := Aside0.mk H
 clear H
 go_enter Try.func36, Try.ntmps36
 go_upto_region 1 with (fail)
 go_cut [26] (fun v26 wc => ∃ (kq : Nat) (x26_3 : Bool), v26 = .bool x26_3 ∧ Aside0 (spec_CutIsWhole.j0 kq a0 l1 l2 x26_3 = some (r1, r2)) ∧ Aside0 (kq ≤ k) ∧ Aside0 (Below w.heap.size w wc))
 case first =>
  have H := HC4.out
  clear HC4
  replace H := Option.bind_eq_some_iff.mp H
  obtain ⟨t140, A50, H⟩ := H
  replace H : (if t140 = true then (spec_CutIsWhole.j0 k a0 l1 l2 ((l2.length : Int) != a0)) else (spec_CutIsWhole.j0 k a0 l1 l2 true)) = some (r1, r2) := H
  have A5 := Aside0.mk A50
  clear A50
  by_cases c6 : t140 = true
  ·subst c6
   have H1 : (spec_CutIsWhole.j0 k a0 l1 l2 ((l2.length : Int) != a0)) = some (r1, r2) := by rw [if_pos rfl] at H; exact H
   clear H
   have H := H1
   clear H1
   have H' := Aside0.mk H
   clear H
   go_wp2_with (first | ((with_reducible refine gate_callee (f := 14) rfl ?_); refine goesL_ (some 19) rfl rfl Try.func14 (by kernel_rfl) rfl #[.int .i64 a0, .slice A1 l1.length c1] rfl (by (try simp only [List.map_toArray, List.map_cons, List.map_nil]); first | done | rfl | (simp only [List.length_drop, List.length_take]; rfl)) ?_; (with_reducible refine (spec_GoodActs.calls k a0 _ _ l1 true _ ?side1 ?side2 A5.out).mono ?_); (case side1 => repeat (first | exact (Kd.C_below HR1.out HB.out) | (with_reducible refine Kd.C_alloc ?_ _) | (with_reducible refine Kd.C_drewN ?_ _) | (with_reducible refine Kd.C_drew ?_))); (case side2 => exact HC1.out); rintro e w7 ⟨rfl, hb⟩; refine ⟨_, rfl, ?_⟩; have n0_ := Aside0.mk (below_step (by repeat (first | (with_reducible first | exact HB.out | apply below_alloc | apply pw_below_drewN | apply below_drew1) | exact HB.out)) hb); clear HB; have HB := n0_; clear n0_; (try clear hb); (try clear hb2); (try clear hk); (try clear hi)))
   go_meet
   case rel => exact ⟨_, (((l2.length : Int) != a0)), (by first | rfl | (simp; done) | (simp [*]; done)), H', ⟨by first | omega | exact Nat.le_refl _⟩, ⟨by repeat (first | (with_reducible first | exact HB.out | apply below_alloc | apply pw_below_drewN | apply below_drew1) | exact HB.out)⟩⟩
  ·replace c6 := Bool.eq_false_iff.mpr c6
   subst c6
   have H1 : (spec_CutIsWhole.j0 k a0 l1 l2 true) = some (r1, r2) := by rw [if_neg (show ¬ (false = true) by decide)] at H; exact H
   clear H
   have H := H1
   clear H1
   have H' := Aside0.mk H
   clear H
   go_wp2_with (first | ((with_reducible refine gate_callee (f := 14) rfl ?_); refine goesL_ (some 19) rfl rfl Try.func14 (by kernel_rfl) rfl #[.int .i64 a0, .slice A1 l1.length c1] rfl (by (try simp only [List.map_toArray, List.map_cons, List.map_nil]); first | done | rfl | (simp only [List.length_drop, List.length_take]; rfl)) ?_; (with_reducible refine (spec_GoodActs.calls k a0 _ _ l1 false _ ?side1 ?side2 A5.out).mono ?_); (case side1 => repeat (first | exact (Kd.C_below HR1.out HB.out) | (with_reducible refine Kd.C_alloc ?_ _) | (with_reducible refine Kd.C_drewN ?_ _) | (with_reducible refine Kd.C_drew ?_))); (case side2 => exact HC1.out); rintro e w8 ⟨rfl, hb⟩; refine ⟨_, rfl, ?_⟩; have n0_ := Aside0.mk (below_step (by repeat (first | (with_reducible first | exact HB.out | apply below_alloc | apply pw_below_drewN | apply below_drew1) | exact HB.out)) hb); clear HB; have HB := n0_; clear n0_; (try clear hb); (try clear hb2); (try clear hk); (try clear hi)))
   go_meet
   case rel => exact ⟨_, (true), (by first | rfl | (simp; done) | (simp [*]; done)), H', ⟨by first | omega | exact Nat.le_refl _⟩, ⟨by repeat (first | (with_reducible first | exact HB.out | apply below_alloc | apply pw_below_drewN | apply below_drew1) | exact HB.out)⟩⟩
 case rest =>
  clear HC4
  try clear c1
  try clear c2
  try clear p2
  try clear c3
  try clear c6
  obtain ⟨kq, x26_3, rfl, HA, HJ3, HB⟩ := hcut
  cases kq with
  | zero => exact absurd HA.out (by simp [spec_CutIsWhole.j0])
  | succ kj3 =>
   have H := HA.out
   clear HA
   simp only [spec_CutIsWhole.j0] at H
   by_cases c9 : x26_3 = true
   ·subst c9
    have H1 : (some (false, false)) = some (r1, r2) := by rw [if_pos rfl] at H; exact H
    clear H
    have H := H1
    clear H1
    simp only [Option.some.injEq, Prod.mk.injEq] at H
    obtain ⟨rfl, rfl⟩ := H
    go_wp2
    go_ret2
    exact ⟨by first | rfl | (simp [errW_none, errW_some] <;> rfl) | (simp [*, errW_none, errW_some] <;> rfl), by repeat (first | (with_reducible first | exact HB.out | apply below_alloc | apply pw_below_drewN | apply below_drew1) | exact HB.out)⟩
   ·replace c9 := Bool.eq_false_iff.mpr c9
    subst c9
    have H1 : (if 0 ≤ a0 then (if (a0 : Int).toNat ≤ 35184372088832 then (if 0 ≤ (l1.length : Int) then (if ((l1.length : Int) : Int).toNat ≤ 281474976710656 then (spec_CutIsWhole.l0 kj3 l1 l2 (List.replicate (a0 : Int).toNat 0) (List.replicate ((l1.length : Int) : Int).toNat false) l1 (l1.length : Int) 0) else (none)) else (none)) else (none)) else (none)) = some (r1, r2) := by rw [if_neg (show ¬ (false = true) by decide)] at H; exact H
    clear H
    have H := H1
    clear H1
    by_cases c10 : 0 ≤ a0
    ·rw [if_pos c10] at H
     have c10b0 := eq_true c10
     have c10b1 : decide (0 ≤ a0) = true := decide_eq_true c10
     clear c10
     by_cases c11 : (a0 : Int).toNat ≤ 35184372088832
     ·rw [if_pos c11] at H
      have c11b0 := eq_true c11
      have c11b1 : decide ((a0 : Int).toNat ≤ 35184372088832) = true := decide_eq_true c11
      clear c11
      obtain ⟨y141, hy141⟩ : ∃ y_ : List Int, y_ = (List.replicate (a0 : Int).toNat 0) := ⟨_, rfl⟩
      replace H : (if 0 ≤ (l1.length : Int) then (if ((l1.length : Int) : Int).toNat ≤ 281474976710656 then (spec_CutIsWhole.l0 kj3 l1 l2 y141 (List.replicate ((l1.length : Int) : Int).toNat false) l1 (l1.length : Int) 0) else (none)) else (none)) = some (r1, r2) := by first | (rw [hy141]; with_reducible exact H) | (have H2_ := (Option.bind_some _ _).symm.trans H; rw [hy141]; with_reducible exact H2_) | (have H2_ := (Option.bind_some _ _).symm.trans H; with_reducible exact H2_) | with_reducible exact H | (rw [hy141]; exact H) | exact H
      have Ny141 := Aside0.mk hy141
      clear hy141
      by_cases c12 : 0 ≤ (l1.length : Int)
      ·rw [if_pos c12] at H
       have c12b0 := eq_true c12
       have c12b1 : decide (0 ≤ (l1.length : Int)) = true := decide_eq_true c12
       clear c12
       by_cases c13 : ((l1.length : Int) : Int).toNat ≤ 281474976710656
       ·rw [if_pos c13] at H
        have c13b0 := eq_true c13
        have c13b1 : decide (((l1.length : Int) : Int).toNat ≤ 281474976710656) = true := decide_eq_true c13
        clear c13
        obtain ⟨y144, hy144⟩ : ∃ y_ : List Bool, y_ = (List.replicate ((l1.length : Int) : Int).toNat false) := ⟨_, rfl⟩
        replace H : (spec_CutIsWhole.l0 kj3 l1 l2 y141 y144 l1 (l1.length : Int) 0) = some (r1, r2) := by first | (rw [hy144]; with_reducible exact H) | (have H2_ := (Option.bind_some _ _).symm.trans H; rw [hy144]; with_reducible exact H2_) | (have H2_ := (Option.bind_some _ _).symm.trans H; with_reducible exact H2_) | with_reducible exact H | (rw [hy144]; exact H) | exact H
        have Ny144 := Aside0.mk hy144
        clear hy144
        have H' := Aside0.mk H
        clear H
        go_wp2_with (first | ((with_reducible refine gate_dst (N := 28) rfl ?_); (try (refine gate_guard (by rfl) ?_; dsimp only)); refine Kd.R_make (Kd.int .i64) _ 3 rfl (N := 28) rfl 29 _ _ rfl a0 rfl rfl Try.underlying29 (.int .i64 0) 8 info3 rfl (by decide) (by omega) 0 (ok := fun _ => True) (okp := fun _ => True) rfl (fun _ hk => hk) trivial (of_decide_eq_true (by first | (with_reducible assumption) | assumption)) (Nat.le_trans (Nat.mul_le_mul_right _ (of_decide_eq_true (by first | (with_reducible assumption) | assumption) : a0.toNat ≤ 35184372088832)) (by omega)) (Below.refl _ _) (Nat.le_refl _) ?_; intro v142 w14 ho15 hb hg_ hnew_; clear hg_ hnew_; (first | rw [← Ny141.out] at ho15 | (simp only [Int.reduceToNat] at ho15; rw [← Ny141.out] at ho15)); have n0_ := Aside0.mk (Kd.R_lower ho15 (below_size (by repeat (first | (with_reducible first | exact HB.out | apply below_alloc | apply pw_below_drewN | apply below_drew1) | exact HB.out)))); have n1_ := Aside0.mk (below_step (by repeat (first | (with_reducible first | exact HB.out | apply below_alloc | apply pw_below_drewN | apply below_drew1) | exact HB.out)) hb); clear HB; have HO143 := n0_; have HB := n1_; clear n0_ n1_; clear hb ho15) | ((with_reducible refine gate_dst (N := 31) rfl ?_); (try (refine gate_guard (by rfl) ?_; dsimp only)); refine Kd.R_make Kd.bool _ 4 rfl (N := 31) rfl 55 _ _ rfl (l1.length : Int) rfl rfl Try.underlying55 (.bool false) 1 info4 rfl (by decide) (by omega) false (ok := fun _ => True) (okp := fun _ => True) rfl (fun _ hk => hk) trivial (of_decide_eq_true (by first | (with_reducible assumption) | assumption)) (Nat.le_trans (Nat.mul_le_mul_right _ (of_decide_eq_true (by first | (with_reducible assumption) | assumption) : (l1.length : Int).toNat ≤ 281474976710656)) (by omega)) (Below.refl _ _) (Nat.le_refl _) ?_; intro v145 w16 ho17 hb hg_ hnew_; clear hg_ hnew_; (first | rw [← Ny144.out] at ho17 | (simp only [Int.reduceToNat] at ho17; rw [← Ny144.out] at ho17)); have n0_ := Aside0.mk (Kd.R_below (by (with_reducible repeat (first | apply Kd.R_alloc | apply Kd.R_drewN | apply Kd.R_drew)); exact HO143.out) hb); have n1_ := Aside0.mk (Kd.R_lower ho17 (below_size (by repeat (first | (with_reducible first | exact HB.out | apply below_alloc | apply pw_below_drewN | apply below_drew1) | exact HB.out)))); have n2_ := Aside0.mk (below_step (by repeat (first | (with_reducible first | exact HB.out | apply below_alloc | apply pw_below_drewN | apply below_drew1) | exact HB.out)) hb); clear HO143; clear HB; have HO143 := n0_; have HO146 := n1_; have HB := n2_; clear n0_ n1_ n2_; clear hb ho17))
        go_loopg [34] kj3 (fun kq v34 w' => ∃ (x8_2 : List Int) (x9_2 : List Bool) (x34_2 : Int), v34 = .int .i64 x34_2 ∧ Aside0 (spec_CutIsWhole.l0 kq l1 l2 x8_2 x9_2 l1 (l1.length : Int) x34_2 = some (r1, r2)) ∧ Aside0 (kq ≤ kj3) ∧ Aside0 (Kd.R (Kd.int .i64) 3 w' w.heap.size (fun _ => True) v142 x8_2) ∧ Aside0 (Kd.R Kd.bool 4 w' w.heap.size (fun _ => True) v145 x9_2) ∧ Aside0 (Below w.heap.size w w'))
        case atStart => exact ⟨(y141), (y144), (0), (by first | rfl | (simp; done) | (simp [*]; done)), H', ⟨Nat.le_refl _⟩, ⟨by (with_reducible repeat (first | apply Kd.R_alloc | apply Kd.R_drewN | apply Kd.R_drew)); exact HO143.out⟩, ⟨by (with_reducible repeat (first | apply Kd.R_alloc | apply Kd.R_drewN | apply Kd.R_drew)); exact HO146.out⟩, ⟨by repeat (first | (with_reducible first | exact HB.out | apply below_alloc | apply pw_below_drewN | apply below_drew1) | exact HB.out)⟩⟩
        case round =>
         clear H'
         try clear c1
         try clear c2
         try clear p2
         try clear c3
         try clear c6
         try clear c9
         try clear c10
         try clear c10b0
         try clear c10b1
         try clear c11
         try clear c11b0
         try clear c11b1
         try clear c12
         try clear c12b0
         try clear c12b1
         try clear c13
         try clear c13b0
         try clear c13b1
         try clear c14
         try clear p2
         obtain ⟨x8_2, x9_2, x34_2, rfl, HA, HK2, HO_8, HO_9, HB⟩ := hrel
         cases gk with
         | zero => exact absurd HA.out (by simp [spec_CutIsWhole.l0])
         | succ k2 =>
          have H := HA.out
          clear HA
          simp only [spec_CutIsWhole.l0] at H
          by_cases c18 : x34_2 < (l1.length : Int)
          ·rw [if_pos c18] at H
           have c18b0 : decide (x34_2 < (l1.length : Int)) = true := decide_eq_true c18
           clear c18
           by_cases c19 : 0 ≤ x34_2
           ·rw [if_pos c19] at H
            have c19b0 : decide (0 ≤ x34_2) = true := decide_eq_true c19
            clear c19
            by_cases c20 : x34_2 < (l1.length : Int)
            ·rw [if_pos c20] at H
             have c20b0 : decide (x34_2 < (l1.length : Int)) = true := decide_eq_true c20
             clear c20
             by_cases c21 : 0 ≤ ((rd_T57 l1 x34_2).f0)
             ·rw [if_pos c21] at H
              have c21b0 : decide (0 ≤ ((rd_T57 l1 x34_2).f0)) = true := decide_eq_true c21
              clear c21
              by_cases c22 : ((rd_T57 l1 x34_2).f0) < (x8_2.length : Int)
              ·rw [if_pos c22] at H
               have c22b0 : decide (((rd_T57 l1 x34_2).f0) < (x8_2.length : Int)) = true := decide_eq_true c22
               clear c22
               by_cases c23 : ((rd_T57 l1 x34_2).f0) < (l2.length : Int)
               ·rw [if_pos c23] at H
                have c23b0 : decide (((rd_T57 l1 x34_2).f0) < (l2.length : Int)) = true := decide_eq_true c23
                clear c23
                by_cases c24 : x34_2 < (x9_2.length : Int)
                ·rw [if_pos c24] at H
                 have c24b0 : decide (x34_2 < (x9_2.length : Int)) = true := decide_eq_true c24
                 clear c24
                 obtain ⟨y151, hy151⟩ : ∃ y_ : List Bool, y_ = (x9_2.set (x34_2 : Int).toNat (decide ((rd x8_2 ((rd_T57 l1 x34_2).f0)) < (rd l2 ((rd_T57 l1 x34_2).f0))))) := ⟨_, rfl⟩
                 replace H : (spec_CutIsWhole.l0 k2 l1 l2 (x8_2.set (((rd_T57 l1 x34_2).f0) : Int).toNat (wrap64 ((rd x8_2 ((rd_T57 l1 x34_2).f0)) + 1))) y151 l1 (l1.length : Int) (wrap64 (x34_2 + 1))) = some (r1, r2) := by first | (rw [hy151]; with_reducible exact H) | (have H2_ := (Option.bind_some _ _).symm.trans H; rw [hy151]; with_reducible exact H2_) | (have H2_ := (Option.bind_some _ _).symm.trans H; with_reducible exact H2_) | with_reducible exact H | (rw [hy151]; exact H) | exact H
                 have Ny151 := Aside0.mk hy151
                 clear hy151
                 obtain ⟨y153, hy153⟩ : ∃ y_ : List Int, y_ = (x8_2.set (((rd_T57 l1 x34_2).f0) : Int).toNat (wrap64 ((rd x8_2 ((rd_T57 l1 x34_2).f0)) + 1))) := ⟨_, rfl⟩
                 replace H : (spec_CutIsWhole.l0 k2 l1 l2 y153 y151 l1 (l1.length : Int) (wrap64 (x34_2 + 1))) = some (r1, r2) := by first | (rw [hy153]; with_reducible exact H) | (have H2_ := (Option.bind_some _ _).symm.trans H; rw [hy153]; with_reducible exact H2_) | (have H2_ := (Option.bind_some _ _).symm.trans H; with_reducible exact H2_) | with_reducible exact H | (rw [hy153]; exact H) | exact H
                 have Ny153 := Aside0.mk hy153
                 clear hy153
                 have H' := Aside0.mk H
                 clear H
                 have p147 : 0 ≤ (x34_2 : Int) := of_decide_eq_true (by first | (with_reducible assumption) | assumption)
                 have q147 : x34_2 < (l1.length : Int) := of_decide_eq_true (by first | (with_reducible assumption) | assumption)
                 obtain ⟨ad147, e147, hx147_0, hx147_1⟩ := at_T57 HR1.out x34_2 p147 q147
                 cases e147
                 try replace hx147_0 := (HB.out.cell (World.block_lt_of_cell? w _ hx147_0)).trans hx147_0
                 try replace hx147_1 := (HB.out.cell (World.block_lt_of_cell? w _ hx147_1)).trans hx147_1
                 replace p147 := eq_true p147
                 replace q147 := eq_true q147
                 try go_wp2_with (first | ((with_reducible refine gate_dst (N := 11) rfl ?_); (try (refine gate_guard (by rfl) ?_; dsimp only)); refine box_event ?hg (N := 11) ?hd (cs := #[.int .i64 0, .int .i64 0]) (t := 57) ?hr ?_; (case hd => rfl); (case hg => rfl); (case hr => first | (go_simp; done) | (go_simp; rfl)); intro gb148 hg w27 hbox hb; have n0_ := Aside0.mk (Kd.R_below (by (with_reducible repeat (first | apply Kd.R_alloc | apply Kd.R_drewN | apply Kd.R_drew)); exact HO_8.out) hb); have n1_ := Aside0.mk (Kd.R_below (by (with_reducible repeat (first | apply Kd.R_alloc | apply Kd.R_drewN | apply Kd.R_drew)); exact HO_9.out) hb); have n2_ := Aside0.mk (below_step (by repeat (first | (with_reducible first | exact HB.out | apply below_alloc | apply pw_below_drewN | apply below_drew1) | exact HB.out)) hb); have n3_ := Aside0.mk (hbox); have n4_ := Aside0.mk ((by rw [hg]; exact (below_size (by repeat (first | (with_reducible first | exact HB.out | apply below_alloc | apply pw_below_drewN | apply below_drew1) | exact HB.out))) : w.heap.size ≤ gb148)); have n5_ := Aside0.mk ((by rw [hg]; exact (below_size (by repeat (first | (with_reducible first | exact HB.out | apply below_alloc | apply pw_below_drewN | apply below_drew1) | exact HB.out))) : w.heap.size ≤ gb148)); clear HO_8; clear HO_9; clear HB; have HO_8 := n0_; have HO_9 := n1_; have HB := n2_; have BK148 := n3_; have GW148 := n4_; have GE148 := n5_; clear n0_ n1_ n2_ n3_ n4_ n5_; clear hb hbox hg; have hcz28_0 : w27.cell? ⟨gb148, 0, none⟩ = some (.int .i64 0) := (blk_cell BK148.out 0).trans rfl; have hcz28_1 : w27.cell? ⟨gb148, 1, none⟩ = some (.int .i64 0) := (blk_cell BK148.out 1).trans rfl; have hfz28_0 := blk_frozen BK148.out 0; have hfz28_1 := blk_frozen BK148.out 1))
                 have n0_ : Aside0 (Kd.R (Kd.int .i64) 3 ((w27.setCell ⟨gb148, 0, none⟩ (.int .i64 ((rd_T57 l1 x34_2).f0))).setCell ⟨gb148, 1, none⟩ (.int .i64 ((rd_T57 l1 x34_2).f1))) w.heap.size (fun _ => True) v142 x8_2) := ⟨by (with_reducible repeat (first | apply Kd.R_alloc | apply Kd.R_drewN | apply Kd.R_drew)); exact Kd.R_mono (Kd.R_far (p := ⟨gb148, 1, none⟩) (Kd.R_far (p := ⟨gb148, 0, none⟩) (Kd.R_types HO_8.out BK148.out (by decide)) (fun _ hk => hk.2) (.int .i64 ((rd_T57 l1 x34_2).f0))) (fun _ hk => hk.2) (.int .i64 ((rd_T57 l1 x34_2).f1))) (fun _ hk => trivial)⟩
                 have n1_ : Aside0 (Kd.R Kd.bool 4 ((w27.setCell ⟨gb148, 0, none⟩ (.int .i64 ((rd_T57 l1 x34_2).f0))).setCell ⟨gb148, 1, none⟩ (.int .i64 ((rd_T57 l1 x34_2).f1))) w.heap.size (fun _ => True) v145 x9_2) := ⟨by (with_reducible repeat (first | apply Kd.R_alloc | apply Kd.R_drewN | apply Kd.R_drew)); exact Kd.R_mono (Kd.R_far (p := ⟨gb148, 1, none⟩) (Kd.R_far (p := ⟨gb148, 0, none⟩) (Kd.R_types HO_9.out BK148.out (by decide)) (fun _ hk => hk.2) (.int .i64 ((rd_T57 l1 x34_2).f0))) (fun _ hk => hk.2) (.int .i64 ((rd_T57 l1 x34_2).f1))) (fun _ hk => trivial)⟩
                 have n2_ : Aside0 (((w27.setCell ⟨gb148, 0, none⟩ (.int .i64 ((rd_T57 l1 x34_2).f0))).setCell ⟨gb148, 1, none⟩ (.int .i64 ((rd_T57 l1 x34_2).f1))).heap[gb148]? = some (.cells #[.int .i64 ((rd_T57 l1 x34_2).f0), .int .i64 ((rd_T57 l1 x34_2).f1)] 57 (0, 0))) := ⟨by (with_reducible repeat (first | refine blk_drewN ?_ _ | refine blk_drew ?_ | refine blk_alloc ?_ _)); refine blk_put (cs := #[.int .i64 ((rd_T57 l1 x34_2).f0), .int .i64 0]) ?_ 1 _ rfl; (with_reducible repeat (first | refine blk_drewN ?_ _ | refine blk_drew ?_ | refine blk_alloc ?_ _)); refine blk_put (cs := #[.int .i64 0, .int .i64 0]) ?_ 0 _ rfl; (with_reducible repeat (first | refine blk_drewN ?_ _ | refine blk_drew ?_ | refine blk_alloc ?_ _)); exact BK148.out⟩
                 have n3_ : Aside0 (Below w.heap.size w ((w27.setCell ⟨gb148, 0, none⟩ (.int .i64 ((rd_T57 l1 x34_2).f0))).setCell ⟨gb148, 1, none⟩ (.int .i64 ((rd_T57 l1 x34_2).f1)))) := ⟨by repeat (first | (with_reducible first | exact HB.out | apply below_alloc | apply pw_below_drewN | apply below_drew1 | refine below_set ?_ GE148.out) | exact HB.out)⟩
                 (try clear HO_8)
                 (try clear HO_9)
                 (try clear BK148)
                 (try clear HB)
                 generalize ((w27.setCell ⟨gb148, 0, none⟩ (.int .i64 ((rd_T57 l1 x34_2).f0))).setCell ⟨gb148, 1, none⟩ (.int .i64 ((rd_T57 l1 x34_2).f1))) = w29 at n0_ n1_ n2_ n3_ ⊢
                 have HO_8 := n0_
                 have HO_9 := n1_
                 have BK148 := n2_
                 have HB := n3_
                 clear n0_ n1_ n2_ n3_
                 have n0_ := Aside0.mk (Kd.R_drew HO_8.out)
                 have n1_ := Aside0.mk (Kd.R_drew HO_9.out)
                 have n2_ := Aside0.mk (blk_drew BK148.out)
                 have n3_ := Aside0.mk (below_drew1 HB.out)
                 clear HO_8
                 clear HO_9
                 clear BK148
                 clear HB
                 have HO_8 := n0_
                 have HO_9 := n1_
                 have BK148 := n2_
                 have HB := n3_
                 clear n0_ n1_ n2_ n3_
                 obtain ⟨Ao31, co31, eo31⟩ := Kd.R_slice HO_8.out
                 (first | subst eo31 | (injection eo31 with f1_ f2_ f3_; have f4_ := f1_.symm; have f5_ := f3_.symm; clear f1_ f2_ f3_; subst f4_; subst f5_))
                 have p149 : 0 ≤ (((rd_T57 l1 x34_2).f0) : Int) := of_decide_eq_true (by first | (with_reducible assumption) | assumption)
                 have q149 : ((rd_T57 l1 x34_2).f0) < (x8_2.length : Int) := of_decide_eq_true (by first | (with_reducible assumption) | assumption)
                 obtain ⟨ad149, e149, hx149_0⟩ := Kd.at_int (Kd.R_reads' HO_8.out).2.2 ((rd_T57 l1 x34_2).f0) p149 q149
                 cases e149
                 replace p149 := eq_true p149
                 replace q149 := eq_true q149
                 have p150 : 0 ≤ (((rd_T57 l1 x34_2).f0) : Int) := of_decide_eq_true (by first | (with_reducible assumption) | assumption)
                 have q150 : ((rd_T57 l1 x34_2).f0) < (l2.length : Int) := of_decide_eq_true (by first | (with_reducible assumption) | assumption)
                 obtain ⟨ad150, e150, hx150_0⟩ := Kd.at_int HR2.out ((rd_T57 l1 x34_2).f0) p150 q150
                 have hw150_0 := hx150_0
                 cases e150
                 try replace hx150_0 := (HB.out.cell (World.block_lt_of_cell? w _ hx150_0)).trans hx150_0
                 replace p150 := eq_true p150
                 replace q150 := eq_true q150
                 have p25 : 0 ≤ (x34_2 : Int) := of_decide_eq_true (by first | (with_reducible assumption) | assumption)
                 have q25 : (x34_2 : Int) < ((x9_2.length : Int) : Int) := of_decide_eq_true (by first | (with_reducible assumption) | assumption)
                 obtain ⟨go25, co25, eo25, gb25, gl25, cl25, HG25⟩ := Kd.R_form HO_9.out (by omega)
                 (first | cases eo25 | (injection eo25 with ea_ en_ ec_; (first | subst ea_ | (injection ea_ with ea_; subst ea_)); subst ec_; clear en_))
                 have GB25 := Aside0.mk gb25
                 have GG25 := Aside0.mk HG25
                 clear gb25 gl25 HG25
                 obtain ⟨hx25_0, hf25_0⟩ := Kd.R_celln false HO_9.out (x34_2 : Int) p25 q25
                 replace p25 := eq_true p25
                 replace q25 := eq_true q25
                 have HP32 := Kd.R_putn HO_9.out (x34_2 : Int) (decide ((rd x8_2 ((rd_T57 l1 x34_2).f0)) < (rd l2 ((rd_T57 l1 x34_2).f0))))
                 rw [← Ny151.out] at HP32
                 have HQ32 := Aside0.mk HP32
                 clear HP32
                 refine start_ (n := 15) (S := fun w' => w'.cell? ⟨gb148, 0, none⟩ = some (.int .i64 ((rd_T57 l1 x34_2).f0)) ∧ w'.cell? ⟨gb148, 1, none⟩ = some (.int .i64 ((rd_T57 l1 x34_2).f1)) ∧ w'.cell? (ad149.add (((rd_T57 l1 x34_2).f0)).toNat) = some (.int .i64 (rd x8_2 ((rd_T57 l1 x34_2).f0))) ∧ w'.cell? (ad150.add (((rd_T57 l1 x34_2).f0)).toNat) = some (.int .i64 (rd l2 ((rd_T57 l1 x34_2).f0)))) (ds := [14]) #[false, false, false, false, false, false, false, false, false, false, false, false, false, false, false] (by kernel_rfl) rfl rfl ⟨(blk_cell BK148.out 0).trans rfl, (blk_cell BK148.out 1).trans rfl, hx149_0, ((HB.out.cell (World.block_lt_of_cell? w _ hw150_0)).trans hw150_0)⟩ (fun hHeld => ?_); refine with_tabW spec_CutIsWhole.tab8 spec_CutIsWhole.bits8 (fun HT_ HW_ => ?_)
                 generalize w29.drew = w30 at HO_8 HO_9 BK148 HB GG25 HQ32 hf25_0 hx149_0 hx150_0 hx25_0 hHeld ⊢
                 refine pure_ (i := 0) (N := some 39) (v := ?_) (a' := ?_) #[true, false, false, false, false, false, false, false, false, false, false, false, false, false, false] rfl rfl (any_of HT_.out (by kernel_rfl)) (fun _ _ _ h => h) (Or.inl ⟨by rfl, ?_⟩) ?_ ?_
                 rotate_left
                 ·intro w'
                  go_simp
                  with_reducible rfl
                 rotate_left
                 ·simp only [Act.put, List.setIfInBounds_toArray, List.set_cons_zero, List.set_cons_succ, i64_w, i32_w]
                  rfl
                 refine pure_ (i := 1) (N := some 40) (v := ?_) (a' := ?_) #[true, true, false, false, false, false, false, false, false, false, false, false, false, false, false] rfl rfl (any_of HT_.out (by kernel_rfl)) (fun _ _ _ h => h) (Or.inl ⟨by rfl, ?_⟩) ?_ ?_
                 rotate_left
                 ·intro w'
                  go_simp
                  with_reducible rfl
                 rotate_left
                 ·simp only [Act.put, List.setIfInBounds_toArray, List.set_cons_zero, List.set_cons_succ, i64_w, i32_w]
                  rfl
                 refine pure_ (i := 2) (N := some 41) (v := ?_) (a' := ?_) #[true, true, true, false, false, false, false, false, false, false, false, false, false, false, false] rfl rfl (any_of HT_.out (by kernel_rfl)) (fun _ _ _ h => h) (Or.inl ⟨by rfl, ?_⟩) ?_ ?_
                 rotate_left
                 ·intro w'
                  go_simp
                  with_reducible rfl
                 rotate_left
                 ·simp only [Act.put, List.setIfInBounds_toArray, List.set_cons_zero, List.set_cons_succ, i64_w, i32_w]
                  rfl
                 refine pure_ (i := 3) (N := some 42) (v := ?_) (a' := ?_) #[true, true, true, true, false, false, false, false, false, false, false, false, false, false, false] rfl rfl (any_of HT_.out (by kernel_rfl)) (fun _ _ _ h => h) (Or.inl ⟨by rfl, ?_⟩) ?_ ?_
                 rotate_left
                 ·intro w'
                  go_simp
                  with_reducible rfl
                 rotate_left
                 ·simp only [Act.put, List.setIfInBounds_toArray, List.set_cons_zero, List.set_cons_succ, i64_w, i32_w]
                  rfl
                 refine pure_ (i := 7) (N := some 46) (v := ?_) (a' := ?_) #[true, true, true, true, false, false, false, true, false, false, false, false, false, false, false] rfl rfl (any_of HT_.out (by kernel_rfl)) (fun _ _ _ h => h) (Or.inl ⟨by rfl, ?_⟩) ?_ ?_
                 rotate_left
                 ·intro w'
                  go_simp
                  with_reducible rfl
                 rotate_left
                 ·simp only [Act.put, List.setIfInBounds_toArray, List.set_cons_zero, List.set_cons_succ, i64_w, i32_w]
                  rfl
                 refine pure_ (i := 8) (N := some 47) (v := ?_) (a' := ?_) #[true, true, true, true, false, false, false, true, true, false, false, false, false, false, false] rfl rfl (any_of HT_.out (by kernel_rfl)) (fun _ _ _ h => h) (Or.inl ⟨by rfl, ?_⟩) ?_ ?_
                 rotate_left
                 ·intro w'
                  go_simp
                  with_reducible rfl
                 rotate_left
                 ·simp only [Act.put, List.setIfInBounds_toArray, List.set_cons_zero, List.set_cons_succ, i64_w, i32_w]
                  rfl
                 refine take_ (i := 4) (N := some 43) (v := ?_) (a' := ?_) #[true, true, true, true, true, false, false, true, true, false, false, false, false, false, false] rfl rfl (take_ofW HT_.out HW_.out (by kernel_rfl)) (fun _ _ _ h => h) (Or.inl ⟨by rfl, ?_⟩) hHeld ?_ ?_
                 rotate_left
                 ·rintro w' ⟨s0, s1, s2, s3⟩
                  go_simp
                  with_reducible rfl
                 rotate_left
                 ·simp only [Act.put, List.setIfInBounds_toArray, List.set_cons_zero, List.set_cons_succ, i64_w, i32_w]
                  rfl
                 refine pure_ (i := 5) (N := some 44) (v := ?_) (a' := ?_) #[true, true, true, true, true, true, false, true, true, false, false, false, false, false, false] rfl rfl (any_of HT_.out (by kernel_rfl)) (fun _ _ _ h => h) (Or.inl ⟨by rfl, ?_⟩) ?_ ?_
                 rotate_left
                 ·intro w'
                  go_simp
                  with_reducible rfl
                 rotate_left
                 ·simp only [Act.put, List.setIfInBounds_toArray, List.set_cons_zero, List.set_cons_succ, i64_w, i32_w]
                  rfl
                 refine take_ (i := 6) (N := some 45) (v := ?_) (a' := ?_) #[true, true, true, true, true, true, true, true, true, false, false, false, false, false, false] rfl rfl (take_ofW HT_.out HW_.out (by kernel_rfl)) (fun _ _ _ h => h) (Or.inl ⟨by rfl, ?_⟩) hHeld ?_ ?_
                 rotate_left
                 ·rintro w' ⟨s0, s1, s2, s3⟩
                  go_simp
                  with_reducible rfl
                 rotate_left
                 ·simp only [Act.put, List.setIfInBounds_toArray, List.set_cons_zero, List.set_cons_succ, i64_w, i32_w]
                  rfl
                 refine take_ (i := 9) (N := some 48) (v := ?_) (a' := ?_) #[true, true, true, true, true, true, true, true, true, true, false, false, false, false, false] rfl rfl (take_ofW HT_.out HW_.out (by kernel_rfl)) (fun _ _ _ h => h) (Or.inl ⟨by rfl, ?_⟩) hHeld ?_ ?_
                 rotate_left
                 ·rintro w' ⟨s0, s1, s2, s3⟩
                  go_simp
                  with_reducible rfl
                 rotate_left
                 ·simp only [Act.put, List.setIfInBounds_toArray, List.set_cons_zero, List.set_cons_succ, i64_w, i32_w]
                  rfl
                 refine pure_ (i := 10) (N := some 49) (v := ?_) (a' := ?_) #[true, true, true, true, true, true, true, true, true, true, true, false, false, false, false] rfl rfl (any_of HT_.out (by kernel_rfl)) (fun _ _ _ h => h) (Or.inl ⟨by rfl, ?_⟩) ?_ ?_
                 rotate_left
                 ·intro w'
                  go_simp
                  with_reducible rfl
                 rotate_left
                 ·simp only [Act.put, List.setIfInBounds_toArray, List.set_cons_zero, List.set_cons_succ, i64_w, i32_w]
                  rfl
                 refine take_ (i := 11) (N := some 50) (v := ?_) (a' := ?_) #[true, true, true, true, true, true, true, true, true, true, true, true, false, false, false] rfl rfl (take_ofW HT_.out HW_.out (by kernel_rfl)) (fun _ _ _ h => h) (Or.inl ⟨by rfl, ?_⟩) hHeld ?_ ?_
                 rotate_left
                 ·rintro w' ⟨s0, s1, s2, s3⟩
                  go_simp
                  with_reducible rfl
                 rotate_left
                 ·simp only [Act.put, List.setIfInBounds_toArray, List.set_cons_zero, List.set_cons_succ, i64_w, i32_w]
                  rfl
                 refine pure_ (i := 12) (N := some 51) (v := ?_) (a' := ?_) #[true, true, true, true, true, true, true, true, true, true, true, true, true, false, false] rfl rfl (any_of HT_.out (by kernel_rfl)) (fun _ _ _ h => h) (Or.inl ⟨by rfl, ?_⟩) ?_ ?_
                 rotate_left
                 ·intro w'
                  go_simp
                  with_reducible rfl
                 rotate_left
                 ·simp only [Act.put, List.setIfInBounds_toArray, List.set_cons_zero, List.set_cons_succ, i64_w, i32_w]
                  rfl
                 refine pure_ (i := 13) (N := some 52) (v := ?_) (a' := ?_) #[true, true, true, true, true, true, true, true, true, true, true, true, true, true, false] rfl rfl (any_of HT_.out (by kernel_rfl)) (fun _ _ _ h => h) (Or.inl ⟨by rfl, ?_⟩) ?_ ?_
                 rotate_left
                 ·intro w'
                  go_simp
                  with_reducible rfl
                 rotate_left
                 ·simp only [Act.put, List.setIfInBounds_toArray, List.set_cons_zero, List.set_cons_succ, i64_w, i32_w]
                  rfl
                 refine last_ (i := 14) (N := none) #[true, true, true, true, true, true, true, true, true, true, true, true, true, true, true] rfl rfl (one_of HT_.out (by kernel_rfl)) (by decide) (fun K hK => ?_)
                 refine skip_ (w1 := ?_) (by rfl) rfl ?_ ?_
                 rotate_left
                 ·go_simp
                  rfl
                 refine hK.out _ _ ?_
                 clear hK K
                 refine done_ (done_of HT_.out (by kernel_rfl)) ?_
                 have n0_ : Aside0 (Kd.R (Kd.int .i64) 3 (w30.setCell ⟨go25, (x34_2 : Int).toNat, none⟩ (.bool (decide ((rd x8_2 ((rd_T57 l1 x34_2).f0)) < (rd l2 ((rd_T57 l1 x34_2).f0)))))) w.heap.size (fun _ => True) (.slice (some ad149) x8_2.length co31) x8_2) := ⟨by (with_reducible repeat (first | apply Kd.R_alloc | apply Kd.R_drewN | apply Kd.R_drew)); exact Kd.R_mono (Kd.R_far (p := ⟨go25, (x34_2 : Int).toNat, none⟩) (Kd.R_types HO_8.out GG25.out (by decide)) (fun _ hk => hk.2) (.bool (decide ((rd x8_2 ((rd_T57 l1 x34_2).f0)) < (rd l2 ((rd_T57 l1 x34_2).f0)))))) (fun _ hk => trivial)⟩
                 have n1_ : Aside0 (Kd.R Kd.bool 4 (w30.setCell ⟨go25, (x34_2 : Int).toNat, none⟩ (.bool (decide ((rd x8_2 ((rd_T57 l1 x34_2).f0)) < (rd l2 ((rd_T57 l1 x34_2).f0)))))) w.heap.size (fun _ => True) (.slice (some ⟨go25, 0, none⟩) x9_2.length co25) y151) := ⟨by (with_reducible repeat (first | apply Kd.R_alloc | apply Kd.R_drewN | apply Kd.R_drew)); exact HQ32.out⟩
                 have n2_ : Aside0 ((w30.setCell ⟨go25, (x34_2 : Int).toNat, none⟩ (.bool (decide ((rd x8_2 ((rd_T57 l1 x34_2).f0)) < (rd l2 ((rd_T57 l1 x34_2).f0)))))).heap[gb148]? = some (.cells #[.int .i64 ((rd_T57 l1 x34_2).f0), .int .i64 ((rd_T57 l1 x34_2).f1)] 57 (0, 0))) := ⟨by (with_reducible repeat (first | refine blk_drewN ?_ _ | refine blk_drew ?_ | refine blk_alloc ?_ _)); refine blk_far ?_ (by have h_ := Kd.R_ne HO_9.out BK148.out (by decide); intro e_; exact h_ (by rw [e_]; rfl)) _; (with_reducible repeat (first | refine blk_drewN ?_ _ | refine blk_drew ?_ | refine blk_alloc ?_ _)); exact BK148.out⟩
                 have n3_ : Aside0 (Below w.heap.size w (w30.setCell ⟨go25, (x34_2 : Int).toNat, none⟩ (.bool (decide ((rd x8_2 ((rd_T57 l1 x34_2).f0)) < (rd l2 ((rd_T57 l1 x34_2).f0))))))) := ⟨by repeat (first | (with_reducible first | exact HB.out | apply below_alloc | apply pw_below_drewN | apply below_drew1 | refine below_set ?_ GB25.out | refine below_set ?_ GE148.out) | exact HB.out)⟩
                 (try clear HO_8)
                 (try clear HO_9)
                 (try clear BK148)
                 (try clear HB)
                 generalize (w30.setCell ⟨go25, (x34_2 : Int).toNat, none⟩ (.bool (decide ((rd x8_2 ((rd_T57 l1 x34_2).f0)) < (rd l2 ((rd_T57 l1 x34_2).f0)))))) = w33 at n0_ n1_ n2_ n3_ ⊢
                 have HO_8 := n0_
                 have HO_9 := n1_
                 have BK148 := n2_
                 have HB := n3_
                 clear n0_ n1_ n2_ n3_
                 have hcz34_0 : w33.cell? ⟨gb148, 0, none⟩ = some (.int .i64 ((rd_T57 l1 x34_2).f0)) := (blk_cell BK148.out 0).trans rfl
                 have hcz34_1 : w33.cell? ⟨gb148, 1, none⟩ = some (.int .i64 ((rd_T57 l1 x34_2).f1)) := (blk_cell BK148.out 1).trans rfl
                 have hfz34_0 := blk_frozen BK148.out 0
                 have hfz34_1 := blk_frozen BK148.out 1
                 have p152 : 0 ≤ (((rd_T57 l1 x34_2).f0) : Int) := of_decide_eq_true (by first | (with_reducible assumption) | assumption)
                 have q152 : ((rd_T57 l1 x34_2).f0) < (x8_2.length : Int) := of_decide_eq_true (by first | (with_reducible assumption) | assumption)
                 obtain ⟨ad152, e152, hx152_0⟩ := Kd.at_int (Kd.R_reads' HO_8.out).2.2 ((rd_T57 l1 x34_2).f0) p152 q152
                 obtain rfl : ad149 = ad152 := (by injection e152)
                 replace p152 := eq_true p152
                 replace q152 := eq_true q152
                 have p26 : 0 ≤ (((rd_T57 l1 x34_2).f0) : Int) := of_decide_eq_true (by first | (with_reducible assumption) | assumption)
                 have q26 : (((rd_T57 l1 x34_2).f0) : Int) < ((x8_2.length : Int) : Int) := of_decide_eq_true (by first | (with_reducible assumption) | assumption)
                 obtain ⟨go26, co26, eo26, gb26, gl26, cl26, HG26⟩ := Kd.R_form HO_8.out (by omega)
                 (first | cases eo26 | (injection eo26 with ea_ en_ ec_; (first | subst ea_ | (injection ea_ with ea_; subst ea_)); subst ec_; clear en_))
                 have GB26 := Aside0.mk gb26
                 have GG26 := Aside0.mk HG26
                 clear gb26 gl26 HG26
                 (first | simp only [add_plain] at hx149_0 | skip)
                 (first | simp only [add_plain] at hx152_0 | skip)
                 obtain ⟨hx26_0, hf26_0⟩ := Kd.R_celln 0 HO_8.out (((rd_T57 l1 x34_2).f0) : Int) p26 q26
                 replace p26 := eq_true p26
                 replace q26 := eq_true q26
                 obtain ⟨hy35_, hz35_⟩ := Kd.R_celln 0 HO_8.out (((rd_T57 l1 x34_2).f0) : Int) (of_decide_eq_true (by first | (with_reducible assumption) | assumption)) (of_decide_eq_true (by first | (with_reducible assumption) | assumption))
                 have HP35 := Kd.R_putg HO_8.out (((rd_T57 l1 x34_2).f0) : Int) (wrap64 ((rd x8_2 ((rd_T57 l1 x34_2).f0)) + 1))
                 try go_wp2_with (first | ((with_reducible refine gate_store (t := 3) (p := 59) rfl ?_); refine store_event (t := 3) (p := 59) (v := ?vo_w36) (w1 := (w33.setCell ⟨go26, (((rd_T57 l1 x34_2).f0) : Int).toNat, none⟩ (.int .i64 (wrap64 ((rd x8_2 ((rd_T57 l1 x34_2).f0)) + 1))))) ?hg ?ho ?hn ?hr ?_; (case ho => rfl); (case hg => rfl); (case hn => rfl); (case hr => first | (go_simp; done) | (go_simp; rfl)); intro w36 hw; have hg : w33.grownBy w36 (some go26) := (by rw [hw]; exact HP35.2); have hp_ : Kd.R (Kd.int .i64) 3 w36 w.heap.size (fun _ => True) (.slice (some ⟨go26, 0, none⟩) x8_2.length co31) y153 := (by rw [hw, Ny153.out]; exact HP35.1); clear HP35; have n0_ := Aside0.mk (hp_); have n1_ := Aside0.mk (Kd.R_over' (v := (.slice (some ⟨go26, 0, none⟩) x8_2.length co31)) (by (with_reducible repeat (first | apply Kd.R_alloc | apply Kd.R_drewN | apply Kd.R_drew)); exact HO_9.out) (Kd.R_typed HO_8.out) (by decide) hg); have n2_ := Aside0.mk (blk_grown (g := gb148) (o := .cells #[.int .i64 ((rd_T57 l1 x34_2).f0), .int .i64 ((rd_T57 l1 x34_2).f1)] 57 (0, 0)) (by (with_reducible repeat (first | refine blk_drewN ?_ _ | refine blk_drew ?_ | refine blk_alloc ?_ _)); exact BK148.out) hg (Kd.R_ne HO_8.out BK148.out (by decide))); have n3_ := Aside0.mk ((by rw [hw]; exact below_set (HB.out) GB26.out : Below w.heap.size w w36)); clear HO_8; clear HO_9; clear BK148; clear HB; have HO_8 := n0_; have HO_9 := n1_; have BK148 := n2_; have HB := n3_; clear n0_ n1_ n2_ n3_; clear hg hw hp_))
                 go_roundg k2
                 case measure => have := HJ3.out; have := HK2.out; omega
                 case rel => exact ⟨(y153), (y151), (wrap64 (x34_2 + 1)), (by first | rfl | (simp; done) | (simp [*]; done)), H', ⟨by have := HJ3.out; have := HK2.out; omega⟩, ⟨by (with_reducible repeat (first | apply Kd.R_alloc | apply Kd.R_drewN | apply Kd.R_drew)); exact HO_8.out⟩, ⟨by (with_reducible repeat (first | apply Kd.R_alloc | apply Kd.R_drewN | apply Kd.R_drew)); exact HO_9.out⟩, ⟨by repeat (first | (with_reducible first | exact HB.out | apply below_alloc | apply pw_below_drewN | apply below_drew1 | refine below_set ?_ GE148.out) | exact HB.out)⟩⟩
                ·rw [if_neg c24] at H
                 exact absurd H (by simp)
               ·rw [if_neg c23] at H
                exact absurd H (by simp)
              ·rw [if_neg c22] at H
               exact absurd H (by simp)
             ·rw [if_neg c21] at H
              exact absurd H (by simp)
            ·rw [if_neg c20] at H
             exact absurd H (by simp)
           ·rw [if_neg c19] at H
            exact absurd H (by simp)
          ·rw [if_neg c18] at H
           have c18b0 : decide (x34_2 < (l1.length : Int)) = false := decide_eq_false c18
           clear c18
           have H' := Aside0.mk H
           clear H
           go_wp2
           go_loopg [63] k2 (fun kq v63 w' => ∃ (x63_3 : Int), v63 = .int .i64 x63_3 ∧ Aside0 (spec_CutIsWhole.l1 kq l1 x8_2 x9_2 l2 (l2.length : Int) x63_3 = some (r1, r2)) ∧ Aside0 (kq ≤ k2) ∧ Aside0 (Kd.R (Kd.int .i64) 3 w' w.heap.size (fun _ => True) v142 x8_2) ∧ Aside0 (Kd.R Kd.bool 4 w' w.heap.size (fun _ => True) v145 x9_2) ∧ Aside0 (Below w.heap.size w w'))
           case atStart => exact ⟨(0), (by first | rfl | (simp; done) | (simp [*]; done)), H', ⟨Nat.le_refl _⟩, ⟨by (with_reducible repeat (first | apply Kd.R_alloc | apply Kd.R_drewN | apply Kd.R_drew)); exact HO_8.out⟩, ⟨by (with_reducible repeat (first | apply Kd.R_alloc | apply Kd.R_drewN | apply Kd.R_drew)); exact HO_9.out⟩, ⟨by repeat (first | (with_reducible first | exact HB.out | apply below_alloc | apply pw_below_drewN | apply below_drew1) | exact HB.out)⟩⟩
           case round =>
            clear H'
            try clear c1
            try clear p1
            try clear q1
            try clear hx1
            try clear c2
            try clear p2
            try clear q2
            try clear hx2
            try clear c3
            try clear c6
            try clear p6
            try clear c9
            try clear c10
            try clear c10b0
            try clear c10b1
            try clear c11
            try clear c11b0
            try clear c11b1
            try clear c12
            try clear c12b0
            try clear c12b1
            try clear c13
            try clear c13b0
            try clear c13b1
            try clear c14
            try clear p14
            try clear q14
            try clear hx14
            try clear p15
            try clear q15
            try clear hx15
            try clear c18
            try clear c18b0
            try clear c19
            try clear c19b0
            try clear c20
            try clear c20b0
            try clear c21
            try clear c21b0
            try clear c22
            try clear c22b0
            try clear c23
            try clear c23b0
            try clear c24
            try clear c24b0
            try clear p25
            try clear q25
            try clear hx25
            try clear hf25
            try clear p26
            try clear q26
            try clear hx26
            try clear hf26
            try clear c36
            try clear hcz28_0
            try clear hcz28_1
            try clear hcz34_0
            try clear hcz34_1
            try clear hfz28_0
            try clear hfz28_1
            try clear hfz34_0
            try clear hfz34_1
            try clear hx147_0
            try clear hx147_1
            try clear hx149_0
            try clear hx150_0
            try clear hx152_0
            try clear hx25_0
            try clear hx26_0
            try clear p147
            try clear p149
            try clear p150
            try clear p152
            try clear p2
            try clear p25
            try clear p26
            try clear q147
            try clear q149
            try clear q150
            try clear q152
            try clear q25
            try clear q26
            obtain ⟨x63_3, rfl, HA, HK3, HO_8, HO_9, HB⟩ := hrel
            cases gk with
            | zero => exact absurd HA.out (by simp [spec_CutIsWhole.l1])
            | succ k3 =>
             have H := HA.out
             clear HA
             simp only [spec_CutIsWhole.l1] at H
             by_cases c37 : x63_3 < (l2.length : Int)
             ·rw [if_pos c37] at H
              have c37b0 : decide (x63_3 < (l2.length : Int)) = true := decide_eq_true c37
              clear c37
              by_cases c38 : 0 ≤ x63_3
              ·rw [if_pos c38] at H
               have c38b0 : decide (0 ≤ x63_3) = true := decide_eq_true c38
               clear c38
               by_cases c39 : x63_3 < (l2.length : Int)
               ·rw [if_pos c39] at H
                have c39b0 : decide (x63_3 < (l2.length : Int)) = true := decide_eq_true c39
                clear c39
                by_cases c40 : x63_3 < (x8_2.length : Int)
                ·rw [if_pos c40] at H
                 have c40b0 : decide (x63_3 < (x8_2.length : Int)) = true := decide_eq_true c40
                 clear c40
                 replace H := Option.bind_eq_some_iff.mp H
                 obtain ⟨t156, A410, H⟩ := H
                 replace H : (if t156 = true then (spec_CutIsWhole.l1 k3 l1 x8_2 x9_2 l2 (l2.length : Int) (wrap64 (x63_3 + 1))) else (some (false, false))) = some (r1, r2) := H
                 have A41 := Aside0.mk A410
                 clear A410
                 by_cases c42 : t156 = true
                 ·subst c42
                  have H1 : (spec_CutIsWhole.l1 k3 l1 x8_2 x9_2 l2 (l2.length : Int) (wrap64 (x63_3 + 1))) = some (r1, r2) := by rw [if_pos rfl] at H; exact H
                  clear H
                  have H := H1
                  clear H1
                  have H' := Aside0.mk H
                  clear H
                  have p154 : 0 ≤ (x63_3 : Int) := of_decide_eq_true (by first | (with_reducible assumption) | assumption)
                  have q154 : x63_3 < (l2.length : Int) := of_decide_eq_true (by first | (with_reducible assumption) | assumption)
                  obtain ⟨ad154, e154, hx154_0⟩ := Kd.at_int HR2.out x63_3 p154 q154
                  cases e154
                  try replace hx154_0 := (HB.out.cell (World.block_lt_of_cell? w _ hx154_0)).trans hx154_0
                  replace p154 := eq_true p154
                  replace q154 := eq_true q154
                  obtain ⟨Ao43, co43, eo43⟩ := Kd.R_slice HO_8.out
                  subst eo43
                  have p155 : 0 ≤ (x63_3 : Int) := of_decide_eq_true (by first | (with_reducible assumption) | assumption)
                  have q155 : x63_3 < (x8_2.length : Int) := of_decide_eq_true (by first | (with_reducible assumption) | assumption)
                  obtain ⟨ad155, e155, hx155_0⟩ := Kd.at_int (Kd.R_reads' HO_8.out).2.2 x63_3 p155 q155
                  cases e155
                  replace p155 := eq_true p155
                  replace q155 := eq_true q155
                  go_wp2_with (first | ((with_reducible refine gate_callee (f := 44) rfl ?_); refine goesL_ (some 73) rfl rfl Try.func44 (by kernel_rfl) rfl #[.int .i64 (rd l2 x63_3), .int .i64 0, .int .i64 (rd x8_2 x63_3)] rfl (by (try simp only [List.map_toArray, List.map_cons, List.map_nil]); first | done | rfl | (simp only [List.length_drop, List.length_take]; rfl)) ?_; (with_reducible refine (spec_l1In.calls (rd l2 x63_3) 0 (rd x8_2 x63_3) true _ A41.out).mono ?_); rintro e w' ⟨rfl, ⟨nd, rfl⟩⟩; refine ⟨_, rfl, ?_⟩))
                  go_roundg k3
                  case measure => have := HJ3.out; have := HK2.out; have := HK3.out; omega
                  case rel => exact ⟨(wrap64 (x63_3 + 1)), (by first | rfl | (simp; done) | (simp [*]; done)), H', ⟨by have := HJ3.out; have := HK2.out; have := HK3.out; omega⟩, ⟨by (with_reducible repeat (first | apply Kd.R_alloc | apply Kd.R_drewN | apply Kd.R_drew)); exact HO_8.out⟩, ⟨by (with_reducible repeat (first | apply Kd.R_alloc | apply Kd.R_drewN | apply Kd.R_drew)); exact HO_9.out⟩, ⟨by repeat (first | (with_reducible first | exact HB.out | apply below_alloc | apply pw_below_drewN | apply below_drew1) | exact HB.out)⟩⟩
                 ·replace c42 := Bool.eq_false_iff.mpr c42
                  subst c42
                  have H1 : (some (false, false)) = some (r1, r2) := by rw [if_neg (show ¬ (false = true) by decide)] at H; exact H
                  clear H
                  have H := H1
                  clear H1
                  simp only [Option.some.injEq, Prod.mk.injEq] at H
                  obtain ⟨rfl, rfl⟩ := H
                  have p154 : 0 ≤ (x63_3 : Int) := of_decide_eq_true (by first | (with_reducible assumption) | assumption)
                  have q154 : x63_3 < (l2.length : Int) := of_decide_eq_true (by first | (with_reducible assumption) | assumption)
                  obtain ⟨ad154, e154, hx154_0⟩ := Kd.at_int HR2.out x63_3 p154 q154
                  cases e154
                  try replace hx154_0 := (HB.out.cell (World.block_lt_of_cell? w _ hx154_0)).trans hx154_0
                  replace p154 := eq_true p154
                  replace q154 := eq_true q154
                  obtain ⟨Ao44, co44, eo44⟩ := Kd.R_slice HO_8.out
                  subst eo44
                  have p155 : 0 ≤ (x63_3 : Int) := of_decide_eq_true (by first | (with_reducible assumption) | assumption)
                  have q155 : x63_3 < (x8_2.length : Int) := of_decide_eq_true (by first | (with_reducible assumption) | assumption)
                  obtain ⟨ad155, e155, hx155_0⟩ := Kd.at_int (Kd.R_reads' HO_8.out).2.2 x63_3 p155 q155
                  cases e155
                  replace p155 := eq_true p155
                  replace q155 := eq_true q155
                  go_wp2_with (first | ((with_reducible refine gate_callee (f := 44) rfl ?_); refine goesL_ (some 73) rfl rfl Try.func44 (by kernel_rfl) rfl #[.int .i64 (rd l2 x63_3), .int .i64 0, .int .i64 (rd x8_2 x63_3)] rfl (by (try simp only [List.map_toArray, List.map_cons, List.map_nil]); first | done | rfl | (simp only [List.length_drop, List.length_take]; rfl)) ?_; (with_reducible refine (spec_l1In.calls (rd l2 x63_3) 0 (rd x8_2 x63_3) false _ A41.out).mono ?_); rintro e w' ⟨rfl, ⟨nd, rfl⟩⟩; refine ⟨_, rfl, ?_⟩))
                  go_ret2
                  exact ⟨by first | rfl | (simp [errW_none, errW_some] <;> rfl) | (simp [*, errW_none, errW_some] <;> rfl), by repeat (first | (with_reducible first | exact HB.out | apply below_alloc | apply pw_below_drewN | apply below_drew1) | exact HB.out)⟩
                ·rw [if_neg c40] at H
                 exact absurd H (by simp)
               ·rw [if_neg c39] at H
                exact absurd H (by simp)
              ·rw [if_neg c38] at H
               exact absurd H (by simp)
             ·rw [if_neg c37] at H
              have c37b0 : decide (x63_3 < (l2.length : Int)) = false := decide_eq_false c37
              clear c37
              replace H := Option.bind_eq_some_iff.mp H
              obtain ⟨t157, A450, H⟩ := H
              replace H : (spec_CutIsWhole.l2 k3 x9_2 t157 (t157.length : Int) 0) = some (r1, r2) := H
              have A45 := Aside0.mk A450
              clear A450
              have H' := Aside0.mk H
              clear H
              go_wp2_with (first | ((with_reducible refine gate_callee (f := 52) rfl ?_); refine goesL_ (some 77) rfl rfl Try.func52 (by kernel_rfl) rfl #[.slice A1 l1.length c1] rfl (by (try simp only [List.map_toArray, List.map_cons, List.map_nil]); first | done | rfl | (simp only [List.length_drop, List.length_take]; rfl)) ?_; (with_reducible refine (spec_l2Ahead.calls k3 _ _ l1 t157 _ ?side1 ?side2 A45.out).mono ?_); (case side1 => repeat (first | exact (Kd.C_below HR1.out HB.out) | (with_reducible refine Kd.C_alloc ?_ _) | (with_reducible refine Kd.C_drewN ?_ _) | (with_reducible refine Kd.C_drew ?_))); (case side2 => exact HC1.out); rintro e w46 ⟨v158, rfl, ho0, hb⟩; refine ⟨_, rfl, ?_⟩; have n0_ := Aside0.mk (Kd.R_below (by (with_reducible repeat (first | apply Kd.R_alloc | apply Kd.R_drewN | apply Kd.R_drew)); exact HO_8.out) hb); have n1_ := Aside0.mk (Kd.R_below (by (with_reducible repeat (first | apply Kd.R_alloc | apply Kd.R_drewN | apply Kd.R_drew)); exact HO_9.out) hb); have n2_ := Aside0.mk (Kd.S_lower (Kd.S_new' ho0 (Kd.R_lt (by (with_reducible repeat (first | apply Kd.R_alloc | apply Kd.R_drewN | apply Kd.R_drew)); exact HO_9.out))) (below_size (by repeat (first | (with_reducible first | exact HB.out | apply below_alloc | apply pw_below_drewN | apply below_drew1) | exact HB.out)))); have n3_ := Aside0.mk (below_step (by repeat (first | (with_reducible first | exact HB.out | apply below_alloc | apply pw_below_drewN | apply below_drew1) | exact HB.out)) hb); clear HO_8; clear HO_9; clear HB; have HO_8 := n0_; have HO_9 := n1_; have HO159 := n2_; have HB := n3_; clear n0_ n1_ n2_ n3_; (try clear hb); (try clear hb2); (try clear hk); (try clear hi); (try clear ho0); obtain ⟨Ao47, co47, eo47⟩ := Kd.S_slice HO159.out; subst eo47))
              go_loopg [79] k3 (fun kq v79 w' => ∃ (x79_4 : Int), v79 = .int .i64 x79_4 ∧ Aside0 (spec_CutIsWhole.l2 kq x9_2 t157 (t157.length : Int) x79_4 = some (r1, r2)) ∧ Aside0 (kq ≤ k3) ∧ Aside0 (Kd.R Kd.bool 4 w' w.heap.size (fun _ => True) v145 x9_2) ∧ Aside0 (Kd.S (Kd.slice 4 Kd.bool) 55 w' w.heap.size (fun k_ => some k_ ≠ (v145 : Value).ownBlock) (.slice Ao47 t157.length co47) t157) ∧ Aside0 (Below w.heap.size w w'))
              case atStart => exact ⟨(0), (by first | rfl | (simp; done) | (simp [*]; done)), H', ⟨Nat.le_refl _⟩, ⟨by (with_reducible repeat (first | apply Kd.R_alloc | apply Kd.R_drewN | apply Kd.R_drew)); exact HO_9.out⟩, ⟨by (with_reducible repeat (first | apply Kd.S_alloc | apply Kd.S_drewN | apply Kd.S_drew)); exact Kd.S_mono HO159.out (fun _ hk => hk.2)⟩, ⟨by repeat (first | (with_reducible first | exact HB.out | apply below_alloc | apply pw_below_drewN | apply below_drew1) | exact HB.out)⟩⟩
              case round =>
               clear H'
               try clear c1
               try clear p1
               try clear q1
               try clear hx1
               try clear c2
               try clear p2
               try clear q2
               try clear hx2
               try clear c3
               try clear c4
               try clear c5
               try clear c6
               try clear p6
               try clear c9
               try clear c10
               try clear c10b0
               try clear c10b1
               try clear c11
               try clear c11b0
               try clear c11b1
               try clear c12
               try clear c12b0
               try clear c12b1
               try clear c13
               try clear c13b0
               try clear c13b1
               try clear c14
               try clear p14
               try clear q14
               try clear hx14
               try clear p15
               try clear q15
               try clear hx15
               try clear c18
               try clear c18b0
               try clear c19
               try clear c19b0
               try clear c20
               try clear c20b0
               try clear c21
               try clear c21b0
               try clear c22
               try clear c22b0
               try clear c23
               try clear c23b0
               try clear c24
               try clear c24b0
               try clear p25
               try clear q25
               try clear hx25
               try clear hf25
               try clear p26
               try clear q26
               try clear hx26
               try clear hf26
               try clear c36
               try clear c37
               try clear c37b0
               try clear c38
               try clear c38b0
               try clear c39
               try clear c39b0
               try clear c40
               try clear c40b0
               try clear c42
               try clear c44
               try clear hcz28_0
               try clear hcz28_1
               try clear hcz34_0
               try clear hcz34_1
               try clear hfz28_0
               try clear hfz28_1
               try clear hfz34_0
               try clear hfz34_1
               try clear hx147_0
               try clear hx147_1
               try clear hx149_0
               try clear hx150_0
               try clear hx152_0
               try clear hx154_0
               try clear hx155_0
               try clear hx25_0
               try clear hx26_0
               try clear p1
               try clear p14
               try clear p147
               try clear p149
               try clear p15
               try clear p150
               try clear p152
               try clear p154
               try clear p155
               try clear p2
               try clear p25
               try clear p26
               try clear p6
               try clear q1
               try clear q14
               try clear q147
               try clear q149
               try clear q15
               try clear q150
               try clear q152
               try clear q154
               try clear q155
               try clear q2
               try clear q25
               try clear q26
               obtain ⟨x79_4, rfl, HA, HK4, HO_9, HO_77, HB⟩ := hrel
               cases gk with
               | zero => exact absurd HA.out (by simp [spec_CutIsWhole.l2])
               | succ k4 =>
                have H := HA.out
                clear HA
                simp only [spec_CutIsWhole.l2] at H
                by_cases c48 : x79_4 < (t157.length : Int)
                ·rw [if_pos c48] at H
                 have c48b0 : decide (x79_4 < (t157.length : Int)) = true := decide_eq_true c48
                 clear c48
                 by_cases c49 : 0 ≤ x79_4
                 ·rw [if_pos c49] at H
                  have c49b0 : decide (0 ≤ x79_4) = true := decide_eq_true c49
                  clear c49
                  by_cases c50 : x79_4 < (t157.length : Int)
                  ·rw [if_pos c50] at H
                   have c50b0 : decide (x79_4 < (t157.length : Int)) = true := decide_eq_true c50
                   clear c50
                   have H' := Aside0.mk H
                   clear H
                   have p160 : 0 ≤ (x79_4 : Int) := of_decide_eq_true (by first | (with_reducible assumption) | assumption)
                   have q160 : x79_4 < (t157.length : Int) := of_decide_eq_true (by first | (with_reducible assumption) | assumption)
                   obtain ⟨ad160, A160_0, c160_0, e160, hx160_0, hl160_0, hi160_0⟩ := at_L6 (Kd.S_reads' HO_77.out).2.2 x79_4 p160 q160
                   cases e160
                   obtain ⟨ce160, hce160, hMe160, hcc160⟩ := Kd.S_get HO_77.out [] x79_4 p160 (by first | exact q160 | exact of_decide_eq_true (by first | (with_reducible assumption) | assumption) | (have e_ := (Kd.S_reads' HO_77.out).1; omega))
                   obtain ⟨ve160_0, rfl, ge160_0⟩ := hMe160
                   have hv160_0 := hcc160 0 _ rfl
                   rw [Nat.add_zero, show ((Kd.slice 4 Kd.bool)).sz = 1 from rfl, Nat.mul_one] at hv160_0
                   replace hv160_0 := Option.some.inj (hv160_0.symm.trans hx160_0)
                   rw [hv160_0] at ge160_0
                   have HL160_0 := Aside0.mk (show Kd.R Kd.bool 4 _ _ _ _ (rd_L6 t157 x79_4) from ge160_0)
                   clear hv160_0 ge160_0
                   clear hcc160 hce160
                   have HR160_0 := Aside0.mk hi160_0
                   have HC160_0 := Aside0.mk hl160_0
                   clear hi160_0 hl160_0
                   replace p160 := eq_true p160
                   replace q160 := eq_true q160
                   go_wp2
                   go_loopg [16] k4 (fun kq v16 w' => ∃ (x16_5 : Int), v16 = .int .i64 x16_5 ∧ Aside0 (spec_CutIsWhole.l3 kq x9_2 x79_4 (rd_L6 t157 x79_4) x16_5 t157 (t157.length : Int) x79_4 = some (r1, r2)) ∧ Aside0 (kq ≤ k4) ∧ Aside0 (Kd.R Kd.bool 4 w' w.heap.size (fun _ => True) v145 x9_2) ∧ Aside0 (Kd.S (Kd.slice 4 Kd.bool) 55 w' w.heap.size (fun k_ => some k_ ≠ (v145 : Value).ownBlock) (.slice (some ad160) t157.length co47) t157) ∧ Aside0 (Kd.C Kd.bool w' A160_0 (rd_L6 t157 x79_4).length (rd_L6 t157 x79_4)) ∧ Aside0 (Below w.heap.size w w'))
                   case atStart => exact ⟨(0), (by first | rfl | (simp; done) | (simp [*]; done)), H', ⟨Nat.le_refl _⟩, ⟨by (with_reducible repeat (first | apply Kd.R_alloc | apply Kd.R_drewN | apply Kd.R_drew)); exact HO_9.out⟩, ⟨by (with_reducible repeat (first | apply Kd.S_alloc | apply Kd.S_drewN | apply Kd.S_drew)); exact HO_77.out⟩, ⟨by repeat (first | (with_reducible exact HR160_0.out) | (with_reducible refine Kd.C_alloc ?_ _) | (with_reducible refine Kd.C_drewN ?_ _) | (with_reducible refine Kd.C_drew ?_) | exact HR160_0.out)⟩, ⟨by repeat (first | (with_reducible first | exact HB.out | apply below_alloc | apply pw_below_drewN | apply below_drew1) | exact HB.out)⟩⟩
                   case round =>
                    clear H'
                    try clear c1
                    try clear p1
                    try clear q1
                    try clear hx1
                    try clear c2
                    try clear p2
                    try clear q2
                    try clear hx2
                    try clear c3
                    try clear c4
                    try clear c5
                    try clear c6
                    try clear p6
                    try clear c9
                    try clear c10
                    try clear c10b0
                    try clear c10b1
                    try clear c11
                    try clear c11b0
                    try clear c11b1
                    try clear c12
                    try clear c12b0
                    try clear c12b1
                    try clear c13
                    try clear c13b0
                    try clear c13b1
                    try clear c14
                    try clear p14
                    try clear q14
                    try clear hx14
                    try clear p15
                    try clear q15
                    try clear hx15
                    try clear c16
                    try clear p16
                    try clear q16
                    try clear hx16
                    try clear c18
                    try clear c18b0
                    try clear c19
                    try clear c19b0
                    try clear c20
                    try clear c20b0
                    try clear c21
                    try clear c21b0
                    try clear c22
                    try clear c22b0
                    try clear c23
                    try clear c23b0
                    try clear c24
                    try clear c24b0
                    try clear p25
                    try clear q25
                    try clear hx25
                    try clear hf25
                    try clear p26
                    try clear q26
                    try clear hx26
                    try clear hf26
                    try clear c36
                    try clear c37
                    try clear c37b0
                    try clear c38
                    try clear c38b0
                    try clear c39
                    try clear c39b0
                    try clear c40
                    try clear c40b0
                    try clear c42
                    try clear c44
                    try clear c48
                    try clear c48b0
                    try clear c49
                    try clear c49b0
                    try clear c50
                    try clear c50b0
                    try clear hcz28_0
                    try clear hcz28_1
                    try clear hcz34_0
                    try clear hcz34_1
                    try clear hfz28_0
                    try clear hfz28_1
                    try clear hfz34_0
                    try clear hfz34_1
                    try clear hx147_0
                    try clear hx147_1
                    try clear hx149_0
                    try clear hx150_0
                    try clear hx152_0
                    try clear hx154_0
                    try clear hx155_0
                    try clear hx160_0
                    try clear hx25_0
                    try clear hx26_0
                    try clear p1
                    try clear p14
                    try clear p147
                    try clear p149
                    try clear p15
                    try clear p150
                    try clear p152
                    try clear p154
                    try clear p155
                    try clear p160
                    try clear p2
                    try clear p25
                    try clear p26
                    try clear p6
                    try clear q1
                    try clear q14
                    try clear q147
                    try clear q149
                    try clear q15
                    try clear q150
                    try clear q152
                    try clear q154
                    try clear q155
                    try clear q160
                    try clear q2
                    try clear q25
                    try clear q26
                    obtain ⟨x16_5, rfl, HA, HK5, HO_9, HO_77, HR160_0, HB⟩ := hrel
                    cases gk with
                    | zero => exact absurd HA.out (by simp [spec_CutIsWhole.l3])
                    | succ k5 =>
                     have H := HA.out
                     clear HA
                     simp only [spec_CutIsWhole.l3] at H
                     by_cases c51 : x16_5 < x79_4
                     ·rw [if_pos c51] at H
                      have c51b0 : decide (x16_5 < x79_4) = true := decide_eq_true c51
                      clear c51
                      by_cases c52 : 0 ≤ x79_4
                      ·rw [if_pos c52] at H
                       have c52b0 : decide (0 ≤ x79_4) = true := decide_eq_true c52
                       clear c52
                       by_cases c53 : x79_4 < (x9_2.length : Int)
                       ·rw [if_pos c53] at H
                        have c53b0 : decide (x79_4 < (x9_2.length : Int)) = true := decide_eq_true c53
                        clear c53
                        obtain ⟨bq54, hbq54⟩ : ∃ b_ : Bool, b_ = (rdOf false x9_2 x79_4) := ⟨_, rfl⟩
                        replace H : (if bq54 = true then (if 0 ≤ x16_5 then (if x16_5 < ((rd_L6 t157 x79_4).length : Int) then (if rdOf false (rd_L6 t157 x79_4) x16_5 = true then (if x16_5 < (x9_2.length : Int) then (if rdOf false x9_2 x16_5 = true then (spec_CutIsWhole.l3 k5 x9_2 x79_4 (rd_L6 t157 x79_4) (wrap64 (x16_5 + 1)) t157 (t157.length : Int) x79_4) else (some (false, true))) else (none)) else (spec_CutIsWhole.l3 k5 x9_2 x79_4 (rd_L6 t157 x79_4) (wrap64 (x16_5 + 1)) t157 (t157.length : Int) x79_4)) else (none)) else (none)) else (spec_CutIsWhole.l3 k5 x9_2 x79_4 (rd_L6 t157 x79_4) (wrap64 (x16_5 + 1)) t157 (t157.length : Int) x79_4)) = some (r1, r2) := by rw [← hbq54] at H; exact H
                        have Nbq54 := Aside0.mk hbq54
                        clear hbq54
                        by_cases c55 : bq54 = true
                        ·subst c55
                         have H1 : (if 0 ≤ x16_5 then (if x16_5 < ((rd_L6 t157 x79_4).length : Int) then (if rdOf false (rd_L6 t157 x79_4) x16_5 = true then (if x16_5 < (x9_2.length : Int) then (if rdOf false x9_2 x16_5 = true then (spec_CutIsWhole.l3 k5 x9_2 x79_4 (rd_L6 t157 x79_4) (wrap64 (x16_5 + 1)) t157 (t157.length : Int) x79_4) else (some (false, true))) else (none)) else (spec_CutIsWhole.l3 k5 x9_2 x79_4 (rd_L6 t157 x79_4) (wrap64 (x16_5 + 1)) t157 (t157.length : Int) x79_4)) else (none)) else (none)) = some (r1, r2) := by rw [if_pos rfl] at H; exact H
                         clear H
                         have H := H1
                         clear H1
                         by_cases c56 : 0 ≤ x16_5
                         ·rw [if_pos c56] at H
                          have c56b0 : decide (0 ≤ x16_5) = true := decide_eq_true c56
                          clear c56
                          by_cases c57 : x16_5 < ((rd_L6 t157 x79_4).length : Int)
                          ·rw [if_pos c57] at H
                           have c57b0 : decide (x16_5 < ((rd_L6 t157 x79_4).length : Int)) = true := decide_eq_true c57
                           clear c57
                           obtain ⟨bq58, hbq58⟩ : ∃ b_ : Bool, b_ = (rdOf false (rd_L6 t157 x79_4) x16_5) := ⟨_, rfl⟩
                           replace H : (if bq58 = true then (if x16_5 < (x9_2.length : Int) then (if rdOf false x9_2 x16_5 = true then (spec_CutIsWhole.l3 k5 x9_2 x79_4 (rd_L6 t157 x79_4) (wrap64 (x16_5 + 1)) t157 (t157.length : Int) x79_4) else (some (false, true))) else (none)) else (spec_CutIsWhole.l3 k5 x9_2 x79_4 (rd_L6 t157 x79_4) (wrap64 (x16_5 + 1)) t157 (t157.length : Int) x79_4)) = some (r1, r2) := by rw [← hbq58] at H; exact H
                           have Nbq58 := Aside0.mk hbq58
                           clear hbq58
                           by_cases c59 : bq58 = true
                           ·subst c59
                            have H1 : (if x16_5 < (x9_2.length : Int) then (if rdOf false x9_2 x16_5 = true then (spec_CutIsWhole.l3 k5 x9_2 x79_4 (rd_L6 t157 x79_4) (wrap64 (x16_5 + 1)) t157 (t157.length : Int) x79_4) else (some (false, true))) else (none)) = some (r1, r2) := by rw [if_pos rfl] at H; exact H
                            clear H
                            have H := H1
                            clear H1
                            by_cases c60 : x16_5 < (x9_2.length : Int)
                            ·rw [if_pos c60] at H
                             have c60b0 : decide (x16_5 < (x9_2.length : Int)) = true := decide_eq_true c60
                             clear c60
                             obtain ⟨bq61, hbq61⟩ : ∃ b_ : Bool, b_ = (rdOf false x9_2 x16_5) := ⟨_, rfl⟩
                             replace H : (if bq61 = true then (spec_CutIsWhole.l3 k5 x9_2 x79_4 (rd_L6 t157 x79_4) (wrap64 (x16_5 + 1)) t157 (t157.length : Int) x79_4) else (some (false, true))) = some (r1, r2) := by rw [← hbq61] at H; exact H
                             have Nbq61 := Aside0.mk hbq61
                             clear hbq61
                             by_cases c62 : bq61 = true
                             ·subst c62
                              have H1 : (spec_CutIsWhole.l3 k5 x9_2 x79_4 (rd_L6 t157 x79_4) (wrap64 (x16_5 + 1)) t157 (t157.length : Int) x79_4) = some (r1, r2) := by rw [if_pos rfl] at H; exact H
                              clear H
                              have H := H1
                              clear H1
                              have H' := Aside0.mk H
                              clear H
                              obtain ⟨Ao63, co63, eo63⟩ := Kd.R_slice HO_9.out
                              subst eo63
                              have p161 : 0 ≤ (x79_4 : Int) := of_decide_eq_true (by first | (with_reducible assumption) | assumption)
                              have q161 : x79_4 < (x9_2.length : Int) := of_decide_eq_true (by first | (with_reducible assumption) | assumption)
                              obtain ⟨ad161, e161, hx161_0⟩ := Kd.at_bool (Kd.R_reads' HO_9.out).2.2 x79_4 p161 q161
                              (try rw [← Nbq54.out] at hx161_0)
                              (try rw [← Nbq58.out] at hx161_0)
                              (try rw [← Nbq61.out] at hx161_0)
                              cases e161
                              replace p161 := eq_true p161
                              replace q161 := eq_true q161
                              have p162 : 0 ≤ (x16_5 : Int) := of_decide_eq_true (by first | (with_reducible assumption) | assumption)
                              have q162 : x16_5 < ((rd_L6 t157 x79_4).length : Int) := of_decide_eq_true (by first | (with_reducible assumption) | assumption)
                              obtain ⟨ad162, e162, hx162_0⟩ := Kd.at_bool HR160_0.out x16_5 p162 q162
                              (try rw [← Nbq54.out] at hx162_0)
                              (try rw [← Nbq58.out] at hx162_0)
                              (try rw [← Nbq61.out] at hx162_0)
                              cases e162
                              try replace hx162_0 := (HB.out.cell (World.block_lt_of_cell? w _ hx162_0)).trans hx162_0
                              replace p162 := eq_true p162
                              replace q162 := eq_true q162
                              have p163 : 0 ≤ (x16_5 : Int) := of_decide_eq_true (by first | (with_reducible assumption) | assumption)
                              have q163 : x16_5 < (x9_2.length : Int) := of_decide_eq_true (by first | (with_reducible assumption) | assumption)
                              obtain ⟨ad163, e163, hx163_0⟩ := Kd.at_bool (Kd.R_reads' HO_9.out).2.2 x16_5 p163 q163
                              (try rw [← Nbq54.out] at hx163_0)
                              (try rw [← Nbq58.out] at hx163_0)
                              (try rw [← Nbq61.out] at hx163_0)
                              obtain rfl : ad161 = ad163 := (by injection e163)
                              replace p163 := eq_true p163
                              replace q163 := eq_true q163
                              go_wp2
                              go_roundg k5
                              case measure => have := HJ3.out; have := HK2.out; have := HK3.out; have := HK4.out; have := HK5.out; omega
                              case rel => exact ⟨(wrap64 (x16_5 + 1)), (by first | rfl | (simp; done) | (simp [*]; done)), H', ⟨by have := HJ3.out; have := HK2.out; have := HK3.out; have := HK4.out; have := HK5.out; omega⟩, ⟨by (with_reducible repeat (first | apply Kd.R_alloc | apply Kd.R_drewN | apply Kd.R_drew)); exact HO_9.out⟩, ⟨by (with_reducible repeat (first | apply Kd.S_alloc | apply Kd.S_drewN | apply Kd.S_drew)); exact HO_77.out⟩, ⟨by repeat (first | (with_reducible exact HR160_0.out) | (with_reducible refine Kd.C_alloc ?_ _) | (with_reducible refine Kd.C_drewN ?_ _) | (with_reducible refine Kd.C_drew ?_) | exact HR160_0.out)⟩, ⟨by repeat (first | (with_reducible first | exact HB.out | apply below_alloc | apply pw_below_drewN | apply below_drew1) | exact HB.out)⟩⟩
                             ·replace c62 := Bool.eq_false_iff.mpr c62
                              subst c62
                              have H1 : (some (false, true)) = some (r1, r2) := by rw [if_neg (show ¬ (false = true) by decide)] at H; exact H
                              clear H
                              have H := H1
                              clear H1
                              simp only [Option.some.injEq, Prod.mk.injEq] at H
                              obtain ⟨rfl, rfl⟩ := H
                              obtain ⟨Ao64, co64, eo64⟩ := Kd.R_slice HO_9.out
                              subst eo64
                              have p161 : 0 ≤ (x79_4 : Int) := of_decide_eq_true (by first | (with_reducible assumption) | assumption)
                              have q161 : x79_4 < (x9_2.length : Int) := of_decide_eq_true (by first | (with_reducible assumption) | assumption)
                              obtain ⟨ad161, e161, hx161_0⟩ := Kd.at_bool (Kd.R_reads' HO_9.out).2.2 x79_4 p161 q161
                              (try rw [← Nbq54.out] at hx161_0)
                              (try rw [← Nbq58.out] at hx161_0)
                              (try rw [← Nbq61.out] at hx161_0)
                              cases e161
                              replace p161 := eq_true p161
                              replace q161 := eq_true q161
                              have p162 : 0 ≤ (x16_5 : Int) := of_decide_eq_true (by first | (with_reducible assumption) | assumption)
                              have q162 : x16_5 < ((rd_L6 t157 x79_4).length : Int) := of_decide_eq_true (by first | (with_reducible assumption) | assumption)
                              obtain ⟨ad162, e162, hx162_0⟩ := Kd.at_bool HR160_0.out x16_5 p162 q162
                              (try rw [← Nbq54.out] at hx162_0)
                              (try rw [← Nbq58.out] at hx162_0)
                              (try rw [← Nbq61.out] at hx162_0)
                              cases e162
                              try replace hx162_0 := (HB.out.cell (World.block_lt_of_cell? w _ hx162_0)).trans hx162_0
                              replace p162 := eq_true p162
                              replace q162 := eq_true q162
                              have p163 : 0 ≤ (x16_5 : Int) := of_decide_eq_true (by first | (with_reducible assumption) | assumption)
                              have q163 : x16_5 < (x9_2.length : Int) := of_decide_eq_true (by first | (with_reducible assumption) | assumption)
                              obtain ⟨ad163, e163, hx163_0⟩ := Kd.at_bool (Kd.R_reads' HO_9.out).2.2 x16_5 p163 q163
                              (try rw [← Nbq54.out] at hx163_0)
                              (try rw [← Nbq58.out] at hx163_0)
                              (try rw [← Nbq61.out] at hx163_0)
                              obtain rfl : ad161 = ad163 := (by injection e163)
                              replace p163 := eq_true p163
                              replace q163 := eq_true q163
                              go_wp2
                              go_ret2
                              exact ⟨by first | rfl | (simp [errW_none, errW_some] <;> rfl) | (simp [*, errW_none, errW_some] <;> rfl), by repeat (first | (with_reducible first | exact HB.out | apply below_alloc | apply pw_below_drewN | apply below_drew1) | exact HB.out)⟩
                            ·rw [if_neg c60] at H
                             exact absurd H (by simp)
                           ·replace c59 := Bool.eq_false_iff.mpr c59
                            subst c59
                            have H1 : (spec_CutIsWhole.l3 k5 x9_2 x79_4 (rd_L6 t157 x79_4) (wrap64 (x16_5 + 1)) t157 (t157.length : Int) x79_4) = some (r1, r2) := by rw [if_neg (show ¬ (false = true) by decide)] at H; exact H
                            clear H
                            have H := H1
                            clear H1
                            have H' := Aside0.mk H
                            clear H
                            obtain ⟨Ao65, co65, eo65⟩ := Kd.R_slice HO_9.out
                            subst eo65
                            have p161 : 0 ≤ (x79_4 : Int) := of_decide_eq_true (by first | (with_reducible assumption) | assumption)
                            have q161 : x79_4 < (x9_2.length : Int) := of_decide_eq_true (by first | (with_reducible assumption) | assumption)
                            obtain ⟨ad161, e161, hx161_0⟩ := Kd.at_bool (Kd.R_reads' HO_9.out).2.2 x79_4 p161 q161
                            (try rw [← Nbq54.out] at hx161_0)
                            (try rw [← Nbq58.out] at hx161_0)
                            cases e161
                            replace p161 := eq_true p161
                            replace q161 := eq_true q161
                            have p162 : 0 ≤ (x16_5 : Int) := of_decide_eq_true (by first | (with_reducible assumption) | assumption)
                            have q162 : x16_5 < ((rd_L6 t157 x79_4).length : Int) := of_decide_eq_true (by first | (with_reducible assumption) | assumption)
                            obtain ⟨ad162, e162, hx162_0⟩ := Kd.at_bool HR160_0.out x16_5 p162 q162
                            (try rw [← Nbq54.out] at hx162_0)
                            (try rw [← Nbq58.out] at hx162_0)
                            cases e162
                            try replace hx162_0 := (HB.out.cell (World.block_lt_of_cell? w _ hx162_0)).trans hx162_0
                            replace p162 := eq_true p162
                            replace q162 := eq_true q162
                            go_wp2
                            go_roundg k5
                            case measure => have := HJ3.out; have := HK2.out; have := HK3.out; have := HK4.out; have := HK5.out; omega
                            case rel => exact ⟨(wrap64 (x16_5 + 1)), (by first | rfl | (simp; done) | (simp [*]; done)), H', ⟨by have := HJ3.out; have := HK2.out; have := HK3.out; have := HK4.out; have := HK5.out; omega⟩, ⟨by (with_reducible repeat (first | apply Kd.R_alloc | apply Kd.R_drewN | apply Kd.R_drew)); exact HO_9.out⟩, ⟨by (with_reducible repeat (first | apply Kd.S_alloc | apply Kd.S_drewN | apply Kd.S_drew)); exact HO_77.out⟩, ⟨by repeat (first | (with_reducible exact HR160_0.out) | (with_reducible refine Kd.C_alloc ?_ _) | (with_reducible refine Kd.C_drewN ?_ _) | (with_reducible refine Kd.C_drew ?_) | exact HR160_0.out)⟩, ⟨by repeat (first | (with_reducible first | exact HB.out | apply below_alloc | apply pw_below_drewN | apply below_drew1) | exact HB.out)⟩⟩
                          ·rw [if_neg c57] at H
                           exact absurd H (by simp)
                         ·rw [if_neg c56] at H
                          exact absurd H (by simp)
                        ·replace c55 := Bool.eq_false_iff.mpr c55
                         subst c55
                         have H1 : (spec_CutIsWhole.l3 k5 x9_2 x79_4 (rd_L6 t157 x79_4) (wrap64 (x16_5 + 1)) t157 (t157.length : Int) x79_4) = some (r1, r2) := by rw [if_neg (show ¬ (false = true) by decide)] at H; exact H
                         clear H
                         have H := H1
                         clear H1
                         have H' := Aside0.mk H
                         clear H
                         obtain ⟨Ao66, co66, eo66⟩ := Kd.R_slice HO_9.out
                         subst eo66
                         have p161 : 0 ≤ (x79_4 : Int) := of_decide_eq_true (by first | (with_reducible assumption) | assumption)
                         have q161 : x79_4 < (x9_2.length : Int) := of_decide_eq_true (by first | (with_reducible assumption) | assumption)
                         obtain ⟨ad161, e161, hx161_0⟩ := Kd.at_bool (Kd.R_reads' HO_9.out).2.2 x79_4 p161 q161
                         (try rw [← Nbq54.out] at hx161_0)
                         cases e161
                         replace p161 := eq_true p161
                         replace q161 := eq_true q161
                         go_wp2
                         go_roundg k5
                         case measure => have := HJ3.out; have := HK2.out; have := HK3.out; have := HK4.out; have := HK5.out; omega
                         case rel => exact ⟨(wrap64 (x16_5 + 1)), (by first | rfl | (simp; done) | (simp [*]; done)), H', ⟨by have := HJ3.out; have := HK2.out; have := HK3.out; have := HK4.out; have := HK5.out; omega⟩, ⟨by (with_reducible repeat (first | apply Kd.R_alloc | apply Kd.R_drewN | apply Kd.R_drew)); exact HO_9.out⟩, ⟨by (with_reducible repeat (first | apply Kd.S_alloc | apply Kd.S_drewN | apply Kd.S_drew)); exact HO_77.out⟩, ⟨by repeat (first | (with_reducible exact HR160_0.out) | (with_reducible refine Kd.C_alloc ?_ _) | (with_reducible refine Kd.C_drewN ?_ _) | (with_reducible refine Kd.C_drew ?_) | exact HR160_0.out)⟩, ⟨by repeat (first | (with_reducible first | exact HB.out | apply below_alloc | apply pw_below_drewN | apply below_drew1) | exact HB.out)⟩⟩
                       ·rw [if_neg c53] at H
                        exact absurd H (by simp)
                      ·rw [if_neg c52] at H
                       exact absurd H (by simp)
                     ·rw [if_neg c51] at H
                      have c51b0 : decide (x16_5 < x79_4) = false := decide_eq_false c51
                      clear c51
                      have H' := Aside0.mk H
                      clear H
                      go_wp2
                      go_roundg k5
                      case measure => have := HJ3.out; have := HK2.out; have := HK3.out; have := HK4.out; have := HK5.out; omega
                      case rel => exact ⟨(wrap64 (x79_4 + 1)), (by first | rfl | (simp; done) | (simp [*]; done)), H', ⟨by have := HJ3.out; have := HK2.out; have := HK3.out; have := HK4.out; have := HK5.out; omega⟩, ⟨by (with_reducible repeat (first | apply Kd.R_alloc | apply Kd.R_drewN | apply Kd.R_drew)); exact HO_9.out⟩, ⟨by (with_reducible repeat (first | apply Kd.S_alloc | apply Kd.S_drewN | apply Kd.S_drew)); exact HO_77.out⟩, ⟨by repeat (first | (with_reducible first | exact HB.out | apply below_alloc | apply pw_below_drewN | apply below_drew1) | exact HB.out)⟩⟩
                  ·rw [if_neg c50] at H
                   exact absurd H (by simp)
                 ·rw [if_neg c49] at H
                  exact absurd H (by simp)
                ·rw [if_neg c48] at H
                 have c48b0 : decide (x79_4 < (t157.length : Int)) = false := decide_eq_false c48
                 try (have c48b0q := c48b0; rw [hl160_0] at c48b0q)
                 clear c48
                 simp only [Option.some.injEq, Prod.mk.injEq] at H
                 obtain ⟨rfl, rfl⟩ := H
                 go_wp2
                 go_ret2
                 exact ⟨by first | rfl | (simp [errW_none, errW_some] <;> rfl) | (simp [*, errW_none, errW_some] <;> rfl), by repeat (first | (with_reducible first | exact HB.out | apply below_alloc | apply pw_below_drewN | apply below_drew1) | exact HB.out)⟩
       ·rw [if_neg c13] at H
        exact absurd H (by simp)
      ·rw [if_neg c12] at H
       exact absurd H (by simp)
     ·rw [if_neg c11] at H
      exact absurd H (by simp)
    ·rw [if_neg c10] at H
     exact absurd H (by simp)

end Go.Proofs.Ytmhhjmadpnkelaa.PFnCuts
