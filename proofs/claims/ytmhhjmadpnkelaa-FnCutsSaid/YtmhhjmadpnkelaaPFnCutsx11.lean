-- written by xprint.py (a program of this session's, over the kit's print): printed functions, and some by hand
import Derived.Test.YtmhhjmadpnkelaaPFnCutsx0
import Derived.Test.YtmhhjmadpnkelaaPFnCutsx3
import Derived.Test.YtmhhjmadpnkelaaPFnCutsx6
import Derived.Test.YtmhhjmadpnkelaaPFnCutsx7
import Derived.Test.YtmhhjmadpnkelaaPFnCutsx10
namespace Go.Proofs.Ytmhhjmadpnkelaa.PFnCuts
open Go.RowKit Go.Proofs.YtmhhjmadpnkelaaW.PrintWords Go.Proofs.YtmhhjmadpnkelaaW.PrintLast Go.Proofs.YtmhhjmadpnkelaaW.PrintMore
attribute [local go_sem] max2_int min2_int max_two min_two max_three min_three max_four min_four   -- for this text's walks alone
set_option linter.unusedVariables false
set_option linter.unusedSimpArgs false

/-! ### laws_FnCuts: function 11 -/
mutual
def laws_FnCuts.j0 : Nat → List Int → Int → List (S57) → List Int → Bool → Bool → Bool → Option (Bool)
 | 0, _, _, _, _, _, _, _ => none
 | k + 1, x1, x5, x6, x7, x8, x9, x54 => if x54 = true then (some false) else (if x9 = true then (if 0 ≤ x5 then (if (x5 : Int).toNat ≤ 35184372088832 then (if 0 ≤ (x6.length : Int) then (if ((x6.length : Int) : Int).toNat ≤ 281474976710656 then (laws_FnCuts.l0 k x1 x5 x6 x7 x8 (List.replicate (x5 : Int).toNat 0) (List.replicate ((x6.length : Int) : Int).toNat false) true x6 (x6.length : Int) 0) else (none)) else (none)) else (none)) else (none)) else (some (!x8)))
def laws_FnCuts.l0 : Nat → List Int → Int → List (S57) → List Int → Bool → List Int → List Bool → Bool → List (S57) → Int → Int → Option (Bool)
 | 0, _, _, _, _, _, _, _, _, _, _, _ => none
 | k + 1, x1, x5, x6, x7, x8, x12, x13, x14, x64, x65, x66 => if x66 < x65 then (if 0 ≤ x66 then (if x66 < (x64.length : Int) then (if 0 ≤ ((rd_T57 x64 x66).f0) then (if ((rd_T57 x64 x66).f0) < (x12.length : Int) then (if ((rd_T57 x64 x66).f0) < (x7.length : Int) then (if x66 < (x13.length : Int) then ((some (x13.set (x66 : Int).toNat (decide ((rd x12 ((rd_T57 x64 x66).f0)) < (rd x7 ((rd_T57 x64 x66).f0)))) : List Bool)).bind fun y294 => ((some (x12.set (((rd_T57 x64 x66).f0) : Int).toNat (wrap64 ((rd x12 ((rd_T57 x64 x66).f0)) + 1)) : List Int)).bind fun y296 => (if x14 = true then (if rdOf false y294 x66 = true then (if ((rd_T57 x64 x66).f1) < 0 then (laws_FnCuts.l0 k x1 x5 x6 x7 x8 y296 y294 true x64 x65 (wrap64 (x66 + 1))) else (if 0 ≤ ((rd_T57 x64 x66).f1) then (if ((rd_T57 x64 x66).f1) < (x13.length : Int) then (laws_FnCuts.l0 k x1 x5 x6 x7 x8 y296 y294 (rdOf false y294 ((rd_T57 x64 x66).f1)) x64 x65 (wrap64 (x66 + 1))) else (none)) else (none))) else (laws_FnCuts.l0 k x1 x5 x6 x7 x8 y296 y294 true x64 x65 (wrap64 (x66 + 1)))) else (laws_FnCuts.l0 k x1 x5 x6 x7 x8 y296 y294 false x64 x65 (wrap64 (x66 + 1)))))) else (none)) else (none)) else (none)) else (none)) else (none)) else (none)) else (if (x8 != x14) = true then (some false) else (if (x6.length : Int) = 0 then (some true) else ((impl_VectorsOf.f k x5 x6).bind fun bt299 => (if bt299.2 = true then ((laws_numberOf.f k x1).bind fun t303 => (if 0 ≤ (Int.tmod t303 (x6.length : Int)) then (if (Int.tmod t303 (x6.length : Int)) < (bt299.1.length : Int) then ((impl_CutIsWhole.f k x5 x6 (rd_L3 bt299.1 (Int.tmod t303 (x6.length : Int)))).bind fun bt305 => (if bt305.2 = true then (some bt305.1) else (some false))) else (none)) else (none))) else (some false)))))
end
def laws_FnCuts.f (k : Nat) (l0 : List Int) (l1 : List Int) : Option (Bool) := if (wrap64 ((l0.length : Int) + (l1.length : Int))) > 1048576 then (some true) else ((spec_DrawCutIsWhole.f k l0).bind fun bt273 => ((impl_CutIsWhole.f k bt273.1 bt273.2.1 bt273.2.2).bind fun bt280 => ((spec_CutIsWhole.f k bt273.1 bt273.2.1 bt273.2.2).bind fun bt282 => (if (bt280.2 != bt282.2) = true then (laws_FnCuts.j0 k l1 bt273.1 bt273.2.1 bt273.2.2 bt280.1 bt280.2 true) else (laws_FnCuts.j0 k l1 bt273.1 bt273.2.1 bt273.2.2 bt280.1 bt280.2 (bt280.1 != bt282.1))))))
theorem laws_FnCuts.mono_l : ∀ k, (∀ y0 y1 y2 y3 y4 y5 y6, LeO (laws_FnCuts.j0 k y0 y1 y2 y3 y4 y5 y6) (laws_FnCuts.j0 (k + 1) y0 y1 y2 y3 y4 y5 y6)) ∧ (∀ y0 y1 y2 y3 y4 y5 y6 y7 y8 y9 y10, LeO (laws_FnCuts.l0 k y0 y1 y2 y3 y4 y5 y6 y7 y8 y9 y10) (laws_FnCuts.l0 (k + 1) y0 y1 y2 y3 y4 y5 y6 y7 y8 y9 y10))
 | 0 => ⟨fun _ _ _ _ _ _ _ r h => by simp [laws_FnCuts.j0] at h, fun _ _ _ _ _ _ _ _ _ _ _ r h => by simp [laws_FnCuts.l0] at h⟩
 | k + 1 => by
  obtain ⟨ih0, ih1⟩ := laws_FnCuts.mono_l k
  refine ⟨?_, ?_⟩
  ·intro y0 y1 y2 y3 y4 y5 y6
   unfold laws_FnCuts.j0
   repeat' first
   | (with_reducible exact ih0 _ _ _ _ _ _ _)
   | (with_reducible exact ih1 _ _ _ _ _ _ _ _ _ _ _)
   | (with_reducible exact impl_CutIsWhole.mono _ _ _ _)
   | (with_reducible exact impl_VectorsOf.mono _ _ _)
   | (with_reducible exact laws_numberOf.mono _ _)
   | (with_reducible exact spec_CutIsWhole.mono _ _ _ _)
   | (with_reducible exact spec_DrawCutIsWhole.mono _ _)
   | (with_reducible exact LeO.refl _)
   | (with_reducible exact LeO.none _)
   | (with_reducible refine LeO.ite ?_ ?_)
   | (with_reducible refine LeO.bind ?_ (fun _ => ?_))
   | exact ih0 _ _ _ _ _ _ _
   | exact ih1 _ _ _ _ _ _ _ _ _ _ _
   | exact impl_CutIsWhole.mono _ _ _ _
   | exact impl_VectorsOf.mono _ _ _
   | exact laws_numberOf.mono _ _
   | exact spec_CutIsWhole.mono _ _ _ _
   | exact spec_DrawCutIsWhole.mono _ _
   | exact LeO.none _
   | refine LeO.ite ?_ ?_
   | refine LeO.bind ?_ (fun _ => ?_)
  ·intro y0 y1 y2 y3 y4 y5 y6 y7 y8 y9 y10
   unfold laws_FnCuts.l0
   repeat' first
   | (with_reducible exact ih0 _ _ _ _ _ _ _)
   | (with_reducible exact ih1 _ _ _ _ _ _ _ _ _ _ _)
   | (with_reducible exact impl_CutIsWhole.mono _ _ _ _)
   | (with_reducible exact impl_VectorsOf.mono _ _ _)
   | (with_reducible exact laws_numberOf.mono _ _)
   | (with_reducible exact spec_CutIsWhole.mono _ _ _ _)
   | (with_reducible exact spec_DrawCutIsWhole.mono _ _)
   | (with_reducible exact LeO.refl _)
   | (with_reducible exact LeO.none _)
   | (with_reducible refine LeO.ite ?_ ?_)
   | (with_reducible refine LeO.bind ?_ (fun _ => ?_))
   | exact ih0 _ _ _ _ _ _ _
   | exact ih1 _ _ _ _ _ _ _ _ _ _ _
   | exact impl_CutIsWhole.mono _ _ _ _
   | exact impl_VectorsOf.mono _ _ _
   | exact laws_numberOf.mono _ _
   | exact spec_CutIsWhole.mono _ _ _ _
   | exact spec_DrawCutIsWhole.mono _ _
   | exact LeO.none _
   | refine LeO.ite ?_ ?_
   | refine LeO.bind ?_ (fun _ => ?_)
theorem laws_FnCuts.mono : ∀ a0 a1 k, LeO (laws_FnCuts.f k a0 a1) (laws_FnCuts.f (k + 1) a0 a1) := by
 intro a0 a1 k
 obtain ⟨ih0, ih1⟩ := laws_FnCuts.mono_l k
 unfold laws_FnCuts.f
 repeat' first
   | (with_reducible exact ih0 _ _ _ _ _ _ _)
   | (with_reducible exact ih1 _ _ _ _ _ _ _ _ _ _ _)
   | (with_reducible exact impl_CutIsWhole.mono _ _ _ _)
   | (with_reducible exact impl_VectorsOf.mono _ _ _)
   | (with_reducible exact laws_numberOf.mono _ _)
   | (with_reducible exact spec_CutIsWhole.mono _ _ _ _)
   | (with_reducible exact spec_DrawCutIsWhole.mono _ _)
   | (with_reducible exact LeO.refl _)
   | (with_reducible exact LeO.none _)
   | (with_reducible refine LeO.ite ?_ ?_)
   | (with_reducible refine LeO.bind ?_ (fun _ => ?_))
   | exact ih0 _ _ _ _ _ _ _
   | exact ih1 _ _ _ _ _ _ _ _ _ _ _
   | exact impl_CutIsWhole.mono _ _ _ _
   | exact impl_VectorsOf.mono _ _ _
   | exact laws_numberOf.mono _ _
   | exact spec_CutIsWhole.mono _ _ _ _
   | exact spec_DrawCutIsWhole.mono _ _
   | exact LeO.none _
   | refine LeO.ite ?_ ?_
   | refine LeO.bind ?_ (fun _ => ?_)
def laws_FnCuts.T16 : Bool × List (List Nat × List Nat) := (true, [([], []), ([], []), ([], []), ([], []), ([3], [3]), ([2, 4], [2, 4]), ([5], [5]), ([], []), ([], []), ([8], [8]), ([7, 9], [7, 9]), ([10], [10]), ([6, 11], [6, 11]), ([0, 1, 0, 1, 2, 3, 4, 5, 6, 7, 8, 9, 10, 11, 12], [0, 1]), ([13, 12, 0, 1, 2, 3, 4, 5, 6, 7, 8, 9, 10, 11, 12], [12, 13])])
def laws_FnCuts.B16 : List Nat := [0, 0, 0, 0, 8, 28, 60, 0, 0, 256, 896, 1920, 4092, 8191, 16383]
theorem laws_FnCuts.tab16 : rtab .any (opsOf Try.f11 16) = laws_FnCuts.T16 := by kernel_rfl
theorem laws_FnCuts.bits16 : waitsOk laws_FnCuts.T16.2 laws_FnCuts.B16 = true := by kernel_rfl
set_option maxHeartbeats 8000000 in
set_option maxRecDepth 100000 in
theorem laws_FnCuts.calls (k : Nat) (A0 : Option Addr) (c0 : Nat) (l0 : List Int) (A1 : Option Addr) (c1 : Nat) (l1 : List Int) (r : Bool) (w : World) (hr0 : Kd.C (Kd.int .u8) w A0 l0.length l0) (hc0 : l0.length ≤ c0) (hr1 : Kd.C (Kd.int .u8) w A1 l1.length l1) (hc1 : l1.length ≤ c1) (h : laws_FnCuts.f k l0 l1 = some r) :
  Calls Try.prog 11 #[.slice A0 l0.length c0, .slice A1 l1.length c1] w fun e w' => e = .returned (.bool r) ∧ Below w.heap.size w w' := by
 have hu57 := Try.underlying57
 have HR0 := Aside0.mk hr0
 have HC0 := Aside0.mk hc0
 clear hr0 hc0
 have HR1 := Aside0.mk hr1
 have HC1 := Aside0.mk hc1
 clear hr1 hc1
 have HB := Aside0.mk (Below.refl w.heap.size w)
 have H : (if (wrap64 ((l0.length : Int) + (l1.length : Int))) > 1048576 then (some true) else ((spec_DrawCutIsWhole.f k l0).bind fun bt273 => ((impl_CutIsWhole.f k bt273.1 bt273.2.1 bt273.2.2).bind fun bt280 => ((spec_CutIsWhole.f k bt273.1 bt273.2.1 bt273.2.2).bind fun bt282 => (if (bt280.2 != bt282.2) = true then (laws_FnCuts.j0 k l1 bt273.1 bt273.2.1 bt273.2.2 bt280.1 bt280.2 true) else (laws_FnCuts.j0 k l1 bt273.1 bt273.2.1 bt273.2.2 bt280.1 bt280.2 (bt280.1 != bt282.1))))))) = some r := h
 clear h
 by_cases c3 : (wrap64 ((l0.length : Int) + (l1.length : Int))) > 1048576
 ·rw [if_pos c3] at H
  have c3b0 : decide (1048576 < (wrap64 ((l0.length : Int) + (l1.length : Int)))) = true := decide_eq_true c3
  clear c3
  obtain rfl := Option.some.inj H
  go_enter Try.func11, Try.ntmps11
  go_wp2
  go_ret
  exact ⟨by first | rfl | (simp [errW_none, errW_some] <;> rfl) | (simp [*, errW_none, errW_some] <;> rfl), by repeat (first | (with_reducible first | exact HB.out | apply below_alloc | apply pw_below_drewN | apply below_drew1) | exact HB.out)⟩
 ·rw [if_neg c3] at H
  have c3b0 : decide (1048576 < (wrap64 ((l0.length : Int) + (l1.length : Int)))) = false := decide_eq_false c3
  clear c3
  replace H := Option.bind_eq_some_iff.mp H
  obtain ⟨⟨t273, t274, t275⟩, A40, H⟩ := H
  replace H : ((impl_CutIsWhole.f k t273 t274 t275).bind fun bt280 => ((spec_CutIsWhole.f k t273 t274 t275).bind fun bt282 => (if (bt280.2 != bt282.2) = true then (laws_FnCuts.j0 k l1 t273 t274 t275 bt280.1 bt280.2 true) else (laws_FnCuts.j0 k l1 t273 t274 t275 bt280.1 bt280.2 (bt280.1 != bt282.1))))) = some r := H
  have A4 := Aside0.mk A40
  clear A40
  replace H := Option.bind_eq_some_iff.mp H
  obtain ⟨⟨t280, t281⟩, A50, H⟩ := H
  replace H : ((spec_CutIsWhole.f k t273 t274 t275).bind fun bt282 => (if (t281 != bt282.2) = true then (laws_FnCuts.j0 k l1 t273 t274 t275 t280 t281 true) else (laws_FnCuts.j0 k l1 t273 t274 t275 t280 t281 (t280 != bt282.1)))) = some r := H
  have A5 := Aside0.mk A50
  clear A50
  replace H := Option.bind_eq_some_iff.mp H
  obtain ⟨⟨t282, t283⟩, A60, H⟩ := H
  replace H : (if (t281 != t283) = true then (laws_FnCuts.j0 k l1 t273 t274 t275 t280 t281 true) else (laws_FnCuts.j0 k l1 t273 t274 t275 t280 t281 (t280 != t282))) = some r := H
  have A6 := Aside0.mk A60
  clear A60
  have HC7 := Aside0.mk H
  clear H
  go_enter Try.func11, Try.ntmps11
  go_upto_region 6 with (first | ((with_reducible refine gate_callee (f := 40) rfl ?_); refine goesL_ (some 29) rfl rfl Try.func40 (by kernel_rfl) rfl #[.slice A0 l0.length c0] rfl (by (try simp only [List.map_toArray, List.map_cons, List.map_nil]); first | done | rfl | (simp only [List.length_drop, List.length_take]; rfl)) ?_; (with_reducible refine (spec_DrawCutIsWhole.calls k _ _ l0 t273 t274 t275 _ ?side1 ?side2 A4.out).mono ?_); (case side1 => repeat (first | exact HR0.out | (with_reducible refine Kd.C_alloc ?_ _) | (with_reducible refine Kd.C_drewN ?_ _) | (with_reducible refine Kd.C_drew ?_))); (case side2 => exact HC0.out); rintro e w8 ⟨v276, v278, rfl, ho0, ho1, hb⟩; refine ⟨_, rfl, ?_⟩; have n0_ := Aside0.mk (Kd.R_lower ho0 (below_size (by repeat (first | (with_reducible first | exact HB.out | apply below_alloc | apply pw_below_drewN | apply below_drew1) | exact HB.out)))); have n1_ := Aside0.mk (Kd.R_lower ho1 (below_size (by repeat (first | (with_reducible first | exact HB.out | apply below_alloc | apply pw_below_drewN | apply below_drew1) | exact HB.out)))); have n2_ := Aside0.mk (below_step (by repeat (first | (with_reducible first | exact HB.out | apply below_alloc | apply pw_below_drewN | apply below_drew1) | exact HB.out)) hb); clear HB; have HO277 := n0_; have HO279 := n1_; have HB := n2_; clear n0_ n1_ n2_; (try clear hb); (try clear hb2); (try clear hk); (try clear hi); (try clear ho0); (try clear ho1); obtain ⟨Ao9, co9, eo9⟩ := Kd.R_slice HO277.out; subst eo9; obtain ⟨Ao10, co10, eo10⟩ := Kd.R_slice HO279.out; subst eo10) | ((with_reducible refine gate_callee (f := 37) rfl ?_); refine goesL_ (some 37) rfl rfl Try.func37 (by kernel_rfl) rfl #[.int .i64 t273, .slice Ao9 t274.length co9, .slice Ao10 t275.length co10] rfl (by (try simp only [List.map_toArray, List.map_cons, List.map_nil]); first | done | rfl | (simp only [List.length_drop, List.length_take]; rfl)) ?_; (with_reducible refine (impl_CutIsWhole.calls k t273 _ _ t274 _ _ t275 t280 t281 _ ?side1 ?side2 ?side3 ?side4 A5.out).mono ?_); (case side1 => repeat (first | exact (Kd.R_reads' HO277.out).2.2 | (with_reducible refine Kd.C_alloc ?_ _) | (with_reducible refine Kd.C_drewN ?_ _) | (with_reducible refine Kd.C_drew ?_))); (case side2 => exact (Kd.R_reads' HO277.out).2.1); (case side3 => repeat (first | exact (Kd.R_reads' HO279.out).2.2 | (with_reducible refine Kd.C_alloc ?_ _) | (with_reducible refine Kd.C_drewN ?_ _) | (with_reducible refine Kd.C_drew ?_))); (case side4 => exact (Kd.R_reads' HO279.out).2.1); rintro e w11 ⟨rfl, hb⟩; refine ⟨_, rfl, ?_⟩; have n0_ := Aside0.mk (Kd.R_below (by (with_reducible repeat (first | apply Kd.R_alloc | apply Kd.R_drewN | apply Kd.R_drew)); exact HO277.out) hb); have n1_ := Aside0.mk (Kd.R_below (by (with_reducible repeat (first | apply Kd.R_alloc | apply Kd.R_drewN | apply Kd.R_drew)); exact HO279.out) hb); have n2_ := Aside0.mk (below_step (by repeat (first | (with_reducible first | exact HB.out | apply below_alloc | apply pw_below_drewN | apply below_drew1) | exact HB.out)) hb); clear HO277; clear HO279; clear HB; have HO277 := n0_; have HO279 := n1_; have HB := n2_; clear n0_ n1_ n2_; (try clear hb); (try clear hb2); (try clear hk); (try clear hi)) | ((with_reducible refine gate_callee (f := 36) rfl ?_); refine goesL_ (some 44) rfl rfl Try.func36 (by kernel_rfl) rfl #[.int .i64 t273, .slice Ao9 t274.length co9, .slice Ao10 t275.length co10] rfl (by (try simp only [List.map_toArray, List.map_cons, List.map_nil]); first | done | rfl | (simp only [List.length_drop, List.length_take]; rfl)) ?_; (with_reducible refine (spec_CutIsWhole.calls k t273 _ _ t274 _ _ t275 t282 t283 _ ?side1 ?side2 ?side3 ?side4 A6.out).mono ?_); (case side1 => repeat (first | exact (Kd.R_reads' HO277.out).2.2 | (with_reducible refine Kd.C_alloc ?_ _) | (with_reducible refine Kd.C_drewN ?_ _) | (with_reducible refine Kd.C_drew ?_))); (case side2 => exact (Kd.R_reads' HO277.out).2.1); (case side3 => repeat (first | exact (Kd.R_reads' HO279.out).2.2 | (with_reducible refine Kd.C_alloc ?_ _) | (with_reducible refine Kd.C_drewN ?_ _) | (with_reducible refine Kd.C_drew ?_))); (case side4 => exact (Kd.R_reads' HO279.out).2.1); rintro e w12 ⟨rfl, hb⟩; refine ⟨_, rfl, ?_⟩; have n0_ := Aside0.mk (Kd.R_below (by (with_reducible repeat (first | apply Kd.R_alloc | apply Kd.R_drewN | apply Kd.R_drew)); exact HO277.out) hb); have n1_ := Aside0.mk (Kd.R_below (by (with_reducible repeat (first | apply Kd.R_alloc | apply Kd.R_drewN | apply Kd.R_drew)); exact HO279.out) hb); have n2_ := Aside0.mk (below_step (by repeat (first | (with_reducible first | exact HB.out | apply below_alloc | apply pw_below_drewN | apply below_drew1) | exact HB.out)) hb); clear HO277; clear HO279; clear HB; have HO277 := n0_; have HO279 := n1_; have HB := n2_; clear n0_ n1_ n2_; (try clear hb); (try clear hb2); (try clear hk); (try clear hi)))
  (try simp only [Act.put, List.setIfInBounds_toArray, List.set_cons_zero, List.set_cons_succ])
  go_cut [54] (fun v54 wc => ∃ (kq : Nat) (x54_6 : Bool), v54 = .bool x54_6 ∧ Aside0 (laws_FnCuts.j0 kq l1 t273 t274 t275 t280 t281 x54_6 = some r) ∧ Aside0 (kq ≤ k) ∧ Aside0 (Kd.R k57 57 wc w.heap.size (fun _ => True) (.slice Ao9 t274.length co9) t274) ∧ Aside0 (Kd.R (Kd.int .i64) 3 wc w.heap.size (fun _ => True) (.slice Ao10 t275.length co10) t275) ∧ Aside0 (Below w.heap.size w wc))
  case first =>
   have H := HC7.out
   clear HC7
   by_cases c13 : (t281 != t283) = true
   ·rw [if_pos c13] at H
    have c13b0 : (t281 != t283) = true := c13
    (try (have c13b1 : decide (t281 = t283) = false := by simpa using c13))
    (try (have c13b2 : (t281 == t283) = false := by simpa using c13))
    (try (have c13b3 : ¬ (t281 = t283) := by simpa using c13))
    clear c13
    (first | rw [c13b0] | (simp only [i64_w, i32_w]; rw [c13b0]) | skip)
    have H' := Aside0.mk H
    clear H
    go_wp2
    go_meet
    case rel => exact ⟨_, (true), (by first | rfl | (simp; done) | (simp [*]; done)), H', ⟨by first | omega | exact Nat.le_refl _⟩, ⟨by (with_reducible repeat (first | apply Kd.R_alloc | apply Kd.R_drewN | apply Kd.R_drew)); exact HO277.out⟩, ⟨by (with_reducible repeat (first | apply Kd.R_alloc | apply Kd.R_drewN | apply Kd.R_drew)); exact HO279.out⟩, ⟨by repeat (first | (with_reducible first | exact HB.out | apply below_alloc | apply pw_below_drewN | apply below_drew1) | exact HB.out)⟩⟩
   ·rw [if_neg c13] at H
    have c13b0 : (t281 != t283) = false := by simpa using c13
    (try (have c13b1 : decide (t281 = t283) = true := by simpa using c13))
    (try (have c13b2 : (t281 == t283) = true := by simpa using c13))
    clear c13
    (first | rw [c13b0] | (simp only [i64_w, i32_w]; rw [c13b0]) | skip)
    have H' := Aside0.mk H
    clear H
    go_wp2
    go_meet
    case rel => exact ⟨_, ((t280 != t282)), (by first | rfl | (simp; done) | (simp [*]; done)), H', ⟨by first | omega | exact Nat.le_refl _⟩, ⟨by (with_reducible repeat (first | apply Kd.R_alloc | apply Kd.R_drewN | apply Kd.R_drew)); exact HO277.out⟩, ⟨by (with_reducible repeat (first | apply Kd.R_alloc | apply Kd.R_drewN | apply Kd.R_drew)); exact HO279.out⟩, ⟨by repeat (first | (with_reducible first | exact HB.out | apply below_alloc | apply pw_below_drewN | apply below_drew1) | exact HB.out)⟩⟩
  case rest =>
   clear HC7
   try clear c1
   try clear p2
   try clear c3
   try clear c3b0
   try clear c4
   try clear p6
   try clear c11
   try clear c13
   try clear c13b0
   try clear c13b1
   try clear c13b2
   obtain ⟨kq, x54_6, rfl, HA, HJ6, HO_6, HO_7, HB⟩ := hcut
   cases kq with
   | zero => exact absurd HA.out (by simp [laws_FnCuts.j0])
   | succ kj6 =>
    have H := HA.out
    clear HA
    simp only [laws_FnCuts.j0] at H
    by_cases c14 : x54_6 = true
    ·subst c14
     have H1 : (some false) = some r := by rw [if_pos rfl] at H; exact H
     clear H
     have H := H1
     clear H1
     obtain rfl := Option.some.inj H
     go_wp2
     go_ret
     exact ⟨by first | rfl | (simp [errW_none, errW_some] <;> rfl) | (simp [*, errW_none, errW_some] <;> rfl), by repeat (first | (with_reducible first | exact HB.out | apply below_alloc | apply pw_below_drewN | apply below_drew1) | exact HB.out)⟩
    ·replace c14 := Bool.eq_false_iff.mpr c14
     subst c14
     have H1 : (if t281 = true then (if 0 ≤ t273 then (if (t273 : Int).toNat ≤ 35184372088832 then (if 0 ≤ (t274.length : Int) then (if ((t274.length : Int) : Int).toNat ≤ 281474976710656 then (laws_FnCuts.l0 kj6 l1 t273 t274 t275 t280 (List.replicate (t273 : Int).toNat 0) (List.replicate ((t274.length : Int) : Int).toNat false) true t274 (t274.length : Int) 0) else (none)) else (none)) else (none)) else (none)) else (some (!t280))) = some r := by rw [if_neg (show ¬ (false = true) by decide)] at H; exact H
     clear H
     have H := H1
     clear H1
     by_cases c15 : t281 = true
     ·subst c15
      have H1 : (if 0 ≤ t273 then (if (t273 : Int).toNat ≤ 35184372088832 then (if 0 ≤ (t274.length : Int) then (if ((t274.length : Int) : Int).toNat ≤ 281474976710656 then (laws_FnCuts.l0 kj6 l1 t273 t274 t275 t280 (List.replicate (t273 : Int).toNat 0) (List.replicate ((t274.length : Int) : Int).toNat false) true t274 (t274.length : Int) 0) else (none)) else (none)) else (none)) else (none)) = some r := by rw [if_pos rfl] at H; exact H
      clear H
      have H := H1
      clear H1
      by_cases c16 : 0 ≤ t273
      ·rw [if_pos c16] at H
       have c16b0 := eq_true c16
       have c16b1 : decide (0 ≤ t273) = true := decide_eq_true c16
       clear c16
       by_cases c17 : (t273 : Int).toNat ≤ 35184372088832
       ·rw [if_pos c17] at H
        have c17b0 := eq_true c17
        have c17b1 : decide ((t273 : Int).toNat ≤ 35184372088832) = true := decide_eq_true c17
        clear c17
        obtain ⟨y284, hy284⟩ : ∃ y_ : List Int, y_ = (List.replicate (t273 : Int).toNat 0) := ⟨_, rfl⟩
        replace H : (if 0 ≤ (t274.length : Int) then (if ((t274.length : Int) : Int).toNat ≤ 281474976710656 then (laws_FnCuts.l0 kj6 l1 t273 t274 t275 t280 y284 (List.replicate ((t274.length : Int) : Int).toNat false) true t274 (t274.length : Int) 0) else (none)) else (none)) = some r := by first | (rw [hy284]; with_reducible exact H) | (have H2_ := (Option.bind_some _ _).symm.trans H; rw [hy284]; with_reducible exact H2_) | (have H2_ := (Option.bind_some _ _).symm.trans H; with_reducible exact H2_) | with_reducible exact H | (rw [hy284]; exact H) | exact H
        have Ny284 := Aside0.mk hy284
        clear hy284
        by_cases c18 : 0 ≤ (t274.length : Int)
        ·rw [if_pos c18] at H
         have c18b0 := eq_true c18
         have c18b1 : decide (0 ≤ (t274.length : Int)) = true := decide_eq_true c18
         clear c18
         by_cases c19 : ((t274.length : Int) : Int).toNat ≤ 281474976710656
         ·rw [if_pos c19] at H
          have c19b0 := eq_true c19
          have c19b1 : decide (((t274.length : Int) : Int).toNat ≤ 281474976710656) = true := decide_eq_true c19
          clear c19
          obtain ⟨y287, hy287⟩ : ∃ y_ : List Bool, y_ = (List.replicate ((t274.length : Int) : Int).toNat false) := ⟨_, rfl⟩
          replace H : (laws_FnCuts.l0 kj6 l1 t273 t274 t275 t280 y284 y287 true t274 (t274.length : Int) 0) = some r := by first | (rw [hy287]; with_reducible exact H) | (have H2_ := (Option.bind_some _ _).symm.trans H; rw [hy287]; with_reducible exact H2_) | (have H2_ := (Option.bind_some _ _).symm.trans H; with_reducible exact H2_) | with_reducible exact H | (rw [hy287]; exact H) | exact H
          have Ny287 := Aside0.mk hy287
          clear hy287
          have H' := Aside0.mk H
          clear H
          go_wp2_with (first | ((with_reducible refine gate_dst (N := 60) rfl ?_); refine Kd.R_make (Kd.int .i64) _ 3 rfl (N := 60) rfl 29 _ _ rfl t273 rfl rfl Try.underlying29 (.int .i64 0) 8 info3 rfl (by decide) (by omega) 0 (ok := fun _ => True) (okp := fun _ => True) rfl (fun _ hk => hk) trivial (of_decide_eq_true (by first | (with_reducible assumption) | assumption)) (Nat.le_trans (Nat.mul_le_mul_right _ (of_decide_eq_true (by first | (with_reducible assumption) | assumption) : t273.toNat ≤ 35184372088832)) (by omega)) (Below.refl _ _) (Nat.le_refl _) ?_; intro v285 w20 ho21 hb hg_ hnew_; clear hg_ hnew_; (first | rw [← Ny284.out] at ho21 | (simp only [Int.reduceToNat] at ho21; rw [← Ny284.out] at ho21)); have n0_ := Aside0.mk (Kd.R_below (by (with_reducible repeat (first | apply Kd.R_alloc | apply Kd.R_drewN | apply Kd.R_drew)); exact HO_6.out) hb); have n1_ := Aside0.mk (Kd.R_elder' (by (with_reducible repeat (first | apply Kd.R_alloc | apply Kd.R_drewN | apply Kd.R_drew)); exact HO_7.out) (Kd.R_base ho21) hb); have n2_ := Aside0.mk (Kd.R_lower (Kd.R_new' ho21 (Kd.R_lt (by (with_reducible repeat (first | apply Kd.R_alloc | apply Kd.R_drewN | apply Kd.R_drew)); exact HO_7.out))) (below_size (by repeat (first | (with_reducible first | exact HB.out | apply below_alloc | apply pw_below_drewN | apply below_drew1) | exact HB.out)))); have n3_ := Aside0.mk (below_step (by repeat (first | (with_reducible first | exact HB.out | apply below_alloc | apply pw_below_drewN | apply below_drew1) | exact HB.out)) hb); clear HO_6; clear HO_7; clear HB; have HO_6 := n0_; have HO_7 := n1_; have HO286 := n2_; have HB := n3_; clear n0_ n1_ n2_ n3_; clear hb ho21) | ((with_reducible refine gate_dst (N := 63) rfl ?_); refine Kd.R_make Kd.bool _ 4 rfl (N := 63) rfl 55 _ _ rfl (t274.length : Int) rfl rfl Try.underlying55 (.bool false) 1 info4 rfl (by decide) (by omega) false (ok := fun _ => True) (okp := fun _ => True) rfl (fun _ hk => hk) trivial (of_decide_eq_true (by first | (with_reducible assumption) | assumption)) (Nat.le_trans (Nat.mul_le_mul_right _ (of_decide_eq_true (by first | (with_reducible assumption) | assumption) : (t274.length : Int).toNat ≤ 281474976710656)) (by omega)) (Below.refl _ _) (Nat.le_refl _) ?_; intro v288 w22 ho23 hb hg_ hnew_; clear hg_ hnew_; (first | rw [← Ny287.out] at ho23 | (simp only [Int.reduceToNat] at ho23; rw [← Ny287.out] at ho23)); have n0_ := Aside0.mk (Kd.R_below (by (with_reducible repeat (first | apply Kd.R_alloc | apply Kd.R_drewN | apply Kd.R_drew)); exact HO_6.out) hb); have n1_ := Aside0.mk (Kd.R_below (by (with_reducible repeat (first | apply Kd.R_alloc | apply Kd.R_drewN | apply Kd.R_drew)); exact HO_7.out) hb); have n2_ := Aside0.mk (Kd.R_below (by (with_reducible repeat (first | apply Kd.R_alloc | apply Kd.R_drewN | apply Kd.R_drew)); exact HO286.out) hb); have n3_ := Aside0.mk (Kd.R_lower ho23 (below_size (by repeat (first | (with_reducible first | exact HB.out | apply below_alloc | apply pw_below_drewN | apply below_drew1) | exact HB.out)))); have n4_ := Aside0.mk (below_step (by repeat (first | (with_reducible first | exact HB.out | apply below_alloc | apply pw_below_drewN | apply below_drew1) | exact HB.out)) hb); clear HO_6; clear HO_7; clear HO286; clear HB; have HO_6 := n0_; have HO_7 := n1_; have HO286 := n2_; have HO289 := n3_; have HB := n4_; clear n0_ n1_ n2_ n3_ n4_; clear hb ho23))
          go_loopg [14, 66] kj6 (fun kq v14 v66 w' => ∃ (x12_2 : List Int) (x13_2 : List Bool) (x14_2 : Bool) (x66_2 : Int), v14 = .bool x14_2 ∧ v66 = .int .i64 x66_2 ∧ Aside0 (laws_FnCuts.l0 kq l1 t273 t274 t275 t280 x12_2 x13_2 x14_2 t274 (t274.length : Int) x66_2 = some r) ∧ Aside0 (kq ≤ kj6) ∧ Aside0 (Kd.R k57 57 w' w.heap.size (fun _ => True) (.slice Ao9 t274.length co9) t274) ∧ Aside0 (Kd.R (Kd.int .i64) 3 w' w.heap.size (fun k_ => some k_ ≠ (v285 : Value).ownBlock) (.slice Ao10 t275.length co10) t275) ∧ Aside0 (Kd.R (Kd.int .i64) 3 w' w.heap.size (fun k_ => some k_ ≠ ((.slice Ao10 t275.length co10) : Value).ownBlock) v285 x12_2) ∧ Aside0 (Kd.R Kd.bool 4 w' w.heap.size (fun _ => True) v288 x13_2) ∧ Aside0 (Kd.R k57 57 w' w.heap.size (fun _ => True) (.slice Ao9 t274.length co9) t274) ∧ Aside0 (Below w.heap.size w w'))
          case atStart => exact ⟨(y284), (y287), (true), (0), (by first | rfl | (simp; done) | (simp [*]; done)), (by first | rfl | (simp; done) | (simp [*]; done)), H', ⟨Nat.le_refl _⟩, ⟨by (with_reducible repeat (first | apply Kd.R_alloc | apply Kd.R_drewN | apply Kd.R_drew)); exact HO_6.out⟩, ⟨by (with_reducible repeat (first | apply Kd.R_alloc | apply Kd.R_drewN | apply Kd.R_drew)); exact Kd.R_mono HO_7.out (fun _ hk => hk.2)⟩, ⟨by (with_reducible repeat (first | apply Kd.R_alloc | apply Kd.R_drewN | apply Kd.R_drew)); exact Kd.R_mono HO286.out (fun _ hk => hk.2)⟩, ⟨by (with_reducible repeat (first | apply Kd.R_alloc | apply Kd.R_drewN | apply Kd.R_drew)); exact HO289.out⟩, ⟨by (with_reducible repeat (first | apply Kd.R_alloc | apply Kd.R_drewN | apply Kd.R_drew)); exact HO_6.out⟩, ⟨by repeat (first | (with_reducible first | exact HB.out | apply below_alloc | apply pw_below_drewN | apply below_drew1) | exact HB.out)⟩⟩
          case round =>
           clear H'
           try clear c1
           try clear p2
           try clear c3
           try clear c3b0
           try clear c4
           try clear p6
           try clear c11
           try clear c13
           try clear c13b0
           try clear c13b1
           try clear c13b2
           try clear c14
           try clear c15
           try clear c16
           try clear c16b0
           try clear c16b1
           try clear c17
           try clear c17b0
           try clear c17b1
           try clear c18
           try clear c18b0
           try clear c18b1
           try clear c19
           try clear c19b0
           try clear c19b1
           try clear p2
           try clear p6
           obtain ⟨x12_2, x13_2, x14_2, x66_2, rfl, rfl, HA, HK2, HO_6, HO_7, HO_12, HO_13, HO_64, HB⟩ := hrel
           cases gk with
           | zero => exact absurd HA.out (by simp [laws_FnCuts.l0])
           | succ k2 =>
            have H := HA.out
            clear HA
            simp only [laws_FnCuts.l0] at H
            by_cases c24 : x66_2 < (t274.length : Int)
            ·rw [if_pos c24] at H
             have c24b0 : decide (x66_2 < (t274.length : Int)) = true := decide_eq_true c24
             clear c24
             by_cases c25 : 0 ≤ x66_2
             ·rw [if_pos c25] at H
              have c25b0 : decide (0 ≤ x66_2) = true := decide_eq_true c25
              clear c25
              by_cases c26 : x66_2 < (t274.length : Int)
              ·rw [if_pos c26] at H
               have c26b0 : decide (x66_2 < (t274.length : Int)) = true := decide_eq_true c26
               clear c26
               by_cases c27 : 0 ≤ ((rd_T57 t274 x66_2).f0)
               ·rw [if_pos c27] at H
                have c27b0 : decide (0 ≤ ((rd_T57 t274 x66_2).f0)) = true := decide_eq_true c27
                clear c27
                by_cases c28 : ((rd_T57 t274 x66_2).f0) < (x12_2.length : Int)
                ·rw [if_pos c28] at H
                 have c28b0 : decide (((rd_T57 t274 x66_2).f0) < (x12_2.length : Int)) = true := decide_eq_true c28
                 clear c28
                 by_cases c29 : ((rd_T57 t274 x66_2).f0) < (t275.length : Int)
                 ·rw [if_pos c29] at H
                  have c29b0 : decide (((rd_T57 t274 x66_2).f0) < (t275.length : Int)) = true := decide_eq_true c29
                  clear c29
                  by_cases c30 : x66_2 < (x13_2.length : Int)
                  ·rw [if_pos c30] at H
                   have c30b0 : decide (x66_2 < (x13_2.length : Int)) = true := decide_eq_true c30
                   clear c30
                   obtain ⟨y294, hy294⟩ : ∃ y_ : List Bool, y_ = (x13_2.set (x66_2 : Int).toNat (decide ((rd x12_2 ((rd_T57 t274 x66_2).f0)) < (rd t275 ((rd_T57 t274 x66_2).f0))))) := ⟨_, rfl⟩
                   replace H : ((some (x12_2.set (((rd_T57 t274 x66_2).f0) : Int).toNat (wrap64 ((rd x12_2 ((rd_T57 t274 x66_2).f0)) + 1)) : List Int)).bind fun y296 => (if x14_2 = true then (if rdOf false y294 x66_2 = true then (if ((rd_T57 t274 x66_2).f1) < 0 then (laws_FnCuts.l0 k2 l1 t273 t274 t275 t280 y296 y294 true t274 (t274.length : Int) (wrap64 (x66_2 + 1))) else (if 0 ≤ ((rd_T57 t274 x66_2).f1) then (if ((rd_T57 t274 x66_2).f1) < (x13_2.length : Int) then (laws_FnCuts.l0 k2 l1 t273 t274 t275 t280 y296 y294 (rdOf false y294 ((rd_T57 t274 x66_2).f1)) t274 (t274.length : Int) (wrap64 (x66_2 + 1))) else (none)) else (none))) else (laws_FnCuts.l0 k2 l1 t273 t274 t275 t280 y296 y294 true t274 (t274.length : Int) (wrap64 (x66_2 + 1)))) else (laws_FnCuts.l0 k2 l1 t273 t274 t275 t280 y296 y294 false t274 (t274.length : Int) (wrap64 (x66_2 + 1))))) = some r := by first | (rw [hy294]; with_reducible exact H) | (have H2_ := (Option.bind_some _ _).symm.trans H; rw [hy294]; with_reducible exact H2_) | (have H2_ := (Option.bind_some _ _).symm.trans H; with_reducible exact H2_) | with_reducible exact H | (rw [hy294]; exact H) | exact H
                   have Ny294 := Aside0.mk hy294
                   clear hy294
                   obtain ⟨y296, hy296⟩ : ∃ y_ : List Int, y_ = (x12_2.set (((rd_T57 t274 x66_2).f0) : Int).toNat (wrap64 ((rd x12_2 ((rd_T57 t274 x66_2).f0)) + 1))) := ⟨_, rfl⟩
                   replace H : (if x14_2 = true then (if rdOf false y294 x66_2 = true then (if ((rd_T57 t274 x66_2).f1) < 0 then (laws_FnCuts.l0 k2 l1 t273 t274 t275 t280 y296 y294 true t274 (t274.length : Int) (wrap64 (x66_2 + 1))) else (if 0 ≤ ((rd_T57 t274 x66_2).f1) then (if ((rd_T57 t274 x66_2).f1) < (x13_2.length : Int) then (laws_FnCuts.l0 k2 l1 t273 t274 t275 t280 y296 y294 (rdOf false y294 ((rd_T57 t274 x66_2).f1)) t274 (t274.length : Int) (wrap64 (x66_2 + 1))) else (none)) else (none))) else (laws_FnCuts.l0 k2 l1 t273 t274 t275 t280 y296 y294 true t274 (t274.length : Int) (wrap64 (x66_2 + 1)))) else (laws_FnCuts.l0 k2 l1 t273 t274 t275 t280 y296 y294 false t274 (t274.length : Int) (wrap64 (x66_2 + 1)))) = some r := by first | (rw [hy296]; with_reducible exact H) | (have H2_ := (Option.bind_some _ _).symm.trans H; rw [hy296]; with_reducible exact H2_) | (have H2_ := (Option.bind_some _ _).symm.trans H; with_reducible exact H2_) | with_reducible exact H | (rw [hy296]; exact H) | exact H
                   have Ny296 := Aside0.mk hy296
                   clear hy296
                   by_cases c33 : x14_2 = true
                   ·subst c33
                    have H1 : (if rdOf false y294 x66_2 = true then (if ((rd_T57 t274 x66_2).f1) < 0 then (laws_FnCuts.l0 k2 l1 t273 t274 t275 t280 y296 y294 true t274 (t274.length : Int) (wrap64 (x66_2 + 1))) else (if 0 ≤ ((rd_T57 t274 x66_2).f1) then (if ((rd_T57 t274 x66_2).f1) < (x13_2.length : Int) then (laws_FnCuts.l0 k2 l1 t273 t274 t275 t280 y296 y294 (rdOf false y294 ((rd_T57 t274 x66_2).f1)) t274 (t274.length : Int) (wrap64 (x66_2 + 1))) else (none)) else (none))) else (laws_FnCuts.l0 k2 l1 t273 t274 t275 t280 y296 y294 true t274 (t274.length : Int) (wrap64 (x66_2 + 1)))) = some r := by rw [if_pos rfl] at H; exact H
                    clear H
                    have H := H1
                    clear H1
                    obtain ⟨bq34, hbq34⟩ : ∃ b_ : Bool, b_ = (rdOf false y294 x66_2) := ⟨_, rfl⟩
                    replace H : (if bq34 = true then (if ((rd_T57 t274 x66_2).f1) < 0 then (laws_FnCuts.l0 k2 l1 t273 t274 t275 t280 y296 y294 true t274 (t274.length : Int) (wrap64 (x66_2 + 1))) else (if 0 ≤ ((rd_T57 t274 x66_2).f1) then (if ((rd_T57 t274 x66_2).f1) < (x13_2.length : Int) then (laws_FnCuts.l0 k2 l1 t273 t274 t275 t280 y296 y294 (rdOf false y294 ((rd_T57 t274 x66_2).f1)) t274 (t274.length : Int) (wrap64 (x66_2 + 1))) else (none)) else (none))) else (laws_FnCuts.l0 k2 l1 t273 t274 t275 t280 y296 y294 true t274 (t274.length : Int) (wrap64 (x66_2 + 1)))) = some r := by rw [← hbq34] at H; exact H
                    have Nbq34 := Aside0.mk hbq34
                    clear hbq34
                    by_cases c35 : bq34 = true
                    ·subst c35
                     have H1 : (if ((rd_T57 t274 x66_2).f1) < 0 then (laws_FnCuts.l0 k2 l1 t273 t274 t275 t280 y296 y294 true t274 (t274.length : Int) (wrap64 (x66_2 + 1))) else (if 0 ≤ ((rd_T57 t274 x66_2).f1) then (if ((rd_T57 t274 x66_2).f1) < (x13_2.length : Int) then (laws_FnCuts.l0 k2 l1 t273 t274 t275 t280 y296 y294 (rdOf false y294 ((rd_T57 t274 x66_2).f1)) t274 (t274.length : Int) (wrap64 (x66_2 + 1))) else (none)) else (none))) = some r := by rw [if_pos rfl] at H; exact H
                     clear H
                     have H := H1
                     clear H1
                     by_cases c36 : ((rd_T57 t274 x66_2).f1) < 0
                     ·rw [if_pos c36] at H
                      have c36b0 : decide (((rd_T57 t274 x66_2).f1) < 0) = true := decide_eq_true c36
                      clear c36
                      have H' := Aside0.mk H
                      clear H
                      have p290 : 0 ≤ (x66_2 : Int) := of_decide_eq_true (by first | (with_reducible assumption) | assumption)
                      have q290 : x66_2 < (t274.length : Int) := of_decide_eq_true (by first | (with_reducible assumption) | assumption)
                      obtain ⟨ad290, e290, hx290_0, hx290_1⟩ := at_T57 (Kd.R_reads' HO_64.out).2.2 x66_2 p290 q290
                      cases e290
                      replace p290 := eq_true p290
                      replace q290 := eq_true q290
                      try go_wp2_with (first | ((with_reducible refine gate_dst (N := 16) rfl ?_); refine box_event ?hg (N := 16) ?hd (cs := #[.int .i64 0, .int .i64 0]) (t := 57) ?hr ?_; (case hd => rfl); (case hg => rfl); (case hr => first | (go_simp; done) | (go_simp; rfl)); intro gb291 hg w37 hbox hb; have n0_ := Aside0.mk (Kd.R_below (Kd.R_elderB (by (with_reducible repeat (first | apply Kd.R_alloc | apply Kd.R_drewN | apply Kd.R_drew)); exact HO_6.out) gb291 (Nat.le_of_eq hg.symm)) hb); have n1_ := Aside0.mk (Kd.R_below (by (with_reducible repeat (first | apply Kd.R_alloc | apply Kd.R_drewN | apply Kd.R_drew)); exact HO_7.out) hb); have n2_ := Aside0.mk (Kd.R_below (by (with_reducible repeat (first | apply Kd.R_alloc | apply Kd.R_drewN | apply Kd.R_drew)); exact HO_12.out) hb); have n3_ := Aside0.mk (Kd.R_below (by (with_reducible repeat (first | apply Kd.R_alloc | apply Kd.R_drewN | apply Kd.R_drew)); exact HO_13.out) hb); have n4_ := Aside0.mk (Kd.R_below (Kd.R_elderB (by (with_reducible repeat (first | apply Kd.R_alloc | apply Kd.R_drewN | apply Kd.R_drew)); exact HO_64.out) gb291 (Nat.le_of_eq hg.symm)) hb); have n5_ := Aside0.mk (below_step (by repeat (first | (with_reducible first | exact HB.out | apply below_alloc | apply pw_below_drewN | apply below_drew1) | exact HB.out)) hb); have n6_ := Aside0.mk (hbox); have n7_ := Aside0.mk ((by rw [hg]; exact (below_size (by repeat (first | (with_reducible first | exact HB.out | apply below_alloc | apply pw_below_drewN | apply below_drew1) | exact HB.out))) : w.heap.size ≤ gb291)); have n8_ := Aside0.mk ((by rw [hg]; exact (below_size (by repeat (first | (with_reducible first | exact HB.out | apply below_alloc | apply pw_below_drewN | apply below_drew1) | exact HB.out))) : w.heap.size ≤ gb291)); clear HO_6; clear HO_7; clear HO_12; clear HO_13; clear HO_64; clear HB; have HO_6 := n0_; have HO_7 := n1_; have HO_12 := n2_; have HO_13 := n3_; have HO_64 := n4_; have HB := n5_; have BK291 := n6_; have GW291 := n7_; have GE291 := n8_; clear n0_ n1_ n2_ n3_ n4_ n5_ n6_ n7_ n8_; clear hb hbox hg; have hcz38_0 : w37.cell? ⟨gb291, 0, none⟩ = some (.int .i64 0) := (blk_cell BK291.out 0).trans rfl; have hcz38_1 : w37.cell? ⟨gb291, 1, none⟩ = some (.int .i64 0) := (blk_cell BK291.out 1).trans rfl; have hfz38_0 := blk_frozen BK291.out 0; have hfz38_1 := blk_frozen BK291.out 1))
                      have n0_ : Aside0 (Kd.R k57 57 ((w37.setCell ⟨gb291, 0, none⟩ (.int .i64 ((rd_T57 t274 x66_2).f0))).setCell ⟨gb291, 1, none⟩ (.int .i64 ((rd_T57 t274 x66_2).f1))) w.heap.size (fun k_ => k_ ≠ gb291) (.slice (some ad290) t274.length co9) t274) := ⟨by (with_reducible repeat (first | apply Kd.R_alloc | apply Kd.R_drewN | apply Kd.R_drew)); exact Kd.R_mono (Kd.R_far (p := ⟨gb291, 1, none⟩) (Kd.R_far (p := ⟨gb291, 0, none⟩) (Kd.R_mono HO_6.out (fun k_ hk => (⟨hk, hk.2⟩ : _ ∧ k_ ≠ gb291))) (fun _ hk => hk.2) (.int .i64 ((rd_T57 t274 x66_2).f0))) (fun _ hk => hk.2) (.int .i64 ((rd_T57 t274 x66_2).f1))) (fun _ hk => hk.1.2)⟩
                      have n1_ : Aside0 (Kd.R (Kd.int .i64) 3 ((w37.setCell ⟨gb291, 0, none⟩ (.int .i64 ((rd_T57 t274 x66_2).f0))).setCell ⟨gb291, 1, none⟩ (.int .i64 ((rd_T57 t274 x66_2).f1))) w.heap.size (fun k_ => some k_ ≠ (v285 : Value).ownBlock) (.slice Ao10 t275.length co10) t275) := ⟨by (with_reducible repeat (first | apply Kd.R_alloc | apply Kd.R_drewN | apply Kd.R_drew)); exact Kd.R_mono (Kd.R_far (p := ⟨gb291, 1, none⟩) (Kd.R_far (p := ⟨gb291, 0, none⟩) (Kd.R_types HO_7.out BK291.out (by decide)) (fun _ hk => hk.2) (.int .i64 ((rd_T57 t274 x66_2).f0))) (fun _ hk => hk.2) (.int .i64 ((rd_T57 t274 x66_2).f1))) (fun _ hk => hk.1)⟩
                      have n2_ : Aside0 (Kd.R (Kd.int .i64) 3 ((w37.setCell ⟨gb291, 0, none⟩ (.int .i64 ((rd_T57 t274 x66_2).f0))).setCell ⟨gb291, 1, none⟩ (.int .i64 ((rd_T57 t274 x66_2).f1))) w.heap.size (fun k_ => some k_ ≠ (.slice Ao10 t275.length co10 : Value).ownBlock) v285 x12_2) := ⟨by (with_reducible repeat (first | apply Kd.R_alloc | apply Kd.R_drewN | apply Kd.R_drew)); exact Kd.R_mono (Kd.R_far (p := ⟨gb291, 1, none⟩) (Kd.R_far (p := ⟨gb291, 0, none⟩) (Kd.R_types HO_12.out BK291.out (by decide)) (fun _ hk => hk.2) (.int .i64 ((rd_T57 t274 x66_2).f0))) (fun _ hk => hk.2) (.int .i64 ((rd_T57 t274 x66_2).f1))) (fun _ hk => hk.1)⟩
                      have n3_ : Aside0 (Kd.R Kd.bool 4 ((w37.setCell ⟨gb291, 0, none⟩ (.int .i64 ((rd_T57 t274 x66_2).f0))).setCell ⟨gb291, 1, none⟩ (.int .i64 ((rd_T57 t274 x66_2).f1))) w.heap.size (fun _ => True) v288 x13_2) := ⟨by (with_reducible repeat (first | apply Kd.R_alloc | apply Kd.R_drewN | apply Kd.R_drew)); exact Kd.R_mono (Kd.R_far (p := ⟨gb291, 1, none⟩) (Kd.R_far (p := ⟨gb291, 0, none⟩) (Kd.R_types HO_13.out BK291.out (by decide)) (fun _ hk => hk.2) (.int .i64 ((rd_T57 t274 x66_2).f0))) (fun _ hk => hk.2) (.int .i64 ((rd_T57 t274 x66_2).f1))) (fun _ hk => trivial)⟩
                      have n4_ : Aside0 (Kd.R k57 57 ((w37.setCell ⟨gb291, 0, none⟩ (.int .i64 ((rd_T57 t274 x66_2).f0))).setCell ⟨gb291, 1, none⟩ (.int .i64 ((rd_T57 t274 x66_2).f1))) w.heap.size (fun k_ => k_ ≠ gb291) (.slice (some ad290) t274.length co9) t274) := ⟨by (with_reducible repeat (first | apply Kd.R_alloc | apply Kd.R_drewN | apply Kd.R_drew)); exact Kd.R_mono (Kd.R_far (p := ⟨gb291, 1, none⟩) (Kd.R_far (p := ⟨gb291, 0, none⟩) (Kd.R_mono HO_64.out (fun k_ hk => (⟨hk, hk.2⟩ : _ ∧ k_ ≠ gb291))) (fun _ hk => hk.2) (.int .i64 ((rd_T57 t274 x66_2).f0))) (fun _ hk => hk.2) (.int .i64 ((rd_T57 t274 x66_2).f1))) (fun _ hk => hk.1.2)⟩
                      have n5_ : Aside0 (((w37.setCell ⟨gb291, 0, none⟩ (.int .i64 ((rd_T57 t274 x66_2).f0))).setCell ⟨gb291, 1, none⟩ (.int .i64 ((rd_T57 t274 x66_2).f1))).heap[gb291]? = some (.cells #[.int .i64 ((rd_T57 t274 x66_2).f0), .int .i64 ((rd_T57 t274 x66_2).f1)] 57 (0, 0))) := ⟨by (with_reducible repeat (first | refine blk_drewN ?_ _ | refine blk_drew ?_ | refine blk_alloc ?_ _)); refine blk_put (cs := #[.int .i64 ((rd_T57 t274 x66_2).f0), .int .i64 0]) ?_ 1 _ rfl; (with_reducible repeat (first | refine blk_drewN ?_ _ | refine blk_drew ?_ | refine blk_alloc ?_ _)); refine blk_put (cs := #[.int .i64 0, .int .i64 0]) ?_ 0 _ rfl; (with_reducible repeat (first | refine blk_drewN ?_ _ | refine blk_drew ?_ | refine blk_alloc ?_ _)); exact BK291.out⟩
                      have n6_ : Aside0 (Below w.heap.size w ((w37.setCell ⟨gb291, 0, none⟩ (.int .i64 ((rd_T57 t274 x66_2).f0))).setCell ⟨gb291, 1, none⟩ (.int .i64 ((rd_T57 t274 x66_2).f1)))) := ⟨by repeat (first | (with_reducible first | exact HB.out | apply below_alloc | apply pw_below_drewN | apply below_drew1 | refine below_set ?_ GE291.out) | exact HB.out)⟩
                      (try clear HO_6)
                      (try clear HO_7)
                      (try clear HO_12)
                      (try clear HO_13)
                      (try clear HO_64)
                      (try clear BK291)
                      (try clear HB)
                      generalize ((w37.setCell ⟨gb291, 0, none⟩ (.int .i64 ((rd_T57 t274 x66_2).f0))).setCell ⟨gb291, 1, none⟩ (.int .i64 ((rd_T57 t274 x66_2).f1))) = w39 at n0_ n1_ n2_ n3_ n4_ n5_ n6_ ⊢
                      have HO_6 := n0_
                      have HO_7 := n1_
                      have HO_12 := n2_
                      have HO_13 := n3_
                      have HO_64 := n4_
                      have BK291 := n5_
                      have HB := n6_
                      clear n0_ n1_ n2_ n3_ n4_ n5_ n6_
                      have n0_ := Aside0.mk (Kd.R_drew HO_6.out)
                      have n1_ := Aside0.mk (Kd.R_drew HO_7.out)
                      have n2_ := Aside0.mk (Kd.R_drew HO_12.out)
                      have n3_ := Aside0.mk (Kd.R_drew HO_13.out)
                      have n4_ := Aside0.mk (Kd.R_drew HO_64.out)
                      have n5_ := Aside0.mk (blk_drew BK291.out)
                      have n6_ := Aside0.mk (below_drew1 HB.out)
                      clear HO_6
                      clear HO_7
                      clear HO_12
                      clear HO_13
                      clear HO_64
                      clear BK291
                      clear HB
                      have HO_6 := n0_
                      have HO_7 := n1_
                      have HO_12 := n2_
                      have HO_13 := n3_
                      have HO_64 := n4_
                      have BK291 := n5_
                      have HB := n6_
                      clear n0_ n1_ n2_ n3_ n4_ n5_ n6_
                      obtain ⟨Ao41, co41, eo41⟩ := Kd.R_slice HO_12.out
                      (first | subst eo41 | (injection eo41 with f1_ f2_ f3_; have f4_ := f1_.symm; have f5_ := f3_.symm; clear f1_ f2_ f3_; subst f4_; subst f5_))
                      have p292 : 0 ≤ (((rd_T57 t274 x66_2).f0) : Int) := of_decide_eq_true (by first | (with_reducible assumption) | assumption)
                      have q292 : ((rd_T57 t274 x66_2).f0) < (x12_2.length : Int) := of_decide_eq_true (by first | (with_reducible assumption) | assumption)
                      obtain ⟨ad292, e292, hx292_0⟩ := Kd.at_int (Kd.R_reads' HO_12.out).2.2 ((rd_T57 t274 x66_2).f0) p292 q292
                      cases e292
                      replace p292 := eq_true p292
                      replace q292 := eq_true q292
                      have p293 : 0 ≤ (((rd_T57 t274 x66_2).f0) : Int) := of_decide_eq_true (by first | (with_reducible assumption) | assumption)
                      have q293 : ((rd_T57 t274 x66_2).f0) < (t275.length : Int) := of_decide_eq_true (by first | (with_reducible assumption) | assumption)
                      obtain ⟨ad293, e293, hx293_0⟩ := Kd.at_int (Kd.R_reads' HO_7.out).2.2 ((rd_T57 t274 x66_2).f0) p293 q293
                      cases e293
                      replace p293 := eq_true p293
                      replace q293 := eq_true q293
                      have p31 : 0 ≤ (x66_2 : Int) := of_decide_eq_true (by first | (with_reducible assumption) | assumption)
                      have q31 : (x66_2 : Int) < ((x13_2.length : Int) : Int) := of_decide_eq_true (by first | (with_reducible assumption) | assumption)
                      obtain ⟨go31, co31, eo31, gb31, gl31, cl31, HG31⟩ := Kd.R_form HO_13.out (by omega)
                      (first | cases eo31 | (injection eo31 with ea_ en_ ec_; (first | subst ea_ | (injection ea_ with ea_; subst ea_)); subst ec_; clear en_))
                      have GB31 := Aside0.mk gb31
                      have GG31 := Aside0.mk HG31
                      clear gb31 gl31 HG31
                      obtain ⟨hx31_0, hf31_0⟩ := Kd.R_celln false HO_13.out (x66_2 : Int) p31 q31
                      replace p31 := eq_true p31
                      replace q31 := eq_true q31
                      have HP42 := Kd.R_putn HO_13.out (x66_2 : Int) (decide ((rd x12_2 ((rd_T57 t274 x66_2).f0)) < (rd t275 ((rd_T57 t274 x66_2).f0))))
                      rw [← Ny294.out] at HP42
                      have HQ42 := Aside0.mk HP42
                      clear HP42
                      refine start_ (n := 15) (S := fun w' => w'.cell? ⟨gb291, 0, none⟩ = some (.int .i64 ((rd_T57 t274 x66_2).f0)) ∧ w'.cell? ⟨gb291, 1, none⟩ = some (.int .i64 ((rd_T57 t274 x66_2).f1)) ∧ w'.cell? (ad292.add (((rd_T57 t274 x66_2).f0)).toNat) = some (.int .i64 (rd x12_2 ((rd_T57 t274 x66_2).f0))) ∧ w'.cell? (ad293.add (((rd_T57 t274 x66_2).f0)).toNat) = some (.int .i64 (rd t275 ((rd_T57 t274 x66_2).f0)))) (ds := [14]) #[false, false, false, false, false, false, false, false, false, false, false, false, false, false, false] (by kernel_rfl) rfl rfl ⟨(blk_cell BK291.out 0).trans rfl, (blk_cell BK291.out 1).trans rfl, hx292_0, hx293_0⟩ (fun hHeld => ?_); refine with_tabW laws_FnCuts.tab16 laws_FnCuts.bits16 (fun HT_ HW_ => ?_)
                      generalize w39.drew = w40 at HO_6 HO_7 HO_12 HO_13 HO_64 BK291 HB GG31 HQ42 hf31_0 hx292_0 hx293_0 hx31_0 hHeld ⊢
                      refine pure_ (i := 0) (N := some 71) (v := ?_) (a' := ?_) #[true, false, false, false, false, false, false, false, false, false, false, false, false, false, false] rfl rfl (any_of HT_.out (by kernel_rfl)) (fun _ _ _ h => h) (Or.inl ⟨by rfl, ?_⟩) ?_ ?_
                      rotate_left
                      ·intro w'
                       go_simp
                       with_reducible rfl
                      rotate_left
                      ·simp only [Act.put, List.setIfInBounds_toArray, List.set_cons_zero, List.set_cons_succ, i64_w, i32_w]
                       rfl
                      refine pure_ (i := 1) (N := some 72) (v := ?_) (a' := ?_) #[true, true, false, false, false, false, false, false, false, false, false, false, false, false, false] rfl rfl (any_of HT_.out (by kernel_rfl)) (fun _ _ _ h => h) (Or.inl ⟨by rfl, ?_⟩) ?_ ?_
                      rotate_left
                      ·intro w'
                       go_simp
                       with_reducible rfl
                      rotate_left
                      ·simp only [Act.put, List.setIfInBounds_toArray, List.set_cons_zero, List.set_cons_succ, i64_w, i32_w]
                       rfl
                      refine pure_ (i := 2) (N := some 73) (v := ?_) (a' := ?_) #[true, true, true, false, false, false, false, false, false, false, false, false, false, false, false] rfl rfl (any_of HT_.out (by kernel_rfl)) (fun _ _ _ h => h) (Or.inl ⟨by rfl, ?_⟩) ?_ ?_
                      rotate_left
                      ·intro w'
                       go_simp
                       with_reducible rfl
                      rotate_left
                      ·simp only [Act.put, List.setIfInBounds_toArray, List.set_cons_zero, List.set_cons_succ, i64_w, i32_w]
                       rfl
                      refine pure_ (i := 3) (N := some 74) (v := ?_) (a' := ?_) #[true, true, true, true, false, false, false, false, false, false, false, false, false, false, false] rfl rfl (any_of HT_.out (by kernel_rfl)) (fun _ _ _ h => h) (Or.inl ⟨by rfl, ?_⟩) ?_ ?_
                      rotate_left
                      ·intro w'
                       go_simp
                       with_reducible rfl
                      rotate_left
                      ·simp only [Act.put, List.setIfInBounds_toArray, List.set_cons_zero, List.set_cons_succ, i64_w, i32_w]
                       rfl
                      refine pure_ (i := 7) (N := some 78) (v := ?_) (a' := ?_) #[true, true, true, true, false, false, false, true, false, false, false, false, false, false, false] rfl rfl (any_of HT_.out (by kernel_rfl)) (fun _ _ _ h => h) (Or.inl ⟨by rfl, ?_⟩) ?_ ?_
                      rotate_left
                      ·intro w'
                       go_simp
                       with_reducible rfl
                      rotate_left
                      ·simp only [Act.put, List.setIfInBounds_toArray, List.set_cons_zero, List.set_cons_succ, i64_w, i32_w]
                       rfl
                      refine pure_ (i := 8) (N := some 79) (v := ?_) (a' := ?_) #[true, true, true, true, false, false, false, true, true, false, false, false, false, false, false] rfl rfl (any_of HT_.out (by kernel_rfl)) (fun _ _ _ h => h) (Or.inl ⟨by rfl, ?_⟩) ?_ ?_
                      rotate_left
                      ·intro w'
                       go_simp
                       with_reducible rfl
                      rotate_left
                      ·simp only [Act.put, List.setIfInBounds_toArray, List.set_cons_zero, List.set_cons_succ, i64_w, i32_w]
                       rfl
                      refine take_ (i := 4) (N := some 75) (v := ?_) (a' := ?_) #[true, true, true, true, true, false, false, true, true, false, false, false, false, false, false] rfl rfl (take_ofW HT_.out HW_.out (by kernel_rfl)) (fun _ _ _ h => h) (Or.inl ⟨by rfl, ?_⟩) hHeld ?_ ?_
                      rotate_left
                      ·rintro w' ⟨s0, s1, s2, s3⟩
                       go_simp
                       with_reducible rfl
                      rotate_left
                      ·simp only [Act.put, List.setIfInBounds_toArray, List.set_cons_zero, List.set_cons_succ, i64_w, i32_w]
                       rfl
                      refine pure_ (i := 5) (N := some 76) (v := ?_) (a' := ?_) #[true, true, true, true, true, true, false, true, true, false, false, false, false, false, false] rfl rfl (any_of HT_.out (by kernel_rfl)) (fun _ _ _ h => h) (Or.inl ⟨by rfl, ?_⟩) ?_ ?_
                      rotate_left
                      ·intro w'
                       go_simp
                       with_reducible rfl
                      rotate_left
                      ·simp only [Act.put, List.setIfInBounds_toArray, List.set_cons_zero, List.set_cons_succ, i64_w, i32_w]
                       rfl
                      refine take_ (i := 6) (N := some 77) (v := ?_) (a' := ?_) #[true, true, true, true, true, true, true, true, true, false, false, false, false, false, false] rfl rfl (take_ofW HT_.out HW_.out (by kernel_rfl)) (fun _ _ _ h => h) (Or.inl ⟨by rfl, ?_⟩) hHeld ?_ ?_
                      rotate_left
                      ·rintro w' ⟨s0, s1, s2, s3⟩
                       go_simp
                       with_reducible rfl
                      rotate_left
                      ·simp only [Act.put, List.setIfInBounds_toArray, List.set_cons_zero, List.set_cons_succ, i64_w, i32_w]
                       rfl
                      refine take_ (i := 9) (N := some 80) (v := ?_) (a' := ?_) #[true, true, true, true, true, true, true, true, true, true, false, false, false, false, false] rfl rfl (take_ofW HT_.out HW_.out (by kernel_rfl)) (fun _ _ _ h => h) (Or.inl ⟨by rfl, ?_⟩) hHeld ?_ ?_
                      rotate_left
                      ·rintro w' ⟨s0, s1, s2, s3⟩
                       go_simp
                       with_reducible rfl
                      rotate_left
                      ·simp only [Act.put, List.setIfInBounds_toArray, List.set_cons_zero, List.set_cons_succ, i64_w, i32_w]
                       rfl
                      refine pure_ (i := 10) (N := some 81) (v := ?_) (a' := ?_) #[true, true, true, true, true, true, true, true, true, true, true, false, false, false, false] rfl rfl (any_of HT_.out (by kernel_rfl)) (fun _ _ _ h => h) (Or.inl ⟨by rfl, ?_⟩) ?_ ?_
                      rotate_left
                      ·intro w'
                       go_simp
                       with_reducible rfl
                      rotate_left
                      ·simp only [Act.put, List.setIfInBounds_toArray, List.set_cons_zero, List.set_cons_succ, i64_w, i32_w]
                       rfl
                      refine take_ (i := 11) (N := some 82) (v := ?_) (a' := ?_) #[true, true, true, true, true, true, true, true, true, true, true, true, false, false, false] rfl rfl (take_ofW HT_.out HW_.out (by kernel_rfl)) (fun _ _ _ h => h) (Or.inl ⟨by rfl, ?_⟩) hHeld ?_ ?_
                      rotate_left
                      ·rintro w' ⟨s0, s1, s2, s3⟩
                       go_simp
                       with_reducible rfl
                      rotate_left
                      ·simp only [Act.put, List.setIfInBounds_toArray, List.set_cons_zero, List.set_cons_succ, i64_w, i32_w]
                       rfl
                      refine pure_ (i := 12) (N := some 83) (v := ?_) (a' := ?_) #[true, true, true, true, true, true, true, true, true, true, true, true, true, false, false] rfl rfl (any_of HT_.out (by kernel_rfl)) (fun _ _ _ h => h) (Or.inl ⟨by rfl, ?_⟩) ?_ ?_
                      rotate_left
                      ·intro w'
                       go_simp
                       with_reducible rfl
                      rotate_left
                      ·simp only [Act.put, List.setIfInBounds_toArray, List.set_cons_zero, List.set_cons_succ, i64_w, i32_w]
                       rfl
                      refine pure_ (i := 13) (N := some 84) (v := ?_) (a' := ?_) #[true, true, true, true, true, true, true, true, true, true, true, true, true, true, false] rfl rfl (any_of HT_.out (by kernel_rfl)) (fun _ _ _ h => h) (Or.inl ⟨by rfl, ?_⟩) ?_ ?_
                      rotate_left
                      ·intro w'
                       go_simp
                       with_reducible rfl
                      rotate_left
                      ·simp only [Act.put, List.setIfInBounds_toArray, List.set_cons_zero, List.set_cons_succ, i64_w, i32_w]
                       rfl
                      refine last_ (i := 14) (N := none) #[true, true, true, true, true, true, true, true, true, true, true, true, true, true, true] rfl rfl (one_of HT_.out (by kernel_rfl)) (by decide) (fun K hK => ?_)
                      refine skip_ (w1 := ?_) (by rfl) rfl ?_ ?_
                      rotate_left
                      ·go_simp
                       rfl
                      refine hK.out _ _ ?_
                      clear hK K
                      refine done_ (done_of HT_.out (by kernel_rfl)) ?_
                      have n0_ : Aside0 (Kd.R k57 57 (w40.setCell ⟨go31, (x66_2 : Int).toNat, none⟩ (.bool (decide ((rd x12_2 ((rd_T57 t274 x66_2).f0)) < (rd t275 ((rd_T57 t274 x66_2).f0)))))) w.heap.size (fun k_ => k_ ≠ gb291) (.slice (some ad290) t274.length co9) t274) := ⟨by (with_reducible repeat (first | apply Kd.R_alloc | apply Kd.R_drewN | apply Kd.R_drew)); exact Kd.R_mono (Kd.R_far (p := ⟨go31, (x66_2 : Int).toNat, none⟩) (Kd.R_types HO_6.out GG31.out (by decide)) (fun _ hk => hk.2) (.bool (decide ((rd x12_2 ((rd_T57 t274 x66_2).f0)) < (rd t275 ((rd_T57 t274 x66_2).f0)))))) (fun _ hk => hk.1)⟩
                      have n1_ : Aside0 (Kd.R (Kd.int .i64) 3 (w40.setCell ⟨go31, (x66_2 : Int).toNat, none⟩ (.bool (decide ((rd x12_2 ((rd_T57 t274 x66_2).f0)) < (rd t275 ((rd_T57 t274 x66_2).f0)))))) w.heap.size (fun k_ => some k_ ≠ (.slice (some ad292) x12_2.length co41 : Value).ownBlock) (.slice (some ad293) t275.length co10) t275) := ⟨by (with_reducible repeat (first | apply Kd.R_alloc | apply Kd.R_drewN | apply Kd.R_drew)); exact Kd.R_mono (Kd.R_far (p := ⟨go31, (x66_2 : Int).toNat, none⟩) (Kd.R_types HO_7.out GG31.out (by decide)) (fun _ hk => hk.2) (.bool (decide ((rd x12_2 ((rd_T57 t274 x66_2).f0)) < (rd t275 ((rd_T57 t274 x66_2).f0)))))) (fun _ hk => hk.1)⟩
                      have n2_ : Aside0 (Kd.R (Kd.int .i64) 3 (w40.setCell ⟨go31, (x66_2 : Int).toNat, none⟩ (.bool (decide ((rd x12_2 ((rd_T57 t274 x66_2).f0)) < (rd t275 ((rd_T57 t274 x66_2).f0)))))) w.heap.size (fun k_ => some k_ ≠ (.slice (some ad293) t275.length co10 : Value).ownBlock) (.slice (some ad292) x12_2.length co41) x12_2) := ⟨by (with_reducible repeat (first | apply Kd.R_alloc | apply Kd.R_drewN | apply Kd.R_drew)); exact Kd.R_mono (Kd.R_far (p := ⟨go31, (x66_2 : Int).toNat, none⟩) (Kd.R_types HO_12.out GG31.out (by decide)) (fun _ hk => hk.2) (.bool (decide ((rd x12_2 ((rd_T57 t274 x66_2).f0)) < (rd t275 ((rd_T57 t274 x66_2).f0)))))) (fun _ hk => hk.1)⟩
                      have n3_ : Aside0 (Kd.R Kd.bool 4 (w40.setCell ⟨go31, (x66_2 : Int).toNat, none⟩ (.bool (decide ((rd x12_2 ((rd_T57 t274 x66_2).f0)) < (rd t275 ((rd_T57 t274 x66_2).f0)))))) w.heap.size (fun _ => True) (.slice (some ⟨go31, 0, none⟩) x13_2.length co31) y294) := ⟨by (with_reducible repeat (first | apply Kd.R_alloc | apply Kd.R_drewN | apply Kd.R_drew)); exact HQ42.out⟩
                      have n4_ : Aside0 (Kd.R k57 57 (w40.setCell ⟨go31, (x66_2 : Int).toNat, none⟩ (.bool (decide ((rd x12_2 ((rd_T57 t274 x66_2).f0)) < (rd t275 ((rd_T57 t274 x66_2).f0)))))) w.heap.size (fun k_ => k_ ≠ gb291) (.slice (some ad290) t274.length co9) t274) := ⟨by (with_reducible repeat (first | apply Kd.R_alloc | apply Kd.R_drewN | apply Kd.R_drew)); exact Kd.R_mono (Kd.R_far (p := ⟨go31, (x66_2 : Int).toNat, none⟩) (Kd.R_types HO_64.out GG31.out (by decide)) (fun _ hk => hk.2) (.bool (decide ((rd x12_2 ((rd_T57 t274 x66_2).f0)) < (rd t275 ((rd_T57 t274 x66_2).f0)))))) (fun _ hk => hk.1)⟩
                      have n5_ : Aside0 ((w40.setCell ⟨go31, (x66_2 : Int).toNat, none⟩ (.bool (decide ((rd x12_2 ((rd_T57 t274 x66_2).f0)) < (rd t275 ((rd_T57 t274 x66_2).f0)))))).heap[gb291]? = some (.cells #[.int .i64 ((rd_T57 t274 x66_2).f0), .int .i64 ((rd_T57 t274 x66_2).f1)] 57 (0, 0))) := ⟨by (with_reducible repeat (first | refine blk_drewN ?_ _ | refine blk_drew ?_ | refine blk_alloc ?_ _)); refine blk_far ?_ (by have h_ := Kd.R_ne HO_13.out BK291.out (by decide); intro e_; exact h_ (by rw [e_]; rfl)) _; (with_reducible repeat (first | refine blk_drewN ?_ _ | refine blk_drew ?_ | refine blk_alloc ?_ _)); exact BK291.out⟩
                      have n6_ : Aside0 (Below w.heap.size w (w40.setCell ⟨go31, (x66_2 : Int).toNat, none⟩ (.bool (decide ((rd x12_2 ((rd_T57 t274 x66_2).f0)) < (rd t275 ((rd_T57 t274 x66_2).f0))))))) := ⟨by repeat (first | (with_reducible first | exact HB.out | apply below_alloc | apply pw_below_drewN | apply below_drew1 | refine below_set ?_ GB31.out | refine below_set ?_ GE291.out) | exact HB.out)⟩
                      (try clear HO_6)
                      (try clear HO_7)
                      (try clear HO_12)
                      (try clear HO_13)
                      (try clear HO_64)
                      (try clear BK291)
                      (try clear HB)
                      generalize (w40.setCell ⟨go31, (x66_2 : Int).toNat, none⟩ (.bool (decide ((rd x12_2 ((rd_T57 t274 x66_2).f0)) < (rd t275 ((rd_T57 t274 x66_2).f0)))))) = w43 at n0_ n1_ n2_ n3_ n4_ n5_ n6_ ⊢
                      have HO_6 := n0_
                      have HO_7 := n1_
                      have HO_12 := n2_
                      have HO_13 := n3_
                      have HO_64 := n4_
                      have BK291 := n5_
                      have HB := n6_
                      clear n0_ n1_ n2_ n3_ n4_ n5_ n6_
                      have hcz44_0 : w43.cell? ⟨gb291, 0, none⟩ = some (.int .i64 ((rd_T57 t274 x66_2).f0)) := (blk_cell BK291.out 0).trans rfl
                      have hcz44_1 : w43.cell? ⟨gb291, 1, none⟩ = some (.int .i64 ((rd_T57 t274 x66_2).f1)) := (blk_cell BK291.out 1).trans rfl
                      have hfz44_0 := blk_frozen BK291.out 0
                      have hfz44_1 := blk_frozen BK291.out 1
                      have p295 : 0 ≤ (((rd_T57 t274 x66_2).f0) : Int) := of_decide_eq_true (by first | (with_reducible assumption) | assumption)
                      have q295 : ((rd_T57 t274 x66_2).f0) < (x12_2.length : Int) := of_decide_eq_true (by first | (with_reducible assumption) | assumption)
                      obtain ⟨ad295, e295, hx295_0⟩ := Kd.at_int (Kd.R_reads' HO_12.out).2.2 ((rd_T57 t274 x66_2).f0) p295 q295
                      obtain rfl : ad292 = ad295 := (by injection e295)
                      replace p295 := eq_true p295
                      replace q295 := eq_true q295
                      have p32 : 0 ≤ (((rd_T57 t274 x66_2).f0) : Int) := of_decide_eq_true (by first | (with_reducible assumption) | assumption)
                      have q32 : (((rd_T57 t274 x66_2).f0) : Int) < ((x12_2.length : Int) : Int) := of_decide_eq_true (by first | (with_reducible assumption) | assumption)
                      obtain ⟨go32, co32, eo32, gb32, gl32, cl32, HG32⟩ := Kd.R_form HO_12.out (by omega)
                      (first | cases eo32 | (injection eo32 with ea_ en_ ec_; (first | subst ea_ | (injection ea_ with ea_; subst ea_)); subst ec_; clear en_))
                      have GB32 := Aside0.mk gb32
                      have GG32 := Aside0.mk HG32
                      clear gb32 gl32 HG32
                      (first | simp only [add_plain] at hx292_0 | skip)
                      (first | simp only [add_plain] at hx295_0 | skip)
                      obtain ⟨hx32_0, hf32_0⟩ := Kd.R_celln 0 HO_12.out (((rd_T57 t274 x66_2).f0) : Int) p32 q32
                      replace p32 := eq_true p32
                      replace q32 := eq_true q32
                      obtain ⟨hy45_, hz45_⟩ := Kd.R_celln 0 HO_12.out (((rd_T57 t274 x66_2).f0) : Int) (of_decide_eq_true (by first | (with_reducible assumption) | assumption)) (of_decide_eq_true (by first | (with_reducible assumption) | assumption))
                      have HP45 := Kd.R_putg HO_12.out (((rd_T57 t274 x66_2).f0) : Int) (wrap64 ((rd x12_2 ((rd_T57 t274 x66_2).f0)) + 1))
                      try go_wp2_with (first | ((with_reducible refine gate_store (t := 3) (p := 91) rfl ?_); refine store_event (t := 3) (p := 91) (v := ?vo_w46) (w1 := (w43.setCell ⟨go32, (((rd_T57 t274 x66_2).f0) : Int).toNat, none⟩ (.int .i64 (wrap64 ((rd x12_2 ((rd_T57 t274 x66_2).f0)) + 1))))) ?hg ?ho ?hn ?hr ?_; (case ho => rfl); (case hg => rfl); (case hn => rfl); (case hr => first | (go_simp; done) | (go_simp; rfl)); intro w46 hw; have hg : w43.grownBy w46 (some go32) := (by rw [hw]; exact HP45.2); have hp_ : Kd.R (Kd.int .i64) 3 w46 w.heap.size (fun k_ => some k_ ≠ (.slice (some ad293) t275.length co10 : Value).ownBlock) (.slice (some ⟨go32, 0, none⟩) x12_2.length co41) y296 := (by rw [hw, Ny296.out]; exact HP45.1); clear HP45; have n0_ := Aside0.mk (Kd.R_over' (v := (.slice (some ⟨go32, 0, none⟩) x12_2.length co41)) (by (with_reducible repeat (first | apply Kd.R_alloc | apply Kd.R_drewN | apply Kd.R_drew)); exact HO_6.out) (Kd.R_typed HO_12.out) (by decide) hg); have n1_ := Aside0.mk (Kd.R_after (v := (.slice (some ⟨go32, 0, none⟩) x12_2.length co41)) (v1 := (.slice (some ⟨go32, 0, none⟩) x12_2.length co41)) (ok := (fun _ => True)) (by (with_reducible repeat (first | apply Kd.R_alloc | apply Kd.R_drewN | apply Kd.R_drew)); exact Kd.R_mono HO_7.out (fun _ hk => ⟨trivial, hk⟩)) hg (.inl rfl)); have n2_ := Aside0.mk (hp_); have n3_ := Aside0.mk (Kd.R_over' (v := (.slice (some ⟨go32, 0, none⟩) x12_2.length co41)) (by (with_reducible repeat (first | apply Kd.R_alloc | apply Kd.R_drewN | apply Kd.R_drew)); exact HO_13.out) (Kd.R_typed HO_12.out) (by decide) hg); have n4_ := Aside0.mk (Kd.R_over' (v := (.slice (some ⟨go32, 0, none⟩) x12_2.length co41)) (by (with_reducible repeat (first | apply Kd.R_alloc | apply Kd.R_drewN | apply Kd.R_drew)); exact HO_64.out) (Kd.R_typed HO_12.out) (by decide) hg); have n5_ := Aside0.mk (blk_grown (g := gb291) (o := .cells #[.int .i64 ((rd_T57 t274 x66_2).f0), .int .i64 ((rd_T57 t274 x66_2).f1)] 57 (0, 0)) (by (with_reducible repeat (first | refine blk_drewN ?_ _ | refine blk_drew ?_ | refine blk_alloc ?_ _)); exact BK291.out) hg (Kd.R_ne HO_12.out BK291.out (by decide))); have n6_ := Aside0.mk ((by rw [hw]; exact below_set (HB.out) GB32.out : Below w.heap.size w w46)); clear HO_6; clear HO_7; clear HO_12; clear HO_13; clear HO_64; clear BK291; clear HB; have HO_6 := n0_; have HO_7 := n1_; have HO_12 := n2_; have HO_13 := n3_; have HO_64 := n4_; have BK291 := n5_; have HB := n6_; clear n0_ n1_ n2_ n3_ n4_ n5_ n6_; clear hg hw hp_; have p297 : 0 ≤ (x66_2 : Int) := of_decide_eq_true (by first | (with_reducible assumption) | assumption); have q297 : x66_2 < (y294.length : Int) := (by have h_ : (x66_2 : Int) < ((x13_2.length : Int) : Int) := of_decide_eq_true (by first | (with_reducible assumption) | assumption); first | (have e_ := (Kd.R_reads' HO_13.out).1; omega) | simpa only [Ny294.out, List.length_set] using h_); have ql297 : ((x66_2 : Int) < ((x13_2.length : Int) : Int)) = True := eq_true (of_decide_eq_true (by first | (with_reducible assumption) | assumption)); obtain ⟨ad297, e297, hx297_0⟩ := Kd.at_bool (Kd.R_reads' HO_13.out).2.2 x66_2 p297 q297; (try rw [← Nbq34.out] at hx297_0); obtain rfl : (⟨go31, 0, none⟩ : Addr) = ad297 := (by injection e297); (first | simp only [add_plain] at hx297_0 | simp only [add_at] at hx297_0 | simp only [Addr.add, Nat.zero_add] at hx297_0 | skip); replace p297 := eq_true p297; replace q297 := eq_true q297; have hcz47_0 : w46.cell? ⟨gb291, 0, none⟩ = some (.int .i64 ((rd_T57 t274 x66_2).f0)) := (blk_cell BK291.out 0).trans rfl; have hcz47_1 : w46.cell? ⟨gb291, 1, none⟩ = some (.int .i64 ((rd_T57 t274 x66_2).f1)) := (blk_cell BK291.out 1).trans rfl; have hfz47_0 := blk_frozen BK291.out 0; have hfz47_1 := blk_frozen BK291.out 1))
                      go_roundg k2
                      case measure => have := HJ6.out; have := HK2.out; omega
                      case rel => exact ⟨(y296), (y294), (true), (wrap64 (x66_2 + 1)), (by first | rfl | (simp; done) | (simp [*]; done)), (by first | rfl | (simp; done) | (simp [*]; done)), H', ⟨by have := HJ6.out; have := HK2.out; omega⟩, ⟨by (with_reducible repeat (first | apply Kd.R_alloc | apply Kd.R_drewN | apply Kd.R_drew)); exact Kd.R_mono HO_6.out (fun _ hk => trivial)⟩, ⟨by (with_reducible repeat (first | apply Kd.R_alloc | apply Kd.R_drewN | apply Kd.R_drew)); exact Kd.R_mono HO_7.out (fun _ hk => hk.2)⟩, ⟨by (with_reducible repeat (first | apply Kd.R_alloc | apply Kd.R_drewN | apply Kd.R_drew)); exact HO_12.out⟩, ⟨by (with_reducible repeat (first | apply Kd.R_alloc | apply Kd.R_drewN | apply Kd.R_drew)); exact HO_13.out⟩, ⟨by (with_reducible repeat (first | apply Kd.R_alloc | apply Kd.R_drewN | apply Kd.R_drew)); exact Kd.R_mono HO_64.out (fun _ hk => trivial)⟩, ⟨by repeat (first | (with_reducible first | exact HB.out | apply below_alloc | apply pw_below_drewN | apply below_drew1 | refine below_set ?_ GE291.out) | exact HB.out)⟩⟩
                     ·rw [if_neg c36] at H
                      have c36b0 : decide (((rd_T57 t274 x66_2).f1) < 0) = false := decide_eq_false c36
                      clear c36
                      by_cases c48 : 0 ≤ ((rd_T57 t274 x66_2).f1)
                      ·rw [if_pos c48] at H
                       have c48b0 : decide (0 ≤ ((rd_T57 t274 x66_2).f1)) = true := decide_eq_true c48
                       clear c48
                       by_cases c49 : ((rd_T57 t274 x66_2).f1) < (x13_2.length : Int)
                       ·rw [if_pos c49] at H
                        have c49b0 : decide (((rd_T57 t274 x66_2).f1) < (x13_2.length : Int)) = true := decide_eq_true c49
                        clear c49
                        have H' := Aside0.mk H
                        clear H
                        have p290 : 0 ≤ (x66_2 : Int) := of_decide_eq_true (by first | (with_reducible assumption) | assumption)
                        have q290 : x66_2 < (t274.length : Int) := of_decide_eq_true (by first | (with_reducible assumption) | assumption)
                        obtain ⟨ad290, e290, hx290_0, hx290_1⟩ := at_T57 (Kd.R_reads' HO_64.out).2.2 x66_2 p290 q290
                        cases e290
                        replace p290 := eq_true p290
                        replace q290 := eq_true q290
                        try go_wp2_with (first | ((with_reducible refine gate_dst (N := 16) rfl ?_); refine box_event ?hg (N := 16) ?hd (cs := #[.int .i64 0, .int .i64 0]) (t := 57) ?hr ?_; (case hd => rfl); (case hg => rfl); (case hr => first | (go_simp; done) | (go_simp; rfl)); intro gb291 hg w50 hbox hb; have n0_ := Aside0.mk (Kd.R_below (Kd.R_elderB (by (with_reducible repeat (first | apply Kd.R_alloc | apply Kd.R_drewN | apply Kd.R_drew)); exact HO_6.out) gb291 (Nat.le_of_eq hg.symm)) hb); have n1_ := Aside0.mk (Kd.R_below (by (with_reducible repeat (first | apply Kd.R_alloc | apply Kd.R_drewN | apply Kd.R_drew)); exact HO_7.out) hb); have n2_ := Aside0.mk (Kd.R_below (by (with_reducible repeat (first | apply Kd.R_alloc | apply Kd.R_drewN | apply Kd.R_drew)); exact HO_12.out) hb); have n3_ := Aside0.mk (Kd.R_below (by (with_reducible repeat (first | apply Kd.R_alloc | apply Kd.R_drewN | apply Kd.R_drew)); exact HO_13.out) hb); have n4_ := Aside0.mk (Kd.R_below (Kd.R_elderB (by (with_reducible repeat (first | apply Kd.R_alloc | apply Kd.R_drewN | apply Kd.R_drew)); exact HO_64.out) gb291 (Nat.le_of_eq hg.symm)) hb); have n5_ := Aside0.mk (below_step (by repeat (first | (with_reducible first | exact HB.out | apply below_alloc | apply pw_below_drewN | apply below_drew1) | exact HB.out)) hb); have n6_ := Aside0.mk (hbox); have n7_ := Aside0.mk ((by rw [hg]; exact (below_size (by repeat (first | (with_reducible first | exact HB.out | apply below_alloc | apply pw_below_drewN | apply below_drew1) | exact HB.out))) : w.heap.size ≤ gb291)); have n8_ := Aside0.mk ((by rw [hg]; exact (below_size (by repeat (first | (with_reducible first | exact HB.out | apply below_alloc | apply pw_below_drewN | apply below_drew1) | exact HB.out))) : w.heap.size ≤ gb291)); clear HO_6; clear HO_7; clear HO_12; clear HO_13; clear HO_64; clear HB; have HO_6 := n0_; have HO_7 := n1_; have HO_12 := n2_; have HO_13 := n3_; have HO_64 := n4_; have HB := n5_; have BK291 := n6_; have GW291 := n7_; have GE291 := n8_; clear n0_ n1_ n2_ n3_ n4_ n5_ n6_ n7_ n8_; clear hb hbox hg; have hcz51_0 : w50.cell? ⟨gb291, 0, none⟩ = some (.int .i64 0) := (blk_cell BK291.out 0).trans rfl; have hcz51_1 : w50.cell? ⟨gb291, 1, none⟩ = some (.int .i64 0) := (blk_cell BK291.out 1).trans rfl; have hfz51_0 := blk_frozen BK291.out 0; have hfz51_1 := blk_frozen BK291.out 1))
                        have n0_ : Aside0 (Kd.R k57 57 ((w50.setCell ⟨gb291, 0, none⟩ (.int .i64 ((rd_T57 t274 x66_2).f0))).setCell ⟨gb291, 1, none⟩ (.int .i64 ((rd_T57 t274 x66_2).f1))) w.heap.size (fun k_ => k_ ≠ gb291) (.slice (some ad290) t274.length co9) t274) := ⟨by (with_reducible repeat (first | apply Kd.R_alloc | apply Kd.R_drewN | apply Kd.R_drew)); exact Kd.R_mono (Kd.R_far (p := ⟨gb291, 1, none⟩) (Kd.R_far (p := ⟨gb291, 0, none⟩) (Kd.R_mono HO_6.out (fun k_ hk => (⟨hk, hk.2⟩ : _ ∧ k_ ≠ gb291))) (fun _ hk => hk.2) (.int .i64 ((rd_T57 t274 x66_2).f0))) (fun _ hk => hk.2) (.int .i64 ((rd_T57 t274 x66_2).f1))) (fun _ hk => hk.1.2)⟩
                        have n1_ : Aside0 (Kd.R (Kd.int .i64) 3 ((w50.setCell ⟨gb291, 0, none⟩ (.int .i64 ((rd_T57 t274 x66_2).f0))).setCell ⟨gb291, 1, none⟩ (.int .i64 ((rd_T57 t274 x66_2).f1))) w.heap.size (fun k_ => some k_ ≠ (v285 : Value).ownBlock) (.slice Ao10 t275.length co10) t275) := ⟨by (with_reducible repeat (first | apply Kd.R_alloc | apply Kd.R_drewN | apply Kd.R_drew)); exact Kd.R_mono (Kd.R_far (p := ⟨gb291, 1, none⟩) (Kd.R_far (p := ⟨gb291, 0, none⟩) (Kd.R_types HO_7.out BK291.out (by decide)) (fun _ hk => hk.2) (.int .i64 ((rd_T57 t274 x66_2).f0))) (fun _ hk => hk.2) (.int .i64 ((rd_T57 t274 x66_2).f1))) (fun _ hk => hk.1)⟩
                        have n2_ : Aside0 (Kd.R (Kd.int .i64) 3 ((w50.setCell ⟨gb291, 0, none⟩ (.int .i64 ((rd_T57 t274 x66_2).f0))).setCell ⟨gb291, 1, none⟩ (.int .i64 ((rd_T57 t274 x66_2).f1))) w.heap.size (fun k_ => some k_ ≠ (.slice Ao10 t275.length co10 : Value).ownBlock) v285 x12_2) := ⟨by (with_reducible repeat (first | apply Kd.R_alloc | apply Kd.R_drewN | apply Kd.R_drew)); exact Kd.R_mono (Kd.R_far (p := ⟨gb291, 1, none⟩) (Kd.R_far (p := ⟨gb291, 0, none⟩) (Kd.R_types HO_12.out BK291.out (by decide)) (fun _ hk => hk.2) (.int .i64 ((rd_T57 t274 x66_2).f0))) (fun _ hk => hk.2) (.int .i64 ((rd_T57 t274 x66_2).f1))) (fun _ hk => hk.1)⟩
                        have n3_ : Aside0 (Kd.R Kd.bool 4 ((w50.setCell ⟨gb291, 0, none⟩ (.int .i64 ((rd_T57 t274 x66_2).f0))).setCell ⟨gb291, 1, none⟩ (.int .i64 ((rd_T57 t274 x66_2).f1))) w.heap.size (fun _ => True) v288 x13_2) := ⟨by (with_reducible repeat (first | apply Kd.R_alloc | apply Kd.R_drewN | apply Kd.R_drew)); exact Kd.R_mono (Kd.R_far (p := ⟨gb291, 1, none⟩) (Kd.R_far (p := ⟨gb291, 0, none⟩) (Kd.R_types HO_13.out BK291.out (by decide)) (fun _ hk => hk.2) (.int .i64 ((rd_T57 t274 x66_2).f0))) (fun _ hk => hk.2) (.int .i64 ((rd_T57 t274 x66_2).f1))) (fun _ hk => trivial)⟩
                        have n4_ : Aside0 (Kd.R k57 57 ((w50.setCell ⟨gb291, 0, none⟩ (.int .i64 ((rd_T57 t274 x66_2).f0))).setCell ⟨gb291, 1, none⟩ (.int .i64 ((rd_T57 t274 x66_2).f1))) w.heap.size (fun k_ => k_ ≠ gb291) (.slice (some ad290) t274.length co9) t274) := ⟨by (with_reducible repeat (first | apply Kd.R_alloc | apply Kd.R_drewN | apply Kd.R_drew)); exact Kd.R_mono (Kd.R_far (p := ⟨gb291, 1, none⟩) (Kd.R_far (p := ⟨gb291, 0, none⟩) (Kd.R_mono HO_64.out (fun k_ hk => (⟨hk, hk.2⟩ : _ ∧ k_ ≠ gb291))) (fun _ hk => hk.2) (.int .i64 ((rd_T57 t274 x66_2).f0))) (fun _ hk => hk.2) (.int .i64 ((rd_T57 t274 x66_2).f1))) (fun _ hk => hk.1.2)⟩
                        have n5_ : Aside0 (((w50.setCell ⟨gb291, 0, none⟩ (.int .i64 ((rd_T57 t274 x66_2).f0))).setCell ⟨gb291, 1, none⟩ (.int .i64 ((rd_T57 t274 x66_2).f1))).heap[gb291]? = some (.cells #[.int .i64 ((rd_T57 t274 x66_2).f0), .int .i64 ((rd_T57 t274 x66_2).f1)] 57 (0, 0))) := ⟨by (with_reducible repeat (first | refine blk_drewN ?_ _ | refine blk_drew ?_ | refine blk_alloc ?_ _)); refine blk_put (cs := #[.int .i64 ((rd_T57 t274 x66_2).f0), .int .i64 0]) ?_ 1 _ rfl; (with_reducible repeat (first | refine blk_drewN ?_ _ | refine blk_drew ?_ | refine blk_alloc ?_ _)); refine blk_put (cs := #[.int .i64 0, .int .i64 0]) ?_ 0 _ rfl; (with_reducible repeat (first | refine blk_drewN ?_ _ | refine blk_drew ?_ | refine blk_alloc ?_ _)); exact BK291.out⟩
                        have n6_ : Aside0 (Below w.heap.size w ((w50.setCell ⟨gb291, 0, none⟩ (.int .i64 ((rd_T57 t274 x66_2).f0))).setCell ⟨gb291, 1, none⟩ (.int .i64 ((rd_T57 t274 x66_2).f1)))) := ⟨by repeat (first | (with_reducible first | exact HB.out | apply below_alloc | apply pw_below_drewN | apply below_drew1 | refine below_set ?_ GE291.out) | exact HB.out)⟩
                        (try clear HO_6)
                        (try clear HO_7)
                        (try clear HO_12)
                        (try clear HO_13)
                        (try clear HO_64)
                        (try clear BK291)
                        (try clear HB)
                        generalize ((w50.setCell ⟨gb291, 0, none⟩ (.int .i64 ((rd_T57 t274 x66_2).f0))).setCell ⟨gb291, 1, none⟩ (.int .i64 ((rd_T57 t274 x66_2).f1))) = w52 at n0_ n1_ n2_ n3_ n4_ n5_ n6_ ⊢
                        have HO_6 := n0_
                        have HO_7 := n1_
                        have HO_12 := n2_
                        have HO_13 := n3_
                        have HO_64 := n4_
                        have BK291 := n5_
                        have HB := n6_
                        clear n0_ n1_ n2_ n3_ n4_ n5_ n6_
                        have n0_ := Aside0.mk (Kd.R_drew HO_6.out)
                        have n1_ := Aside0.mk (Kd.R_drew HO_7.out)
                        have n2_ := Aside0.mk (Kd.R_drew HO_12.out)
                        have n3_ := Aside0.mk (Kd.R_drew HO_13.out)
                        have n4_ := Aside0.mk (Kd.R_drew HO_64.out)
                        have n5_ := Aside0.mk (blk_drew BK291.out)
                        have n6_ := Aside0.mk (below_drew1 HB.out)
                        clear HO_6
                        clear HO_7
                        clear HO_12
                        clear HO_13
                        clear HO_64
                        clear BK291
                        clear HB
                        have HO_6 := n0_
                        have HO_7 := n1_
                        have HO_12 := n2_
                        have HO_13 := n3_
                        have HO_64 := n4_
                        have BK291 := n5_
                        have HB := n6_
                        clear n0_ n1_ n2_ n3_ n4_ n5_ n6_
                        obtain ⟨Ao54, co54, eo54⟩ := Kd.R_slice HO_12.out
                        (first | subst eo54 | (injection eo54 with f1_ f2_ f3_; have f4_ := f1_.symm; have f5_ := f3_.symm; clear f1_ f2_ f3_; subst f4_; subst f5_))
                        have p292 : 0 ≤ (((rd_T57 t274 x66_2).f0) : Int) := of_decide_eq_true (by first | (with_reducible assumption) | assumption)
                        have q292 : ((rd_T57 t274 x66_2).f0) < (x12_2.length : Int) := of_decide_eq_true (by first | (with_reducible assumption) | assumption)
                        obtain ⟨ad292, e292, hx292_0⟩ := Kd.at_int (Kd.R_reads' HO_12.out).2.2 ((rd_T57 t274 x66_2).f0) p292 q292
                        cases e292
                        replace p292 := eq_true p292
                        replace q292 := eq_true q292
                        have p293 : 0 ≤ (((rd_T57 t274 x66_2).f0) : Int) := of_decide_eq_true (by first | (with_reducible assumption) | assumption)
                        have q293 : ((rd_T57 t274 x66_2).f0) < (t275.length : Int) := of_decide_eq_true (by first | (with_reducible assumption) | assumption)
                        obtain ⟨ad293, e293, hx293_0⟩ := Kd.at_int (Kd.R_reads' HO_7.out).2.2 ((rd_T57 t274 x66_2).f0) p293 q293
                        cases e293
                        replace p293 := eq_true p293
                        replace q293 := eq_true q293
                        have p31 : 0 ≤ (x66_2 : Int) := of_decide_eq_true (by first | (with_reducible assumption) | assumption)
                        have q31 : (x66_2 : Int) < ((x13_2.length : Int) : Int) := of_decide_eq_true (by first | (with_reducible assumption) | assumption)
                        obtain ⟨go31, co31, eo31, gb31, gl31, cl31, HG31⟩ := Kd.R_form HO_13.out (by omega)
                        (first | cases eo31 | (injection eo31 with ea_ en_ ec_; (first | subst ea_ | (injection ea_ with ea_; subst ea_)); subst ec_; clear en_))
                        have GB31 := Aside0.mk gb31
                        have GG31 := Aside0.mk HG31
                        clear gb31 gl31 HG31
                        obtain ⟨hx31_0, hf31_0⟩ := Kd.R_celln false HO_13.out (x66_2 : Int) p31 q31
                        replace p31 := eq_true p31
                        replace q31 := eq_true q31
                        have HP55 := Kd.R_putn HO_13.out (x66_2 : Int) (decide ((rd x12_2 ((rd_T57 t274 x66_2).f0)) < (rd t275 ((rd_T57 t274 x66_2).f0))))
                        rw [← Ny294.out] at HP55
                        have HQ55 := Aside0.mk HP55
                        clear HP55
                        refine start_ (n := 15) (S := fun w' => w'.cell? ⟨gb291, 0, none⟩ = some (.int .i64 ((rd_T57 t274 x66_2).f0)) ∧ w'.cell? ⟨gb291, 1, none⟩ = some (.int .i64 ((rd_T57 t274 x66_2).f1)) ∧ w'.cell? (ad292.add (((rd_T57 t274 x66_2).f0)).toNat) = some (.int .i64 (rd x12_2 ((rd_T57 t274 x66_2).f0))) ∧ w'.cell? (ad293.add (((rd_T57 t274 x66_2).f0)).toNat) = some (.int .i64 (rd t275 ((rd_T57 t274 x66_2).f0)))) (ds := [14]) #[false, false, false, false, false, false, false, false, false, false, false, false, false, false, false] (by kernel_rfl) rfl rfl ⟨(blk_cell BK291.out 0).trans rfl, (blk_cell BK291.out 1).trans rfl, hx292_0, hx293_0⟩ (fun hHeld => ?_); refine with_tabW laws_FnCuts.tab16 laws_FnCuts.bits16 (fun HT_ HW_ => ?_)
                        generalize w52.drew = w53 at HO_6 HO_7 HO_12 HO_13 HO_64 BK291 HB GG31 HQ55 hf31_0 hx292_0 hx293_0 hx31_0 hHeld ⊢
                        refine pure_ (i := 0) (N := some 71) (v := ?_) (a' := ?_) #[true, false, false, false, false, false, false, false, false, false, false, false, false, false, false] rfl rfl (any_of HT_.out (by kernel_rfl)) (fun _ _ _ h => h) (Or.inl ⟨by rfl, ?_⟩) ?_ ?_
                        rotate_left
                        ·intro w'
                         go_simp
                         with_reducible rfl
                        rotate_left
                        ·simp only [Act.put, List.setIfInBounds_toArray, List.set_cons_zero, List.set_cons_succ, i64_w, i32_w]
                         rfl
                        refine pure_ (i := 1) (N := some 72) (v := ?_) (a' := ?_) #[true, true, false, false, false, false, false, false, false, false, false, false, false, false, false] rfl rfl (any_of HT_.out (by kernel_rfl)) (fun _ _ _ h => h) (Or.inl ⟨by rfl, ?_⟩) ?_ ?_
                        rotate_left
                        ·intro w'
                         go_simp
                         with_reducible rfl
                        rotate_left
                        ·simp only [Act.put, List.setIfInBounds_toArray, List.set_cons_zero, List.set_cons_succ, i64_w, i32_w]
                         rfl
                        refine pure_ (i := 2) (N := some 73) (v := ?_) (a' := ?_) #[true, true, true, false, false, false, false, false, false, false, false, false, false, false, false] rfl rfl (any_of HT_.out (by kernel_rfl)) (fun _ _ _ h => h) (Or.inl ⟨by rfl, ?_⟩) ?_ ?_
                        rotate_left
                        ·intro w'
                         go_simp
                         with_reducible rfl
                        rotate_left
                        ·simp only [Act.put, List.setIfInBounds_toArray, List.set_cons_zero, List.set_cons_succ, i64_w, i32_w]
                         rfl
                        refine pure_ (i := 3) (N := some 74) (v := ?_) (a' := ?_) #[true, true, true, true, false, false, false, false, false, false, false, false, false, false, false] rfl rfl (any_of HT_.out (by kernel_rfl)) (fun _ _ _ h => h) (Or.inl ⟨by rfl, ?_⟩) ?_ ?_
                        rotate_left
                        ·intro w'
                         go_simp
                         with_reducible rfl
                        rotate_left
                        ·simp only [Act.put, List.setIfInBounds_toArray, List.set_cons_zero, List.set_cons_succ, i64_w, i32_w]
                         rfl
                        refine pure_ (i := 7) (N := some 78) (v := ?_) (a' := ?_) #[true, true, true, true, false, false, false, true, false, false, false, false, false, false, false] rfl rfl (any_of HT_.out (by kernel_rfl)) (fun _ _ _ h => h) (Or.inl ⟨by rfl, ?_⟩) ?_ ?_
                        rotate_left
                        ·intro w'
                         go_simp
                         with_reducible rfl
                        rotate_left
                        ·simp only [Act.put, List.setIfInBounds_toArray, List.set_cons_zero, List.set_cons_succ, i64_w, i32_w]
                         rfl
                        refine pure_ (i := 8) (N := some 79) (v := ?_) (a' := ?_) #[true, true, true, true, false, false, false, true, true, false, false, false, false, false, false] rfl rfl (any_of HT_.out (by kernel_rfl)) (fun _ _ _ h => h) (Or.inl ⟨by rfl, ?_⟩) ?_ ?_
                        rotate_left
                        ·intro w'
                         go_simp
                         with_reducible rfl
                        rotate_left
                        ·simp only [Act.put, List.setIfInBounds_toArray, List.set_cons_zero, List.set_cons_succ, i64_w, i32_w]
                         rfl
                        refine take_ (i := 4) (N := some 75) (v := ?_) (a' := ?_) #[true, true, true, true, true, false, false, true, true, false, false, false, false, false, false] rfl rfl (take_ofW HT_.out HW_.out (by kernel_rfl)) (fun _ _ _ h => h) (Or.inl ⟨by rfl, ?_⟩) hHeld ?_ ?_
                        rotate_left
                        ·rintro w' ⟨s0, s1, s2, s3⟩
                         go_simp
                         with_reducible rfl
                        rotate_left
                        ·simp only [Act.put, List.setIfInBounds_toArray, List.set_cons_zero, List.set_cons_succ, i64_w, i32_w]
                         rfl
                        refine pure_ (i := 5) (N := some 76) (v := ?_) (a' := ?_) #[true, true, true, true, true, true, false, true, true, false, false, false, false, false, false] rfl rfl (any_of HT_.out (by kernel_rfl)) (fun _ _ _ h => h) (Or.inl ⟨by rfl, ?_⟩) ?_ ?_
                        rotate_left
                        ·intro w'
                         go_simp
                         with_reducible rfl
                        rotate_left
                        ·simp only [Act.put, List.setIfInBounds_toArray, List.set_cons_zero, List.set_cons_succ, i64_w, i32_w]
                         rfl
                        refine take_ (i := 6) (N := some 77) (v := ?_) (a' := ?_) #[true, true, true, true, true, true, true, true, true, false, false, false, false, false, false] rfl rfl (take_ofW HT_.out HW_.out (by kernel_rfl)) (fun _ _ _ h => h) (Or.inl ⟨by rfl, ?_⟩) hHeld ?_ ?_
                        rotate_left
                        ·rintro w' ⟨s0, s1, s2, s3⟩
                         go_simp
                         with_reducible rfl
                        rotate_left
                        ·simp only [Act.put, List.setIfInBounds_toArray, List.set_cons_zero, List.set_cons_succ, i64_w, i32_w]
                         rfl
                        refine take_ (i := 9) (N := some 80) (v := ?_) (a' := ?_) #[true, true, true, true, true, true, true, true, true, true, false, false, false, false, false] rfl rfl (take_ofW HT_.out HW_.out (by kernel_rfl)) (fun _ _ _ h => h) (Or.inl ⟨by rfl, ?_⟩) hHeld ?_ ?_
                        rotate_left
                        ·rintro w' ⟨s0, s1, s2, s3⟩
                         go_simp
                         with_reducible rfl
                        rotate_left
                        ·simp only [Act.put, List.setIfInBounds_toArray, List.set_cons_zero, List.set_cons_succ, i64_w, i32_w]
                         rfl
                        refine pure_ (i := 10) (N := some 81) (v := ?_) (a' := ?_) #[true, true, true, true, true, true, true, true, true, true, true, false, false, false, false] rfl rfl (any_of HT_.out (by kernel_rfl)) (fun _ _ _ h => h) (Or.inl ⟨by rfl, ?_⟩) ?_ ?_
                        rotate_left
                        ·intro w'
                         go_simp
                         with_reducible rfl
                        rotate_left
                        ·simp only [Act.put, List.setIfInBounds_toArray, List.set_cons_zero, List.set_cons_succ, i64_w, i32_w]
                         rfl
                        refine take_ (i := 11) (N := some 82) (v := ?_) (a' := ?_) #[true, true, true, true, true, true, true, true, true, true, true, true, false, false, false] rfl rfl (take_ofW HT_.out HW_.out (by kernel_rfl)) (fun _ _ _ h => h) (Or.inl ⟨by rfl, ?_⟩) hHeld ?_ ?_
                        rotate_left
                        ·rintro w' ⟨s0, s1, s2, s3⟩
                         go_simp
                         with_reducible rfl
                        rotate_left
                        ·simp only [Act.put, List.setIfInBounds_toArray, List.set_cons_zero, List.set_cons_succ, i64_w, i32_w]
                         rfl
                        refine pure_ (i := 12) (N := some 83) (v := ?_) (a' := ?_) #[true, true, true, true, true, true, true, true, true, true, true, true, true, false, false] rfl rfl (any_of HT_.out (by kernel_rfl)) (fun _ _ _ h => h) (Or.inl ⟨by rfl, ?_⟩) ?_ ?_
                        rotate_left
                        ·intro w'
                         go_simp
                         with_reducible rfl
                        rotate_left
                        ·simp only [Act.put, List.setIfInBounds_toArray, List.set_cons_zero, List.set_cons_succ, i64_w, i32_w]
                         rfl
                        refine pure_ (i := 13) (N := some 84) (v := ?_) (a' := ?_) #[true, true, true, true, true, true, true, true, true, true, true, true, true, true, false] rfl rfl (any_of HT_.out (by kernel_rfl)) (fun _ _ _ h => h) (Or.inl ⟨by rfl, ?_⟩) ?_ ?_
                        rotate_left
                        ·intro w'
                         go_simp
                         with_reducible rfl
                        rotate_left
                        ·simp only [Act.put, List.setIfInBounds_toArray, List.set_cons_zero, List.set_cons_succ, i64_w, i32_w]
                         rfl
                        refine last_ (i := 14) (N := none) #[true, true, true, true, true, true, true, true, true, true, true, true, true, true, true] rfl rfl (one_of HT_.out (by kernel_rfl)) (by decide) (fun K hK => ?_)
                        refine skip_ (w1 := ?_) (by rfl) rfl ?_ ?_
                        rotate_left
                        ·go_simp
                         rfl
                        refine hK.out _ _ ?_
                        clear hK K
                        refine done_ (done_of HT_.out (by kernel_rfl)) ?_
                        have n0_ : Aside0 (Kd.R k57 57 (w53.setCell ⟨go31, (x66_2 : Int).toNat, none⟩ (.bool (decide ((rd x12_2 ((rd_T57 t274 x66_2).f0)) < (rd t275 ((rd_T57 t274 x66_2).f0)))))) w.heap.size (fun k_ => k_ ≠ gb291) (.slice (some ad290) t274.length co9) t274) := ⟨by (with_reducible repeat (first | apply Kd.R_alloc | apply Kd.R_drewN | apply Kd.R_drew)); exact Kd.R_mono (Kd.R_far (p := ⟨go31, (x66_2 : Int).toNat, none⟩) (Kd.R_types HO_6.out GG31.out (by decide)) (fun _ hk => hk.2) (.bool (decide ((rd x12_2 ((rd_T57 t274 x66_2).f0)) < (rd t275 ((rd_T57 t274 x66_2).f0)))))) (fun _ hk => hk.1)⟩
                        have n1_ : Aside0 (Kd.R (Kd.int .i64) 3 (w53.setCell ⟨go31, (x66_2 : Int).toNat, none⟩ (.bool (decide ((rd x12_2 ((rd_T57 t274 x66_2).f0)) < (rd t275 ((rd_T57 t274 x66_2).f0)))))) w.heap.size (fun k_ => some k_ ≠ (.slice (some ad292) x12_2.length co54 : Value).ownBlock) (.slice (some ad293) t275.length co10) t275) := ⟨by (with_reducible repeat (first | apply Kd.R_alloc | apply Kd.R_drewN | apply Kd.R_drew)); exact Kd.R_mono (Kd.R_far (p := ⟨go31, (x66_2 : Int).toNat, none⟩) (Kd.R_types HO_7.out GG31.out (by decide)) (fun _ hk => hk.2) (.bool (decide ((rd x12_2 ((rd_T57 t274 x66_2).f0)) < (rd t275 ((rd_T57 t274 x66_2).f0)))))) (fun _ hk => hk.1)⟩
                        have n2_ : Aside0 (Kd.R (Kd.int .i64) 3 (w53.setCell ⟨go31, (x66_2 : Int).toNat, none⟩ (.bool (decide ((rd x12_2 ((rd_T57 t274 x66_2).f0)) < (rd t275 ((rd_T57 t274 x66_2).f0)))))) w.heap.size (fun k_ => some k_ ≠ (.slice (some ad293) t275.length co10 : Value).ownBlock) (.slice (some ad292) x12_2.length co54) x12_2) := ⟨by (with_reducible repeat (first | apply Kd.R_alloc | apply Kd.R_drewN | apply Kd.R_drew)); exact Kd.R_mono (Kd.R_far (p := ⟨go31, (x66_2 : Int).toNat, none⟩) (Kd.R_types HO_12.out GG31.out (by decide)) (fun _ hk => hk.2) (.bool (decide ((rd x12_2 ((rd_T57 t274 x66_2).f0)) < (rd t275 ((rd_T57 t274 x66_2).f0)))))) (fun _ hk => hk.1)⟩
                        have n3_ : Aside0 (Kd.R Kd.bool 4 (w53.setCell ⟨go31, (x66_2 : Int).toNat, none⟩ (.bool (decide ((rd x12_2 ((rd_T57 t274 x66_2).f0)) < (rd t275 ((rd_T57 t274 x66_2).f0)))))) w.heap.size (fun _ => True) (.slice (some ⟨go31, 0, none⟩) x13_2.length co31) y294) := ⟨by (with_reducible repeat (first | apply Kd.R_alloc | apply Kd.R_drewN | apply Kd.R_drew)); exact HQ55.out⟩
                        have n4_ : Aside0 (Kd.R k57 57 (w53.setCell ⟨go31, (x66_2 : Int).toNat, none⟩ (.bool (decide ((rd x12_2 ((rd_T57 t274 x66_2).f0)) < (rd t275 ((rd_T57 t274 x66_2).f0)))))) w.heap.size (fun k_ => k_ ≠ gb291) (.slice (some ad290) t274.length co9) t274) := ⟨by (with_reducible repeat (first | apply Kd.R_alloc | apply Kd.R_drewN | apply Kd.R_drew)); exact Kd.R_mono (Kd.R_far (p := ⟨go31, (x66_2 : Int).toNat, none⟩) (Kd.R_types HO_64.out GG31.out (by decide)) (fun _ hk => hk.2) (.bool (decide ((rd x12_2 ((rd_T57 t274 x66_2).f0)) < (rd t275 ((rd_T57 t274 x66_2).f0)))))) (fun _ hk => hk.1)⟩
                        have n5_ : Aside0 ((w53.setCell ⟨go31, (x66_2 : Int).toNat, none⟩ (.bool (decide ((rd x12_2 ((rd_T57 t274 x66_2).f0)) < (rd t275 ((rd_T57 t274 x66_2).f0)))))).heap[gb291]? = some (.cells #[.int .i64 ((rd_T57 t274 x66_2).f0), .int .i64 ((rd_T57 t274 x66_2).f1)] 57 (0, 0))) := ⟨by (with_reducible repeat (first | refine blk_drewN ?_ _ | refine blk_drew ?_ | refine blk_alloc ?_ _)); refine blk_far ?_ (by have h_ := Kd.R_ne HO_13.out BK291.out (by decide); intro e_; exact h_ (by rw [e_]; rfl)) _; (with_reducible repeat (first | refine blk_drewN ?_ _ | refine blk_drew ?_ | refine blk_alloc ?_ _)); exact BK291.out⟩
                        have n6_ : Aside0 (Below w.heap.size w (w53.setCell ⟨go31, (x66_2 : Int).toNat, none⟩ (.bool (decide ((rd x12_2 ((rd_T57 t274 x66_2).f0)) < (rd t275 ((rd_T57 t274 x66_2).f0))))))) := ⟨by repeat (first | (with_reducible first | exact HB.out | apply below_alloc | apply pw_below_drewN | apply below_drew1 | refine below_set ?_ GB31.out | refine below_set ?_ GE291.out) | exact HB.out)⟩
                        (try clear HO_6)
                        (try clear HO_7)
                        (try clear HO_12)
                        (try clear HO_13)
                        (try clear HO_64)
                        (try clear BK291)
                        (try clear HB)
                        generalize (w53.setCell ⟨go31, (x66_2 : Int).toNat, none⟩ (.bool (decide ((rd x12_2 ((rd_T57 t274 x66_2).f0)) < (rd t275 ((rd_T57 t274 x66_2).f0)))))) = w56 at n0_ n1_ n2_ n3_ n4_ n5_ n6_ ⊢
                        have HO_6 := n0_
                        have HO_7 := n1_
                        have HO_12 := n2_
                        have HO_13 := n3_
                        have HO_64 := n4_
                        have BK291 := n5_
                        have HB := n6_
                        clear n0_ n1_ n2_ n3_ n4_ n5_ n6_
                        have hcz57_0 : w56.cell? ⟨gb291, 0, none⟩ = some (.int .i64 ((rd_T57 t274 x66_2).f0)) := (blk_cell BK291.out 0).trans rfl
                        have hcz57_1 : w56.cell? ⟨gb291, 1, none⟩ = some (.int .i64 ((rd_T57 t274 x66_2).f1)) := (blk_cell BK291.out 1).trans rfl
                        have hfz57_0 := blk_frozen BK291.out 0
                        have hfz57_1 := blk_frozen BK291.out 1
                        have p295 : 0 ≤ (((rd_T57 t274 x66_2).f0) : Int) := of_decide_eq_true (by first | (with_reducible assumption) | assumption)
                        have q295 : ((rd_T57 t274 x66_2).f0) < (x12_2.length : Int) := of_decide_eq_true (by first | (with_reducible assumption) | assumption)
                        obtain ⟨ad295, e295, hx295_0⟩ := Kd.at_int (Kd.R_reads' HO_12.out).2.2 ((rd_T57 t274 x66_2).f0) p295 q295
                        obtain rfl : ad292 = ad295 := (by injection e295)
                        replace p295 := eq_true p295
                        replace q295 := eq_true q295
                        have p32 : 0 ≤ (((rd_T57 t274 x66_2).f0) : Int) := of_decide_eq_true (by first | (with_reducible assumption) | assumption)
                        have q32 : (((rd_T57 t274 x66_2).f0) : Int) < ((x12_2.length : Int) : Int) := of_decide_eq_true (by first | (with_reducible assumption) | assumption)
                        obtain ⟨go32, co32, eo32, gb32, gl32, cl32, HG32⟩ := Kd.R_form HO_12.out (by omega)
                        (first | cases eo32 | (injection eo32 with ea_ en_ ec_; (first | subst ea_ | (injection ea_ with ea_; subst ea_)); subst ec_; clear en_))
                        have GB32 := Aside0.mk gb32
                        have GG32 := Aside0.mk HG32
                        clear gb32 gl32 HG32
                        (first | simp only [add_plain] at hx292_0 | skip)
                        (first | simp only [add_plain] at hx295_0 | skip)
                        obtain ⟨hx32_0, hf32_0⟩ := Kd.R_celln 0 HO_12.out (((rd_T57 t274 x66_2).f0) : Int) p32 q32
                        replace p32 := eq_true p32
                        replace q32 := eq_true q32
                        obtain ⟨hy58_, hz58_⟩ := Kd.R_celln 0 HO_12.out (((rd_T57 t274 x66_2).f0) : Int) (of_decide_eq_true (by first | (with_reducible assumption) | assumption)) (of_decide_eq_true (by first | (with_reducible assumption) | assumption))
                        have HP58 := Kd.R_putg HO_12.out (((rd_T57 t274 x66_2).f0) : Int) (wrap64 ((rd x12_2 ((rd_T57 t274 x66_2).f0)) + 1))
                        try go_wp2_with (first | ((with_reducible refine gate_store (t := 3) (p := 91) rfl ?_); refine store_event (t := 3) (p := 91) (v := ?vo_w59) (w1 := (w56.setCell ⟨go32, (((rd_T57 t274 x66_2).f0) : Int).toNat, none⟩ (.int .i64 (wrap64 ((rd x12_2 ((rd_T57 t274 x66_2).f0)) + 1))))) ?hg ?ho ?hn ?hr ?_; (case ho => rfl); (case hg => rfl); (case hn => rfl); (case hr => first | (go_simp; done) | (go_simp; rfl)); intro w59 hw; have hg : w56.grownBy w59 (some go32) := (by rw [hw]; exact HP58.2); have hp_ : Kd.R (Kd.int .i64) 3 w59 w.heap.size (fun k_ => some k_ ≠ (.slice (some ad293) t275.length co10 : Value).ownBlock) (.slice (some ⟨go32, 0, none⟩) x12_2.length co54) y296 := (by rw [hw, Ny296.out]; exact HP58.1); clear HP58; have n0_ := Aside0.mk (Kd.R_over' (v := (.slice (some ⟨go32, 0, none⟩) x12_2.length co54)) (by (with_reducible repeat (first | apply Kd.R_alloc | apply Kd.R_drewN | apply Kd.R_drew)); exact HO_6.out) (Kd.R_typed HO_12.out) (by decide) hg); have n1_ := Aside0.mk (Kd.R_after (v := (.slice (some ⟨go32, 0, none⟩) x12_2.length co54)) (v1 := (.slice (some ⟨go32, 0, none⟩) x12_2.length co54)) (ok := (fun _ => True)) (by (with_reducible repeat (first | apply Kd.R_alloc | apply Kd.R_drewN | apply Kd.R_drew)); exact Kd.R_mono HO_7.out (fun _ hk => ⟨trivial, hk⟩)) hg (.inl rfl)); have n2_ := Aside0.mk (hp_); have n3_ := Aside0.mk (Kd.R_over' (v := (.slice (some ⟨go32, 0, none⟩) x12_2.length co54)) (by (with_reducible repeat (first | apply Kd.R_alloc | apply Kd.R_drewN | apply Kd.R_drew)); exact HO_13.out) (Kd.R_typed HO_12.out) (by decide) hg); have n4_ := Aside0.mk (Kd.R_over' (v := (.slice (some ⟨go32, 0, none⟩) x12_2.length co54)) (by (with_reducible repeat (first | apply Kd.R_alloc | apply Kd.R_drewN | apply Kd.R_drew)); exact HO_64.out) (Kd.R_typed HO_12.out) (by decide) hg); have n5_ := Aside0.mk (blk_grown (g := gb291) (o := .cells #[.int .i64 ((rd_T57 t274 x66_2).f0), .int .i64 ((rd_T57 t274 x66_2).f1)] 57 (0, 0)) (by (with_reducible repeat (first | refine blk_drewN ?_ _ | refine blk_drew ?_ | refine blk_alloc ?_ _)); exact BK291.out) hg (Kd.R_ne HO_12.out BK291.out (by decide))); have n6_ := Aside0.mk ((by rw [hw]; exact below_set (HB.out) GB32.out : Below w.heap.size w w59)); clear HO_6; clear HO_7; clear HO_12; clear HO_13; clear HO_64; clear BK291; clear HB; have HO_6 := n0_; have HO_7 := n1_; have HO_12 := n2_; have HO_13 := n3_; have HO_64 := n4_; have BK291 := n5_; have HB := n6_; clear n0_ n1_ n2_ n3_ n4_ n5_ n6_; clear hg hw hp_; have p297 : 0 ≤ (x66_2 : Int) := of_decide_eq_true (by first | (with_reducible assumption) | assumption); have q297 : x66_2 < (y294.length : Int) := (by have h_ : (x66_2 : Int) < ((x13_2.length : Int) : Int) := of_decide_eq_true (by first | (with_reducible assumption) | assumption); first | (have e_ := (Kd.R_reads' HO_13.out).1; omega) | simpa only [Ny294.out, List.length_set] using h_); have ql297 : ((x66_2 : Int) < ((x13_2.length : Int) : Int)) = True := eq_true (of_decide_eq_true (by first | (with_reducible assumption) | assumption)); obtain ⟨ad297, e297, hx297_0⟩ := Kd.at_bool (Kd.R_reads' HO_13.out).2.2 x66_2 p297 q297; (try rw [← Nbq34.out] at hx297_0); obtain rfl : (⟨go31, 0, none⟩ : Addr) = ad297 := (by injection e297); (first | simp only [add_plain] at hx297_0 | simp only [add_at] at hx297_0 | simp only [Addr.add, Nat.zero_add] at hx297_0 | skip); replace p297 := eq_true p297; replace q297 := eq_true q297; have hcz60_0 : w59.cell? ⟨gb291, 0, none⟩ = some (.int .i64 ((rd_T57 t274 x66_2).f0)) := (blk_cell BK291.out 0).trans rfl; have hcz60_1 : w59.cell? ⟨gb291, 1, none⟩ = some (.int .i64 ((rd_T57 t274 x66_2).f1)) := (blk_cell BK291.out 1).trans rfl; have hfz60_0 := blk_frozen BK291.out 0; have hfz60_1 := blk_frozen BK291.out 1; have p298 : 0 ≤ (((rd_T57 t274 x66_2).f1) : Int) := of_decide_eq_true (by first | (with_reducible assumption) | assumption); have q298 : ((rd_T57 t274 x66_2).f1) < (y294.length : Int) := (by have h_ : (((rd_T57 t274 x66_2).f1) : Int) < ((x13_2.length : Int) : Int) := of_decide_eq_true (by first | (with_reducible assumption) | assumption); first | (have e_ := (Kd.R_reads' HO_13.out).1; omega) | simpa only [Ny294.out, List.length_set] using h_); have ql298 : ((((rd_T57 t274 x66_2).f1) : Int) < ((x13_2.length : Int) : Int)) = True := eq_true (of_decide_eq_true (by first | (with_reducible assumption) | assumption)); obtain ⟨ad298, e298, hx298_0⟩ := Kd.at_bool (Kd.R_reads' HO_13.out).2.2 ((rd_T57 t274 x66_2).f1) p298 q298; (try rw [← Nbq34.out] at hx298_0); obtain rfl : (⟨go31, 0, none⟩ : Addr) = ad298 := (by injection e298); (first | simp only [add_plain] at hx298_0 | simp only [add_at] at hx298_0 | simp only [Addr.add, Nat.zero_add] at hx298_0 | skip); replace p298 := eq_true p298; replace q298 := eq_true q298))
                        go_roundg k2
                        case measure => have := HJ6.out; have := HK2.out; omega
                        case rel => exact ⟨(y296), (y294), (rdOf false y294 ((rd_T57 t274 x66_2).f1)), (wrap64 (x66_2 + 1)), (by first | rfl | (simp; done) | (simp [*]; done)), (by first | rfl | (simp; done) | (simp [*]; done)), H', ⟨by have := HJ6.out; have := HK2.out; omega⟩, ⟨by (with_reducible repeat (first | apply Kd.R_alloc | apply Kd.R_drewN | apply Kd.R_drew)); exact Kd.R_mono HO_6.out (fun _ hk => trivial)⟩, ⟨by (with_reducible repeat (first | apply Kd.R_alloc | apply Kd.R_drewN | apply Kd.R_drew)); exact Kd.R_mono HO_7.out (fun _ hk => hk.2)⟩, ⟨by (with_reducible repeat (first | apply Kd.R_alloc | apply Kd.R_drewN | apply Kd.R_drew)); exact HO_12.out⟩, ⟨by (with_reducible repeat (first | apply Kd.R_alloc | apply Kd.R_drewN | apply Kd.R_drew)); exact HO_13.out⟩, ⟨by (with_reducible repeat (first | apply Kd.R_alloc | apply Kd.R_drewN | apply Kd.R_drew)); exact Kd.R_mono HO_64.out (fun _ hk => trivial)⟩, ⟨by repeat (first | (with_reducible first | exact HB.out | apply below_alloc | apply pw_below_drewN | apply below_drew1 | refine below_set ?_ GE291.out) | exact HB.out)⟩⟩
                       ·rw [if_neg c49] at H
                        exact absurd H (by simp)
                      ·rw [if_neg c48] at H
                       exact absurd H (by simp)
                    ·replace c35 := Bool.eq_false_iff.mpr c35
                     subst c35
                     have H1 : (laws_FnCuts.l0 k2 l1 t273 t274 t275 t280 y296 y294 true t274 (t274.length : Int) (wrap64 (x66_2 + 1))) = some r := by rw [if_neg (show ¬ (false = true) by decide)] at H; exact H
                     clear H
                     have H := H1
                     clear H1
                     have H' := Aside0.mk H
                     clear H
                     have p290 : 0 ≤ (x66_2 : Int) := of_decide_eq_true (by first | (with_reducible assumption) | assumption)
                     have q290 : x66_2 < (t274.length : Int) := of_decide_eq_true (by first | (with_reducible assumption) | assumption)
                     obtain ⟨ad290, e290, hx290_0, hx290_1⟩ := at_T57 (Kd.R_reads' HO_64.out).2.2 x66_2 p290 q290
                     cases e290
                     replace p290 := eq_true p290
                     replace q290 := eq_true q290
                     try go_wp2_with (first | ((with_reducible refine gate_dst (N := 16) rfl ?_); refine box_event ?hg (N := 16) ?hd (cs := #[.int .i64 0, .int .i64 0]) (t := 57) ?hr ?_; (case hd => rfl); (case hg => rfl); (case hr => first | (go_simp; done) | (go_simp; rfl)); intro gb291 hg w61 hbox hb; have n0_ := Aside0.mk (Kd.R_below (Kd.R_elderB (by (with_reducible repeat (first | apply Kd.R_alloc | apply Kd.R_drewN | apply Kd.R_drew)); exact HO_6.out) gb291 (Nat.le_of_eq hg.symm)) hb); have n1_ := Aside0.mk (Kd.R_below (by (with_reducible repeat (first | apply Kd.R_alloc | apply Kd.R_drewN | apply Kd.R_drew)); exact HO_7.out) hb); have n2_ := Aside0.mk (Kd.R_below (by (with_reducible repeat (first | apply Kd.R_alloc | apply Kd.R_drewN | apply Kd.R_drew)); exact HO_12.out) hb); have n3_ := Aside0.mk (Kd.R_below (by (with_reducible repeat (first | apply Kd.R_alloc | apply Kd.R_drewN | apply Kd.R_drew)); exact HO_13.out) hb); have n4_ := Aside0.mk (Kd.R_below (Kd.R_elderB (by (with_reducible repeat (first | apply Kd.R_alloc | apply Kd.R_drewN | apply Kd.R_drew)); exact HO_64.out) gb291 (Nat.le_of_eq hg.symm)) hb); have n5_ := Aside0.mk (below_step (by repeat (first | (with_reducible first | exact HB.out | apply below_alloc | apply pw_below_drewN | apply below_drew1) | exact HB.out)) hb); have n6_ := Aside0.mk (hbox); have n7_ := Aside0.mk ((by rw [hg]; exact (below_size (by repeat (first | (with_reducible first | exact HB.out | apply below_alloc | apply pw_below_drewN | apply below_drew1) | exact HB.out))) : w.heap.size ≤ gb291)); have n8_ := Aside0.mk ((by rw [hg]; exact (below_size (by repeat (first | (with_reducible first | exact HB.out | apply below_alloc | apply pw_below_drewN | apply below_drew1) | exact HB.out))) : w.heap.size ≤ gb291)); clear HO_6; clear HO_7; clear HO_12; clear HO_13; clear HO_64; clear HB; have HO_6 := n0_; have HO_7 := n1_; have HO_12 := n2_; have HO_13 := n3_; have HO_64 := n4_; have HB := n5_; have BK291 := n6_; have GW291 := n7_; have GE291 := n8_; clear n0_ n1_ n2_ n3_ n4_ n5_ n6_ n7_ n8_; clear hb hbox hg; have hcz62_0 : w61.cell? ⟨gb291, 0, none⟩ = some (.int .i64 0) := (blk_cell BK291.out 0).trans rfl; have hcz62_1 : w61.cell? ⟨gb291, 1, none⟩ = some (.int .i64 0) := (blk_cell BK291.out 1).trans rfl; have hfz62_0 := blk_frozen BK291.out 0; have hfz62_1 := blk_frozen BK291.out 1))
                     have n0_ : Aside0 (Kd.R k57 57 ((w61.setCell ⟨gb291, 0, none⟩ (.int .i64 ((rd_T57 t274 x66_2).f0))).setCell ⟨gb291, 1, none⟩ (.int .i64 ((rd_T57 t274 x66_2).f1))) w.heap.size (fun k_ => k_ ≠ gb291) (.slice (some ad290) t274.length co9) t274) := ⟨by (with_reducible repeat (first | apply Kd.R_alloc | apply Kd.R_drewN | apply Kd.R_drew)); exact Kd.R_mono (Kd.R_far (p := ⟨gb291, 1, none⟩) (Kd.R_far (p := ⟨gb291, 0, none⟩) (Kd.R_mono HO_6.out (fun k_ hk => (⟨hk, hk.2⟩ : _ ∧ k_ ≠ gb291))) (fun _ hk => hk.2) (.int .i64 ((rd_T57 t274 x66_2).f0))) (fun _ hk => hk.2) (.int .i64 ((rd_T57 t274 x66_2).f1))) (fun _ hk => hk.1.2)⟩
                     have n1_ : Aside0 (Kd.R (Kd.int .i64) 3 ((w61.setCell ⟨gb291, 0, none⟩ (.int .i64 ((rd_T57 t274 x66_2).f0))).setCell ⟨gb291, 1, none⟩ (.int .i64 ((rd_T57 t274 x66_2).f1))) w.heap.size (fun k_ => some k_ ≠ (v285 : Value).ownBlock) (.slice Ao10 t275.length co10) t275) := ⟨by (with_reducible repeat (first | apply Kd.R_alloc | apply Kd.R_drewN | apply Kd.R_drew)); exact Kd.R_mono (Kd.R_far (p := ⟨gb291, 1, none⟩) (Kd.R_far (p := ⟨gb291, 0, none⟩) (Kd.R_types HO_7.out BK291.out (by decide)) (fun _ hk => hk.2) (.int .i64 ((rd_T57 t274 x66_2).f0))) (fun _ hk => hk.2) (.int .i64 ((rd_T57 t274 x66_2).f1))) (fun _ hk => hk.1)⟩
                     have n2_ : Aside0 (Kd.R (Kd.int .i64) 3 ((w61.setCell ⟨gb291, 0, none⟩ (.int .i64 ((rd_T57 t274 x66_2).f0))).setCell ⟨gb291, 1, none⟩ (.int .i64 ((rd_T57 t274 x66_2).f1))) w.heap.size (fun k_ => some k_ ≠ (.slice Ao10 t275.length co10 : Value).ownBlock) v285 x12_2) := ⟨by (with_reducible repeat (first | apply Kd.R_alloc | apply Kd.R_drewN | apply Kd.R_drew)); exact Kd.R_mono (Kd.R_far (p := ⟨gb291, 1, none⟩) (Kd.R_far (p := ⟨gb291, 0, none⟩) (Kd.R_types HO_12.out BK291.out (by decide)) (fun _ hk => hk.2) (.int .i64 ((rd_T57 t274 x66_2).f0))) (fun _ hk => hk.2) (.int .i64 ((rd_T57 t274 x66_2).f1))) (fun _ hk => hk.1)⟩
                     have n3_ : Aside0 (Kd.R Kd.bool 4 ((w61.setCell ⟨gb291, 0, none⟩ (.int .i64 ((rd_T57 t274 x66_2).f0))).setCell ⟨gb291, 1, none⟩ (.int .i64 ((rd_T57 t274 x66_2).f1))) w.heap.size (fun _ => True) v288 x13_2) := ⟨by (with_reducible repeat (first | apply Kd.R_alloc | apply Kd.R_drewN | apply Kd.R_drew)); exact Kd.R_mono (Kd.R_far (p := ⟨gb291, 1, none⟩) (Kd.R_far (p := ⟨gb291, 0, none⟩) (Kd.R_types HO_13.out BK291.out (by decide)) (fun _ hk => hk.2) (.int .i64 ((rd_T57 t274 x66_2).f0))) (fun _ hk => hk.2) (.int .i64 ((rd_T57 t274 x66_2).f1))) (fun _ hk => trivial)⟩
                     have n4_ : Aside0 (Kd.R k57 57 ((w61.setCell ⟨gb291, 0, none⟩ (.int .i64 ((rd_T57 t274 x66_2).f0))).setCell ⟨gb291, 1, none⟩ (.int .i64 ((rd_T57 t274 x66_2).f1))) w.heap.size (fun k_ => k_ ≠ gb291) (.slice (some ad290) t274.length co9) t274) := ⟨by (with_reducible repeat (first | apply Kd.R_alloc | apply Kd.R_drewN | apply Kd.R_drew)); exact Kd.R_mono (Kd.R_far (p := ⟨gb291, 1, none⟩) (Kd.R_far (p := ⟨gb291, 0, none⟩) (Kd.R_mono HO_64.out (fun k_ hk => (⟨hk, hk.2⟩ : _ ∧ k_ ≠ gb291))) (fun _ hk => hk.2) (.int .i64 ((rd_T57 t274 x66_2).f0))) (fun _ hk => hk.2) (.int .i64 ((rd_T57 t274 x66_2).f1))) (fun _ hk => hk.1.2)⟩
                     have n5_ : Aside0 (((w61.setCell ⟨gb291, 0, none⟩ (.int .i64 ((rd_T57 t274 x66_2).f0))).setCell ⟨gb291, 1, none⟩ (.int .i64 ((rd_T57 t274 x66_2).f1))).heap[gb291]? = some (.cells #[.int .i64 ((rd_T57 t274 x66_2).f0), .int .i64 ((rd_T57 t274 x66_2).f1)] 57 (0, 0))) := ⟨by (with_reducible repeat (first | refine blk_drewN ?_ _ | refine blk_drew ?_ | refine blk_alloc ?_ _)); refine blk_put (cs := #[.int .i64 ((rd_T57 t274 x66_2).f0), .int .i64 0]) ?_ 1 _ rfl; (with_reducible repeat (first | refine blk_drewN ?_ _ | refine blk_drew ?_ | refine blk_alloc ?_ _)); refine blk_put (cs := #[.int .i64 0, .int .i64 0]) ?_ 0 _ rfl; (with_reducible repeat (first | refine blk_drewN ?_ _ | refine blk_drew ?_ | refine blk_alloc ?_ _)); exact BK291.out⟩
                     have n6_ : Aside0 (Below w.heap.size w ((w61.setCell ⟨gb291, 0, none⟩ (.int .i64 ((rd_T57 t274 x66_2).f0))).setCell ⟨gb291, 1, none⟩ (.int .i64 ((rd_T57 t274 x66_2).f1)))) := ⟨by repeat (first | (with_reducible first | exact HB.out | apply below_alloc | apply pw_below_drewN | apply below_drew1 | refine below_set ?_ GE291.out) | exact HB.out)⟩
                     (try clear HO_6)
                     (try clear HO_7)
                     (try clear HO_12)
                     (try clear HO_13)
                     (try clear HO_64)
                     (try clear BK291)
                     (try clear HB)
                     generalize ((w61.setCell ⟨gb291, 0, none⟩ (.int .i64 ((rd_T57 t274 x66_2).f0))).setCell ⟨gb291, 1, none⟩ (.int .i64 ((rd_T57 t274 x66_2).f1))) = w63 at n0_ n1_ n2_ n3_ n4_ n5_ n6_ ⊢
                     have HO_6 := n0_
                     have HO_7 := n1_
                     have HO_12 := n2_
                     have HO_13 := n3_
                     have HO_64 := n4_
                     have BK291 := n5_
                     have HB := n6_
                     clear n0_ n1_ n2_ n3_ n4_ n5_ n6_
                     have n0_ := Aside0.mk (Kd.R_drew HO_6.out)
                     have n1_ := Aside0.mk (Kd.R_drew HO_7.out)
                     have n2_ := Aside0.mk (Kd.R_drew HO_12.out)
                     have n3_ := Aside0.mk (Kd.R_drew HO_13.out)
                     have n4_ := Aside0.mk (Kd.R_drew HO_64.out)
                     have n5_ := Aside0.mk (blk_drew BK291.out)
                     have n6_ := Aside0.mk (below_drew1 HB.out)
                     clear HO_6
                     clear HO_7
                     clear HO_12
                     clear HO_13
                     clear HO_64
                     clear BK291
                     clear HB
                     have HO_6 := n0_
                     have HO_7 := n1_
                     have HO_12 := n2_
                     have HO_13 := n3_
                     have HO_64 := n4_
                     have BK291 := n5_
                     have HB := n6_
                     clear n0_ n1_ n2_ n3_ n4_ n5_ n6_
                     obtain ⟨Ao65, co65, eo65⟩ := Kd.R_slice HO_12.out
                     (first | subst eo65 | (injection eo65 with f1_ f2_ f3_; have f4_ := f1_.symm; have f5_ := f3_.symm; clear f1_ f2_ f3_; subst f4_; subst f5_))
                     have p292 : 0 ≤ (((rd_T57 t274 x66_2).f0) : Int) := of_decide_eq_true (by first | (with_reducible assumption) | assumption)
                     have q292 : ((rd_T57 t274 x66_2).f0) < (x12_2.length : Int) := of_decide_eq_true (by first | (with_reducible assumption) | assumption)
                     obtain ⟨ad292, e292, hx292_0⟩ := Kd.at_int (Kd.R_reads' HO_12.out).2.2 ((rd_T57 t274 x66_2).f0) p292 q292
                     cases e292
                     replace p292 := eq_true p292
                     replace q292 := eq_true q292
                     have p293 : 0 ≤ (((rd_T57 t274 x66_2).f0) : Int) := of_decide_eq_true (by first | (with_reducible assumption) | assumption)
                     have q293 : ((rd_T57 t274 x66_2).f0) < (t275.length : Int) := of_decide_eq_true (by first | (with_reducible assumption) | assumption)
                     obtain ⟨ad293, e293, hx293_0⟩ := Kd.at_int (Kd.R_reads' HO_7.out).2.2 ((rd_T57 t274 x66_2).f0) p293 q293
                     cases e293
                     replace p293 := eq_true p293
                     replace q293 := eq_true q293
                     have p31 : 0 ≤ (x66_2 : Int) := of_decide_eq_true (by first | (with_reducible assumption) | assumption)
                     have q31 : (x66_2 : Int) < ((x13_2.length : Int) : Int) := of_decide_eq_true (by first | (with_reducible assumption) | assumption)
                     obtain ⟨go31, co31, eo31, gb31, gl31, cl31, HG31⟩ := Kd.R_form HO_13.out (by omega)
                     (first | cases eo31 | (injection eo31 with ea_ en_ ec_; (first | subst ea_ | (injection ea_ with ea_; subst ea_)); subst ec_; clear en_))
                     have GB31 := Aside0.mk gb31
                     have GG31 := Aside0.mk HG31
                     clear gb31 gl31 HG31
                     obtain ⟨hx31_0, hf31_0⟩ := Kd.R_celln false HO_13.out (x66_2 : Int) p31 q31
                     replace p31 := eq_true p31
                     replace q31 := eq_true q31
                     have HP66 := Kd.R_putn HO_13.out (x66_2 : Int) (decide ((rd x12_2 ((rd_T57 t274 x66_2).f0)) < (rd t275 ((rd_T57 t274 x66_2).f0))))
                     rw [← Ny294.out] at HP66
                     have HQ66 := Aside0.mk HP66
                     clear HP66
                     refine start_ (n := 15) (S := fun w' => w'.cell? ⟨gb291, 0, none⟩ = some (.int .i64 ((rd_T57 t274 x66_2).f0)) ∧ w'.cell? ⟨gb291, 1, none⟩ = some (.int .i64 ((rd_T57 t274 x66_2).f1)) ∧ w'.cell? (ad292.add (((rd_T57 t274 x66_2).f0)).toNat) = some (.int .i64 (rd x12_2 ((rd_T57 t274 x66_2).f0))) ∧ w'.cell? (ad293.add (((rd_T57 t274 x66_2).f0)).toNat) = some (.int .i64 (rd t275 ((rd_T57 t274 x66_2).f0)))) (ds := [14]) #[false, false, false, false, false, false, false, false, false, false, false, false, false, false, false] (by kernel_rfl) rfl rfl ⟨(blk_cell BK291.out 0).trans rfl, (blk_cell BK291.out 1).trans rfl, hx292_0, hx293_0⟩ (fun hHeld => ?_); refine with_tabW laws_FnCuts.tab16 laws_FnCuts.bits16 (fun HT_ HW_ => ?_)
                     generalize w63.drew = w64 at HO_6 HO_7 HO_12 HO_13 HO_64 BK291 HB GG31 HQ66 hf31_0 hx292_0 hx293_0 hx31_0 hHeld ⊢
                     refine pure_ (i := 0) (N := some 71) (v := ?_) (a' := ?_) #[true, false, false, false, false, false, false, false, false, false, false, false, false, false, false] rfl rfl (any_of HT_.out (by kernel_rfl)) (fun _ _ _ h => h) (Or.inl ⟨by rfl, ?_⟩) ?_ ?_
                     rotate_left
                     ·intro w'
                      go_simp
                      with_reducible rfl
                     rotate_left
                     ·simp only [Act.put, List.setIfInBounds_toArray, List.set_cons_zero, List.set_cons_succ, i64_w, i32_w]
                      rfl
                     refine pure_ (i := 1) (N := some 72) (v := ?_) (a' := ?_) #[true, true, false, false, false, false, false, false, false, false, false, false, false, false, false] rfl rfl (any_of HT_.out (by kernel_rfl)) (fun _ _ _ h => h) (Or.inl ⟨by rfl, ?_⟩) ?_ ?_
                     rotate_left
                     ·intro w'
                      go_simp
                      with_reducible rfl
                     rotate_left
                     ·simp only [Act.put, List.setIfInBounds_toArray, List.set_cons_zero, List.set_cons_succ, i64_w, i32_w]
                      rfl
                     refine pure_ (i := 2) (N := some 73) (v := ?_) (a' := ?_) #[true, true, true, false, false, false, false, false, false, false, false, false, false, false, false] rfl rfl (any_of HT_.out (by kernel_rfl)) (fun _ _ _ h => h) (Or.inl ⟨by rfl, ?_⟩) ?_ ?_
                     rotate_left
                     ·intro w'
                      go_simp
                      with_reducible rfl
                     rotate_left
                     ·simp only [Act.put, List.setIfInBounds_toArray, List.set_cons_zero, List.set_cons_succ, i64_w, i32_w]
                      rfl
                     refine pure_ (i := 3) (N := some 74) (v := ?_) (a' := ?_) #[true, true, true, true, false, false, false, false, false, false, false, false, false, false, false] rfl rfl (any_of HT_.out (by kernel_rfl)) (fun _ _ _ h => h) (Or.inl ⟨by rfl, ?_⟩) ?_ ?_
                     rotate_left
                     ·intro w'
                      go_simp
                      with_reducible rfl
                     rotate_left
                     ·simp only [Act.put, List.setIfInBounds_toArray, List.set_cons_zero, List.set_cons_succ, i64_w, i32_w]
                      rfl
                     refine pure_ (i := 7) (N := some 78) (v := ?_) (a' := ?_) #[true, true, true, true, false, false, false, true, false, false, false, false, false, false, false] rfl rfl (any_of HT_.out (by kernel_rfl)) (fun _ _ _ h => h) (Or.inl ⟨by rfl, ?_⟩) ?_ ?_
                     rotate_left
                     ·intro w'
                      go_simp
                      with_reducible rfl
                     rotate_left
                     ·simp only [Act.put, List.setIfInBounds_toArray, List.set_cons_zero, List.set_cons_succ, i64_w, i32_w]
                      rfl
                     refine pure_ (i := 8) (N := some 79) (v := ?_) (a' := ?_) #[true, true, true, true, false, false, false, true, true, false, false, false, false, false, false] rfl rfl (any_of HT_.out (by kernel_rfl)) (fun _ _ _ h => h) (Or.inl ⟨by rfl, ?_⟩) ?_ ?_
                     rotate_left
                     ·intro w'
                      go_simp
                      with_reducible rfl
                     rotate_left
                     ·simp only [Act.put, List.setIfInBounds_toArray, List.set_cons_zero, List.set_cons_succ, i64_w, i32_w]
                      rfl
                     refine take_ (i := 4) (N := some 75) (v := ?_) (a' := ?_) #[true, true, true, true, true, false, false, true, true, false, false, false, false, false, false] rfl rfl (take_ofW HT_.out HW_.out (by kernel_rfl)) (fun _ _ _ h => h) (Or.inl ⟨by rfl, ?_⟩) hHeld ?_ ?_
                     rotate_left
                     ·rintro w' ⟨s0, s1, s2, s3⟩
                      go_simp
                      with_reducible rfl
                     rotate_left
                     ·simp only [Act.put, List.setIfInBounds_toArray, List.set_cons_zero, List.set_cons_succ, i64_w, i32_w]
                      rfl
                     refine pure_ (i := 5) (N := some 76) (v := ?_) (a' := ?_) #[true, true, true, true, true, true, false, true, true, false, false, false, false, false, false] rfl rfl (any_of HT_.out (by kernel_rfl)) (fun _ _ _ h => h) (Or.inl ⟨by rfl, ?_⟩) ?_ ?_
                     rotate_left
                     ·intro w'
                      go_simp
                      with_reducible rfl
                     rotate_left
                     ·simp only [Act.put, List.setIfInBounds_toArray, List.set_cons_zero, List.set_cons_succ, i64_w, i32_w]
                      rfl
                     refine take_ (i := 6) (N := some 77) (v := ?_) (a' := ?_) #[true, true, true, true, true, true, true, true, true, false, false, false, false, false, false] rfl rfl (take_ofW HT_.out HW_.out (by kernel_rfl)) (fun _ _ _ h => h) (Or.inl ⟨by rfl, ?_⟩) hHeld ?_ ?_
                     rotate_left
                     ·rintro w' ⟨s0, s1, s2, s3⟩
                      go_simp
                      with_reducible rfl
                     rotate_left
                     ·simp only [Act.put, List.setIfInBounds_toArray, List.set_cons_zero, List.set_cons_succ, i64_w, i32_w]
                      rfl
                     refine take_ (i := 9) (N := some 80) (v := ?_) (a' := ?_) #[true, true, true, true, true, true, true, true, true, true, false, false, false, false, false] rfl rfl (take_ofW HT_.out HW_.out (by kernel_rfl)) (fun _ _ _ h => h) (Or.inl ⟨by rfl, ?_⟩) hHeld ?_ ?_
                     rotate_left
                     ·rintro w' ⟨s0, s1, s2, s3⟩
                      go_simp
                      with_reducible rfl
                     rotate_left
                     ·simp only [Act.put, List.setIfInBounds_toArray, List.set_cons_zero, List.set_cons_succ, i64_w, i32_w]
                      rfl
                     refine pure_ (i := 10) (N := some 81) (v := ?_) (a' := ?_) #[true, true, true, true, true, true, true, true, true, true, true, false, false, false, false] rfl rfl (any_of HT_.out (by kernel_rfl)) (fun _ _ _ h => h) (Or.inl ⟨by rfl, ?_⟩) ?_ ?_
                     rotate_left
                     ·intro w'
                      go_simp
                      with_reducible rfl
                     rotate_left
                     ·simp only [Act.put, List.setIfInBounds_toArray, List.set_cons_zero, List.set_cons_succ, i64_w, i32_w]
                      rfl
                     refine take_ (i := 11) (N := some 82) (v := ?_) (a' := ?_) #[true, true, true, true, true, true, true, true, true, true, true, true, false, false, false] rfl rfl (take_ofW HT_.out HW_.out (by kernel_rfl)) (fun _ _ _ h => h) (Or.inl ⟨by rfl, ?_⟩) hHeld ?_ ?_
                     rotate_left
                     ·rintro w' ⟨s0, s1, s2, s3⟩
                      go_simp
                      with_reducible rfl
                     rotate_left
                     ·simp only [Act.put, List.setIfInBounds_toArray, List.set_cons_zero, List.set_cons_succ, i64_w, i32_w]
                      rfl
                     refine pure_ (i := 12) (N := some 83) (v := ?_) (a' := ?_) #[true, true, true, true, true, true, true, true, true, true, true, true, true, false, false] rfl rfl (any_of HT_.out (by kernel_rfl)) (fun _ _ _ h => h) (Or.inl ⟨by rfl, ?_⟩) ?_ ?_
                     rotate_left
                     ·intro w'
                      go_simp
                      with_reducible rfl
                     rotate_left
                     ·simp only [Act.put, List.setIfInBounds_toArray, List.set_cons_zero, List.set_cons_succ, i64_w, i32_w]
                      rfl
                     refine pure_ (i := 13) (N := some 84) (v := ?_) (a' := ?_) #[true, true, true, true, true, true, true, true, true, true, true, true, true, true, false] rfl rfl (any_of HT_.out (by kernel_rfl)) (fun _ _ _ h => h) (Or.inl ⟨by rfl, ?_⟩) ?_ ?_
                     rotate_left
                     ·intro w'
                      go_simp
                      with_reducible rfl
                     rotate_left
                     ·simp only [Act.put, List.setIfInBounds_toArray, List.set_cons_zero, List.set_cons_succ, i64_w, i32_w]
                      rfl
                     refine last_ (i := 14) (N := none) #[true, true, true, true, true, true, true, true, true, true, true, true, true, true, true] rfl rfl (one_of HT_.out (by kernel_rfl)) (by decide) (fun K hK => ?_)
                     refine skip_ (w1 := ?_) (by rfl) rfl ?_ ?_
                     rotate_left
                     ·go_simp
                      rfl
                     refine hK.out _ _ ?_
                     clear hK K
                     refine done_ (done_of HT_.out (by kernel_rfl)) ?_
                     have n0_ : Aside0 (Kd.R k57 57 (w64.setCell ⟨go31, (x66_2 : Int).toNat, none⟩ (.bool (decide ((rd x12_2 ((rd_T57 t274 x66_2).f0)) < (rd t275 ((rd_T57 t274 x66_2).f0)))))) w.heap.size (fun k_ => k_ ≠ gb291) (.slice (some ad290) t274.length co9) t274) := ⟨by (with_reducible repeat (first | apply Kd.R_alloc | apply Kd.R_drewN | apply Kd.R_drew)); exact Kd.R_mono (Kd.R_far (p := ⟨go31, (x66_2 : Int).toNat, none⟩) (Kd.R_types HO_6.out GG31.out (by decide)) (fun _ hk => hk.2) (.bool (decide ((rd x12_2 ((rd_T57 t274 x66_2).f0)) < (rd t275 ((rd_T57 t274 x66_2).f0)))))) (fun _ hk => hk.1)⟩
                     have n1_ : Aside0 (Kd.R (Kd.int .i64) 3 (w64.setCell ⟨go31, (x66_2 : Int).toNat, none⟩ (.bool (decide ((rd x12_2 ((rd_T57 t274 x66_2).f0)) < (rd t275 ((rd_T57 t274 x66_2).f0)))))) w.heap.size (fun k_ => some k_ ≠ (.slice (some ad292) x12_2.length co65 : Value).ownBlock) (.slice (some ad293) t275.length co10) t275) := ⟨by (with_reducible repeat (first | apply Kd.R_alloc | apply Kd.R_drewN | apply Kd.R_drew)); exact Kd.R_mono (Kd.R_far (p := ⟨go31, (x66_2 : Int).toNat, none⟩) (Kd.R_types HO_7.out GG31.out (by decide)) (fun _ hk => hk.2) (.bool (decide ((rd x12_2 ((rd_T57 t274 x66_2).f0)) < (rd t275 ((rd_T57 t274 x66_2).f0)))))) (fun _ hk => hk.1)⟩
                     have n2_ : Aside0 (Kd.R (Kd.int .i64) 3 (w64.setCell ⟨go31, (x66_2 : Int).toNat, none⟩ (.bool (decide ((rd x12_2 ((rd_T57 t274 x66_2).f0)) < (rd t275 ((rd_T57 t274 x66_2).f0)))))) w.heap.size (fun k_ => some k_ ≠ (.slice (some ad293) t275.length co10 : Value).ownBlock) (.slice (some ad292) x12_2.length co65) x12_2) := ⟨by (with_reducible repeat (first | apply Kd.R_alloc | apply Kd.R_drewN | apply Kd.R_drew)); exact Kd.R_mono (Kd.R_far (p := ⟨go31, (x66_2 : Int).toNat, none⟩) (Kd.R_types HO_12.out GG31.out (by decide)) (fun _ hk => hk.2) (.bool (decide ((rd x12_2 ((rd_T57 t274 x66_2).f0)) < (rd t275 ((rd_T57 t274 x66_2).f0)))))) (fun _ hk => hk.1)⟩
                     have n3_ : Aside0 (Kd.R Kd.bool 4 (w64.setCell ⟨go31, (x66_2 : Int).toNat, none⟩ (.bool (decide ((rd x12_2 ((rd_T57 t274 x66_2).f0)) < (rd t275 ((rd_T57 t274 x66_2).f0)))))) w.heap.size (fun _ => True) (.slice (some ⟨go31, 0, none⟩) x13_2.length co31) y294) := ⟨by (with_reducible repeat (first | apply Kd.R_alloc | apply Kd.R_drewN | apply Kd.R_drew)); exact HQ66.out⟩
                     have n4_ : Aside0 (Kd.R k57 57 (w64.setCell ⟨go31, (x66_2 : Int).toNat, none⟩ (.bool (decide ((rd x12_2 ((rd_T57 t274 x66_2).f0)) < (rd t275 ((rd_T57 t274 x66_2).f0)))))) w.heap.size (fun k_ => k_ ≠ gb291) (.slice (some ad290) t274.length co9) t274) := ⟨by (with_reducible repeat (first | apply Kd.R_alloc | apply Kd.R_drewN | apply Kd.R_drew)); exact Kd.R_mono (Kd.R_far (p := ⟨go31, (x66_2 : Int).toNat, none⟩) (Kd.R_types HO_64.out GG31.out (by decide)) (fun _ hk => hk.2) (.bool (decide ((rd x12_2 ((rd_T57 t274 x66_2).f0)) < (rd t275 ((rd_T57 t274 x66_2).f0)))))) (fun _ hk => hk.1)⟩
                     have n5_ : Aside0 ((w64.setCell ⟨go31, (x66_2 : Int).toNat, none⟩ (.bool (decide ((rd x12_2 ((rd_T57 t274 x66_2).f0)) < (rd t275 ((rd_T57 t274 x66_2).f0)))))).heap[gb291]? = some (.cells #[.int .i64 ((rd_T57 t274 x66_2).f0), .int .i64 ((rd_T57 t274 x66_2).f1)] 57 (0, 0))) := ⟨by (with_reducible repeat (first | refine blk_drewN ?_ _ | refine blk_drew ?_ | refine blk_alloc ?_ _)); refine blk_far ?_ (by have h_ := Kd.R_ne HO_13.out BK291.out (by decide); intro e_; exact h_ (by rw [e_]; rfl)) _; (with_reducible repeat (first | refine blk_drewN ?_ _ | refine blk_drew ?_ | refine blk_alloc ?_ _)); exact BK291.out⟩
                     have n6_ : Aside0 (Below w.heap.size w (w64.setCell ⟨go31, (x66_2 : Int).toNat, none⟩ (.bool (decide ((rd x12_2 ((rd_T57 t274 x66_2).f0)) < (rd t275 ((rd_T57 t274 x66_2).f0))))))) := ⟨by repeat (first | (with_reducible first | exact HB.out | apply below_alloc | apply pw_below_drewN | apply below_drew1 | refine below_set ?_ GB31.out | refine below_set ?_ GE291.out) | exact HB.out)⟩
                     (try clear HO_6)
                     (try clear HO_7)
                     (try clear HO_12)
                     (try clear HO_13)
                     (try clear HO_64)
                     (try clear BK291)
                     (try clear HB)
                     generalize (w64.setCell ⟨go31, (x66_2 : Int).toNat, none⟩ (.bool (decide ((rd x12_2 ((rd_T57 t274 x66_2).f0)) < (rd t275 ((rd_T57 t274 x66_2).f0)))))) = w67 at n0_ n1_ n2_ n3_ n4_ n5_ n6_ ⊢
                     have HO_6 := n0_
                     have HO_7 := n1_
                     have HO_12 := n2_
                     have HO_13 := n3_
                     have HO_64 := n4_
                     have BK291 := n5_
                     have HB := n6_
                     clear n0_ n1_ n2_ n3_ n4_ n5_ n6_
                     have hcz68_0 : w67.cell? ⟨gb291, 0, none⟩ = some (.int .i64 ((rd_T57 t274 x66_2).f0)) := (blk_cell BK291.out 0).trans rfl
                     have hcz68_1 : w67.cell? ⟨gb291, 1, none⟩ = some (.int .i64 ((rd_T57 t274 x66_2).f1)) := (blk_cell BK291.out 1).trans rfl
                     have hfz68_0 := blk_frozen BK291.out 0
                     have hfz68_1 := blk_frozen BK291.out 1
                     have p295 : 0 ≤ (((rd_T57 t274 x66_2).f0) : Int) := of_decide_eq_true (by first | (with_reducible assumption) | assumption)
                     have q295 : ((rd_T57 t274 x66_2).f0) < (x12_2.length : Int) := of_decide_eq_true (by first | (with_reducible assumption) | assumption)
                     obtain ⟨ad295, e295, hx295_0⟩ := Kd.at_int (Kd.R_reads' HO_12.out).2.2 ((rd_T57 t274 x66_2).f0) p295 q295
                     obtain rfl : ad292 = ad295 := (by injection e295)
                     replace p295 := eq_true p295
                     replace q295 := eq_true q295
                     have p32 : 0 ≤ (((rd_T57 t274 x66_2).f0) : Int) := of_decide_eq_true (by first | (with_reducible assumption) | assumption)
                     have q32 : (((rd_T57 t274 x66_2).f0) : Int) < ((x12_2.length : Int) : Int) := of_decide_eq_true (by first | (with_reducible assumption) | assumption)
                     obtain ⟨go32, co32, eo32, gb32, gl32, cl32, HG32⟩ := Kd.R_form HO_12.out (by omega)
                     (first | cases eo32 | (injection eo32 with ea_ en_ ec_; (first | subst ea_ | (injection ea_ with ea_; subst ea_)); subst ec_; clear en_))
                     have GB32 := Aside0.mk gb32
                     have GG32 := Aside0.mk HG32
                     clear gb32 gl32 HG32
                     (first | simp only [add_plain] at hx292_0 | skip)
                     (first | simp only [add_plain] at hx295_0 | skip)
                     obtain ⟨hx32_0, hf32_0⟩ := Kd.R_celln 0 HO_12.out (((rd_T57 t274 x66_2).f0) : Int) p32 q32
                     replace p32 := eq_true p32
                     replace q32 := eq_true q32
                     obtain ⟨hy69_, hz69_⟩ := Kd.R_celln 0 HO_12.out (((rd_T57 t274 x66_2).f0) : Int) (of_decide_eq_true (by first | (with_reducible assumption) | assumption)) (of_decide_eq_true (by first | (with_reducible assumption) | assumption))
                     have HP69 := Kd.R_putg HO_12.out (((rd_T57 t274 x66_2).f0) : Int) (wrap64 ((rd x12_2 ((rd_T57 t274 x66_2).f0)) + 1))
                     try go_wp2_with (first | ((with_reducible refine gate_store (t := 3) (p := 91) rfl ?_); refine store_event (t := 3) (p := 91) (v := ?vo_w70) (w1 := (w67.setCell ⟨go32, (((rd_T57 t274 x66_2).f0) : Int).toNat, none⟩ (.int .i64 (wrap64 ((rd x12_2 ((rd_T57 t274 x66_2).f0)) + 1))))) ?hg ?ho ?hn ?hr ?_; (case ho => rfl); (case hg => rfl); (case hn => rfl); (case hr => first | (go_simp; done) | (go_simp; rfl)); intro w70 hw; have hg : w67.grownBy w70 (some go32) := (by rw [hw]; exact HP69.2); have hp_ : Kd.R (Kd.int .i64) 3 w70 w.heap.size (fun k_ => some k_ ≠ (.slice (some ad293) t275.length co10 : Value).ownBlock) (.slice (some ⟨go32, 0, none⟩) x12_2.length co65) y296 := (by rw [hw, Ny296.out]; exact HP69.1); clear HP69; have n0_ := Aside0.mk (Kd.R_over' (v := (.slice (some ⟨go32, 0, none⟩) x12_2.length co65)) (by (with_reducible repeat (first | apply Kd.R_alloc | apply Kd.R_drewN | apply Kd.R_drew)); exact HO_6.out) (Kd.R_typed HO_12.out) (by decide) hg); have n1_ := Aside0.mk (Kd.R_after (v := (.slice (some ⟨go32, 0, none⟩) x12_2.length co65)) (v1 := (.slice (some ⟨go32, 0, none⟩) x12_2.length co65)) (ok := (fun _ => True)) (by (with_reducible repeat (first | apply Kd.R_alloc | apply Kd.R_drewN | apply Kd.R_drew)); exact Kd.R_mono HO_7.out (fun _ hk => ⟨trivial, hk⟩)) hg (.inl rfl)); have n2_ := Aside0.mk (hp_); have n3_ := Aside0.mk (Kd.R_over' (v := (.slice (some ⟨go32, 0, none⟩) x12_2.length co65)) (by (with_reducible repeat (first | apply Kd.R_alloc | apply Kd.R_drewN | apply Kd.R_drew)); exact HO_13.out) (Kd.R_typed HO_12.out) (by decide) hg); have n4_ := Aside0.mk (Kd.R_over' (v := (.slice (some ⟨go32, 0, none⟩) x12_2.length co65)) (by (with_reducible repeat (first | apply Kd.R_alloc | apply Kd.R_drewN | apply Kd.R_drew)); exact HO_64.out) (Kd.R_typed HO_12.out) (by decide) hg); have n5_ := Aside0.mk (blk_grown (g := gb291) (o := .cells #[.int .i64 ((rd_T57 t274 x66_2).f0), .int .i64 ((rd_T57 t274 x66_2).f1)] 57 (0, 0)) (by (with_reducible repeat (first | refine blk_drewN ?_ _ | refine blk_drew ?_ | refine blk_alloc ?_ _)); exact BK291.out) hg (Kd.R_ne HO_12.out BK291.out (by decide))); have n6_ := Aside0.mk ((by rw [hw]; exact below_set (HB.out) GB32.out : Below w.heap.size w w70)); clear HO_6; clear HO_7; clear HO_12; clear HO_13; clear HO_64; clear BK291; clear HB; have HO_6 := n0_; have HO_7 := n1_; have HO_12 := n2_; have HO_13 := n3_; have HO_64 := n4_; have BK291 := n5_; have HB := n6_; clear n0_ n1_ n2_ n3_ n4_ n5_ n6_; clear hg hw hp_; have p297 : 0 ≤ (x66_2 : Int) := of_decide_eq_true (by first | (with_reducible assumption) | assumption); have q297 : x66_2 < (y294.length : Int) := (by have h_ : (x66_2 : Int) < ((x13_2.length : Int) : Int) := of_decide_eq_true (by first | (with_reducible assumption) | assumption); first | (have e_ := (Kd.R_reads' HO_13.out).1; omega) | simpa only [Ny294.out, List.length_set] using h_); have ql297 : ((x66_2 : Int) < ((x13_2.length : Int) : Int)) = True := eq_true (of_decide_eq_true (by first | (with_reducible assumption) | assumption)); obtain ⟨ad297, e297, hx297_0⟩ := Kd.at_bool (Kd.R_reads' HO_13.out).2.2 x66_2 p297 q297; (try rw [← Nbq34.out] at hx297_0); obtain rfl : (⟨go31, 0, none⟩ : Addr) = ad297 := (by injection e297); (first | simp only [add_plain] at hx297_0 | simp only [add_at] at hx297_0 | simp only [Addr.add, Nat.zero_add] at hx297_0 | skip); replace p297 := eq_true p297; replace q297 := eq_true q297))
                     go_roundg k2
                     case measure => have := HJ6.out; have := HK2.out; omega
                     case rel => exact ⟨(y296), (y294), (true), (wrap64 (x66_2 + 1)), (by first | rfl | (simp; done) | (simp [*]; done)), (by first | rfl | (simp; done) | (simp [*]; done)), H', ⟨by have := HJ6.out; have := HK2.out; omega⟩, ⟨by (with_reducible repeat (first | apply Kd.R_alloc | apply Kd.R_drewN | apply Kd.R_drew)); exact Kd.R_mono HO_6.out (fun _ hk => trivial)⟩, ⟨by (with_reducible repeat (first | apply Kd.R_alloc | apply Kd.R_drewN | apply Kd.R_drew)); exact Kd.R_mono HO_7.out (fun _ hk => hk.2)⟩, ⟨by (with_reducible repeat (first | apply Kd.R_alloc | apply Kd.R_drewN | apply Kd.R_drew)); exact HO_12.out⟩, ⟨by (with_reducible repeat (first | apply Kd.R_alloc | apply Kd.R_drewN | apply Kd.R_drew)); exact HO_13.out⟩, ⟨by (with_reducible repeat (first | apply Kd.R_alloc | apply Kd.R_drewN | apply Kd.R_drew)); exact Kd.R_mono HO_64.out (fun _ hk => trivial)⟩, ⟨by repeat (first | (with_reducible first | exact HB.out | apply below_alloc | apply pw_below_drewN | apply below_drew1 | refine below_set ?_ GE291.out) | exact HB.out)⟩⟩
                   ·replace c33 := Bool.eq_false_iff.mpr c33
                    subst c33
                    have H1 : (laws_FnCuts.l0 k2 l1 t273 t274 t275 t280 y296 y294 false t274 (t274.length : Int) (wrap64 (x66_2 + 1))) = some r := by rw [if_neg (show ¬ (false = true) by decide)] at H; exact H
                    clear H
                    have H := H1
                    clear H1
                    have H' := Aside0.mk H
                    clear H
                    have p290 : 0 ≤ (x66_2 : Int) := of_decide_eq_true (by first | (with_reducible assumption) | assumption)
                    have q290 : x66_2 < (t274.length : Int) := of_decide_eq_true (by first | (with_reducible assumption) | assumption)
                    obtain ⟨ad290, e290, hx290_0, hx290_1⟩ := at_T57 (Kd.R_reads' HO_64.out).2.2 x66_2 p290 q290
                    cases e290
                    replace p290 := eq_true p290
                    replace q290 := eq_true q290
                    try go_wp2_with (first | ((with_reducible refine gate_dst (N := 16) rfl ?_); refine box_event ?hg (N := 16) ?hd (cs := #[.int .i64 0, .int .i64 0]) (t := 57) ?hr ?_; (case hd => rfl); (case hg => rfl); (case hr => first | (go_simp; done) | (go_simp; rfl)); intro gb291 hg w71 hbox hb; have n0_ := Aside0.mk (Kd.R_below (Kd.R_elderB (by (with_reducible repeat (first | apply Kd.R_alloc | apply Kd.R_drewN | apply Kd.R_drew)); exact HO_6.out) gb291 (Nat.le_of_eq hg.symm)) hb); have n1_ := Aside0.mk (Kd.R_below (by (with_reducible repeat (first | apply Kd.R_alloc | apply Kd.R_drewN | apply Kd.R_drew)); exact HO_7.out) hb); have n2_ := Aside0.mk (Kd.R_below (by (with_reducible repeat (first | apply Kd.R_alloc | apply Kd.R_drewN | apply Kd.R_drew)); exact HO_12.out) hb); have n3_ := Aside0.mk (Kd.R_below (by (with_reducible repeat (first | apply Kd.R_alloc | apply Kd.R_drewN | apply Kd.R_drew)); exact HO_13.out) hb); have n4_ := Aside0.mk (Kd.R_below (Kd.R_elderB (by (with_reducible repeat (first | apply Kd.R_alloc | apply Kd.R_drewN | apply Kd.R_drew)); exact HO_64.out) gb291 (Nat.le_of_eq hg.symm)) hb); have n5_ := Aside0.mk (below_step (by repeat (first | (with_reducible first | exact HB.out | apply below_alloc | apply pw_below_drewN | apply below_drew1) | exact HB.out)) hb); have n6_ := Aside0.mk (hbox); have n7_ := Aside0.mk ((by rw [hg]; exact (below_size (by repeat (first | (with_reducible first | exact HB.out | apply below_alloc | apply pw_below_drewN | apply below_drew1) | exact HB.out))) : w.heap.size ≤ gb291)); have n8_ := Aside0.mk ((by rw [hg]; exact (below_size (by repeat (first | (with_reducible first | exact HB.out | apply below_alloc | apply pw_below_drewN | apply below_drew1) | exact HB.out))) : w.heap.size ≤ gb291)); clear HO_6; clear HO_7; clear HO_12; clear HO_13; clear HO_64; clear HB; have HO_6 := n0_; have HO_7 := n1_; have HO_12 := n2_; have HO_13 := n3_; have HO_64 := n4_; have HB := n5_; have BK291 := n6_; have GW291 := n7_; have GE291 := n8_; clear n0_ n1_ n2_ n3_ n4_ n5_ n6_ n7_ n8_; clear hb hbox hg; have hcz72_0 : w71.cell? ⟨gb291, 0, none⟩ = some (.int .i64 0) := (blk_cell BK291.out 0).trans rfl; have hcz72_1 : w71.cell? ⟨gb291, 1, none⟩ = some (.int .i64 0) := (blk_cell BK291.out 1).trans rfl; have hfz72_0 := blk_frozen BK291.out 0; have hfz72_1 := blk_frozen BK291.out 1))
                    have n0_ : Aside0 (Kd.R k57 57 ((w71.setCell ⟨gb291, 0, none⟩ (.int .i64 ((rd_T57 t274 x66_2).f0))).setCell ⟨gb291, 1, none⟩ (.int .i64 ((rd_T57 t274 x66_2).f1))) w.heap.size (fun k_ => k_ ≠ gb291) (.slice (some ad290) t274.length co9) t274) := ⟨by (with_reducible repeat (first | apply Kd.R_alloc | apply Kd.R_drewN | apply Kd.R_drew)); exact Kd.R_mono (Kd.R_far (p := ⟨gb291, 1, none⟩) (Kd.R_far (p := ⟨gb291, 0, none⟩) (Kd.R_mono HO_6.out (fun k_ hk => (⟨hk, hk.2⟩ : _ ∧ k_ ≠ gb291))) (fun _ hk => hk.2) (.int .i64 ((rd_T57 t274 x66_2).f0))) (fun _ hk => hk.2) (.int .i64 ((rd_T57 t274 x66_2).f1))) (fun _ hk => hk.1.2)⟩
                    have n1_ : Aside0 (Kd.R (Kd.int .i64) 3 ((w71.setCell ⟨gb291, 0, none⟩ (.int .i64 ((rd_T57 t274 x66_2).f0))).setCell ⟨gb291, 1, none⟩ (.int .i64 ((rd_T57 t274 x66_2).f1))) w.heap.size (fun k_ => some k_ ≠ (v285 : Value).ownBlock) (.slice Ao10 t275.length co10) t275) := ⟨by (with_reducible repeat (first | apply Kd.R_alloc | apply Kd.R_drewN | apply Kd.R_drew)); exact Kd.R_mono (Kd.R_far (p := ⟨gb291, 1, none⟩) (Kd.R_far (p := ⟨gb291, 0, none⟩) (Kd.R_types HO_7.out BK291.out (by decide)) (fun _ hk => hk.2) (.int .i64 ((rd_T57 t274 x66_2).f0))) (fun _ hk => hk.2) (.int .i64 ((rd_T57 t274 x66_2).f1))) (fun _ hk => hk.1)⟩
                    have n2_ : Aside0 (Kd.R (Kd.int .i64) 3 ((w71.setCell ⟨gb291, 0, none⟩ (.int .i64 ((rd_T57 t274 x66_2).f0))).setCell ⟨gb291, 1, none⟩ (.int .i64 ((rd_T57 t274 x66_2).f1))) w.heap.size (fun k_ => some k_ ≠ (.slice Ao10 t275.length co10 : Value).ownBlock) v285 x12_2) := ⟨by (with_reducible repeat (first | apply Kd.R_alloc | apply Kd.R_drewN | apply Kd.R_drew)); exact Kd.R_mono (Kd.R_far (p := ⟨gb291, 1, none⟩) (Kd.R_far (p := ⟨gb291, 0, none⟩) (Kd.R_types HO_12.out BK291.out (by decide)) (fun _ hk => hk.2) (.int .i64 ((rd_T57 t274 x66_2).f0))) (fun _ hk => hk.2) (.int .i64 ((rd_T57 t274 x66_2).f1))) (fun _ hk => hk.1)⟩
                    have n3_ : Aside0 (Kd.R Kd.bool 4 ((w71.setCell ⟨gb291, 0, none⟩ (.int .i64 ((rd_T57 t274 x66_2).f0))).setCell ⟨gb291, 1, none⟩ (.int .i64 ((rd_T57 t274 x66_2).f1))) w.heap.size (fun _ => True) v288 x13_2) := ⟨by (with_reducible repeat (first | apply Kd.R_alloc | apply Kd.R_drewN | apply Kd.R_drew)); exact Kd.R_mono (Kd.R_far (p := ⟨gb291, 1, none⟩) (Kd.R_far (p := ⟨gb291, 0, none⟩) (Kd.R_types HO_13.out BK291.out (by decide)) (fun _ hk => hk.2) (.int .i64 ((rd_T57 t274 x66_2).f0))) (fun _ hk => hk.2) (.int .i64 ((rd_T57 t274 x66_2).f1))) (fun _ hk => trivial)⟩
                    have n4_ : Aside0 (Kd.R k57 57 ((w71.setCell ⟨gb291, 0, none⟩ (.int .i64 ((rd_T57 t274 x66_2).f0))).setCell ⟨gb291, 1, none⟩ (.int .i64 ((rd_T57 t274 x66_2).f1))) w.heap.size (fun k_ => k_ ≠ gb291) (.slice (some ad290) t274.length co9) t274) := ⟨by (with_reducible repeat (first | apply Kd.R_alloc | apply Kd.R_drewN | apply Kd.R_drew)); exact Kd.R_mono (Kd.R_far (p := ⟨gb291, 1, none⟩) (Kd.R_far (p := ⟨gb291, 0, none⟩) (Kd.R_mono HO_64.out (fun k_ hk => (⟨hk, hk.2⟩ : _ ∧ k_ ≠ gb291))) (fun _ hk => hk.2) (.int .i64 ((rd_T57 t274 x66_2).f0))) (fun _ hk => hk.2) (.int .i64 ((rd_T57 t274 x66_2).f1))) (fun _ hk => hk.1.2)⟩
                    have n5_ : Aside0 (((w71.setCell ⟨gb291, 0, none⟩ (.int .i64 ((rd_T57 t274 x66_2).f0))).setCell ⟨gb291, 1, none⟩ (.int .i64 ((rd_T57 t274 x66_2).f1))).heap[gb291]? = some (.cells #[.int .i64 ((rd_T57 t274 x66_2).f0), .int .i64 ((rd_T57 t274 x66_2).f1)] 57 (0, 0))) := ⟨by (with_reducible repeat (first | refine blk_drewN ?_ _ | refine blk_drew ?_ | refine blk_alloc ?_ _)); refine blk_put (cs := #[.int .i64 ((rd_T57 t274 x66_2).f0), .int .i64 0]) ?_ 1 _ rfl; (with_reducible repeat (first | refine blk_drewN ?_ _ | refine blk_drew ?_ | refine blk_alloc ?_ _)); refine blk_put (cs := #[.int .i64 0, .int .i64 0]) ?_ 0 _ rfl; (with_reducible repeat (first | refine blk_drewN ?_ _ | refine blk_drew ?_ | refine blk_alloc ?_ _)); exact BK291.out⟩
                    have n6_ : Aside0 (Below w.heap.size w ((w71.setCell ⟨gb291, 0, none⟩ (.int .i64 ((rd_T57 t274 x66_2).f0))).setCell ⟨gb291, 1, none⟩ (.int .i64 ((rd_T57 t274 x66_2).f1)))) := ⟨by repeat (first | (with_reducible first | exact HB.out | apply below_alloc | apply pw_below_drewN | apply below_drew1 | refine below_set ?_ GE291.out) | exact HB.out)⟩
                    (try clear HO_6)
                    (try clear HO_7)
                    (try clear HO_12)
                    (try clear HO_13)
                    (try clear HO_64)
                    (try clear BK291)
                    (try clear HB)
                    generalize ((w71.setCell ⟨gb291, 0, none⟩ (.int .i64 ((rd_T57 t274 x66_2).f0))).setCell ⟨gb291, 1, none⟩ (.int .i64 ((rd_T57 t274 x66_2).f1))) = w73 at n0_ n1_ n2_ n3_ n4_ n5_ n6_ ⊢
                    have HO_6 := n0_
                    have HO_7 := n1_
                    have HO_12 := n2_
                    have HO_13 := n3_
                    have HO_64 := n4_
                    have BK291 := n5_
                    have HB := n6_
                    clear n0_ n1_ n2_ n3_ n4_ n5_ n6_
                    have n0_ := Aside0.mk (Kd.R_drew HO_6.out)
                    have n1_ := Aside0.mk (Kd.R_drew HO_7.out)
                    have n2_ := Aside0.mk (Kd.R_drew HO_12.out)
                    have n3_ := Aside0.mk (Kd.R_drew HO_13.out)
                    have n4_ := Aside0.mk (Kd.R_drew HO_64.out)
                    have n5_ := Aside0.mk (blk_drew BK291.out)
                    have n6_ := Aside0.mk (below_drew1 HB.out)
                    clear HO_6
                    clear HO_7
                    clear HO_12
                    clear HO_13
                    clear HO_64
                    clear BK291
                    clear HB
                    have HO_6 := n0_
                    have HO_7 := n1_
                    have HO_12 := n2_
                    have HO_13 := n3_
                    have HO_64 := n4_
                    have BK291 := n5_
                    have HB := n6_
                    clear n0_ n1_ n2_ n3_ n4_ n5_ n6_
                    obtain ⟨Ao75, co75, eo75⟩ := Kd.R_slice HO_12.out
                    (first | subst eo75 | (injection eo75 with f1_ f2_ f3_; have f4_ := f1_.symm; have f5_ := f3_.symm; clear f1_ f2_ f3_; subst f4_; subst f5_))
                    have p292 : 0 ≤ (((rd_T57 t274 x66_2).f0) : Int) := of_decide_eq_true (by first | (with_reducible assumption) | assumption)
                    have q292 : ((rd_T57 t274 x66_2).f0) < (x12_2.length : Int) := of_decide_eq_true (by first | (with_reducible assumption) | assumption)
                    obtain ⟨ad292, e292, hx292_0⟩ := Kd.at_int (Kd.R_reads' HO_12.out).2.2 ((rd_T57 t274 x66_2).f0) p292 q292
                    cases e292
                    replace p292 := eq_true p292
                    replace q292 := eq_true q292
                    have p293 : 0 ≤ (((rd_T57 t274 x66_2).f0) : Int) := of_decide_eq_true (by first | (with_reducible assumption) | assumption)
                    have q293 : ((rd_T57 t274 x66_2).f0) < (t275.length : Int) := of_decide_eq_true (by first | (with_reducible assumption) | assumption)
                    obtain ⟨ad293, e293, hx293_0⟩ := Kd.at_int (Kd.R_reads' HO_7.out).2.2 ((rd_T57 t274 x66_2).f0) p293 q293
                    cases e293
                    replace p293 := eq_true p293
                    replace q293 := eq_true q293
                    have p31 : 0 ≤ (x66_2 : Int) := of_decide_eq_true (by first | (with_reducible assumption) | assumption)
                    have q31 : (x66_2 : Int) < ((x13_2.length : Int) : Int) := of_decide_eq_true (by first | (with_reducible assumption) | assumption)
                    obtain ⟨go31, co31, eo31, gb31, gl31, cl31, HG31⟩ := Kd.R_form HO_13.out (by omega)
                    (first | cases eo31 | (injection eo31 with ea_ en_ ec_; (first | subst ea_ | (injection ea_ with ea_; subst ea_)); subst ec_; clear en_))
                    have GB31 := Aside0.mk gb31
                    have GG31 := Aside0.mk HG31
                    clear gb31 gl31 HG31
                    obtain ⟨hx31_0, hf31_0⟩ := Kd.R_celln false HO_13.out (x66_2 : Int) p31 q31
                    replace p31 := eq_true p31
                    replace q31 := eq_true q31
                    have HP76 := Kd.R_putn HO_13.out (x66_2 : Int) (decide ((rd x12_2 ((rd_T57 t274 x66_2).f0)) < (rd t275 ((rd_T57 t274 x66_2).f0))))
                    rw [← Ny294.out] at HP76
                    have HQ76 := Aside0.mk HP76
                    clear HP76
                    refine start_ (n := 15) (S := fun w' => w'.cell? ⟨gb291, 0, none⟩ = some (.int .i64 ((rd_T57 t274 x66_2).f0)) ∧ w'.cell? ⟨gb291, 1, none⟩ = some (.int .i64 ((rd_T57 t274 x66_2).f1)) ∧ w'.cell? (ad292.add (((rd_T57 t274 x66_2).f0)).toNat) = some (.int .i64 (rd x12_2 ((rd_T57 t274 x66_2).f0))) ∧ w'.cell? (ad293.add (((rd_T57 t274 x66_2).f0)).toNat) = some (.int .i64 (rd t275 ((rd_T57 t274 x66_2).f0)))) (ds := [14]) #[false, false, false, false, false, false, false, false, false, false, false, false, false, false, false] (by kernel_rfl) rfl rfl ⟨(blk_cell BK291.out 0).trans rfl, (blk_cell BK291.out 1).trans rfl, hx292_0, hx293_0⟩ (fun hHeld => ?_); refine with_tabW laws_FnCuts.tab16 laws_FnCuts.bits16 (fun HT_ HW_ => ?_)
                    generalize w73.drew = w74 at HO_6 HO_7 HO_12 HO_13 HO_64 BK291 HB GG31 HQ76 hf31_0 hx292_0 hx293_0 hx31_0 hHeld ⊢
                    refine pure_ (i := 0) (N := some 71) (v := ?_) (a' := ?_) #[true, false, false, false, false, false, false, false, false, false, false, false, false, false, false] rfl rfl (any_of HT_.out (by kernel_rfl)) (fun _ _ _ h => h) (Or.inl ⟨by rfl, ?_⟩) ?_ ?_
                    rotate_left
                    ·intro w'
                     go_simp
                     with_reducible rfl
                    rotate_left
                    ·simp only [Act.put, List.setIfInBounds_toArray, List.set_cons_zero, List.set_cons_succ, i64_w, i32_w]
                     rfl
                    refine pure_ (i := 1) (N := some 72) (v := ?_) (a' := ?_) #[true, true, false, false, false, false, false, false, false, false, false, false, false, false, false] rfl rfl (any_of HT_.out (by kernel_rfl)) (fun _ _ _ h => h) (Or.inl ⟨by rfl, ?_⟩) ?_ ?_
                    rotate_left
                    ·intro w'
                     go_simp
                     with_reducible rfl
                    rotate_left
                    ·simp only [Act.put, List.setIfInBounds_toArray, List.set_cons_zero, List.set_cons_succ, i64_w, i32_w]
                     rfl
                    refine pure_ (i := 2) (N := some 73) (v := ?_) (a' := ?_) #[true, true, true, false, false, false, false, false, false, false, false, false, false, false, false] rfl rfl (any_of HT_.out (by kernel_rfl)) (fun _ _ _ h => h) (Or.inl ⟨by rfl, ?_⟩) ?_ ?_
                    rotate_left
                    ·intro w'
                     go_simp
                     with_reducible rfl
                    rotate_left
                    ·simp only [Act.put, List.setIfInBounds_toArray, List.set_cons_zero, List.set_cons_succ, i64_w, i32_w]
                     rfl
                    refine pure_ (i := 3) (N := some 74) (v := ?_) (a' := ?_) #[true, true, true, true, false, false, false, false, false, false, false, false, false, false, false] rfl rfl (any_of HT_.out (by kernel_rfl)) (fun _ _ _ h => h) (Or.inl ⟨by rfl, ?_⟩) ?_ ?_
                    rotate_left
                    ·intro w'
                     go_simp
                     with_reducible rfl
                    rotate_left
                    ·simp only [Act.put, List.setIfInBounds_toArray, List.set_cons_zero, List.set_cons_succ, i64_w, i32_w]
                     rfl
                    refine pure_ (i := 7) (N := some 78) (v := ?_) (a' := ?_) #[true, true, true, true, false, false, false, true, false, false, false, false, false, false, false] rfl rfl (any_of HT_.out (by kernel_rfl)) (fun _ _ _ h => h) (Or.inl ⟨by rfl, ?_⟩) ?_ ?_
                    rotate_left
                    ·intro w'
                     go_simp
                     with_reducible rfl
                    rotate_left
                    ·simp only [Act.put, List.setIfInBounds_toArray, List.set_cons_zero, List.set_cons_succ, i64_w, i32_w]
                     rfl
                    refine pure_ (i := 8) (N := some 79) (v := ?_) (a' := ?_) #[true, true, true, true, false, false, false, true, true, false, false, false, false, false, false] rfl rfl (any_of HT_.out (by kernel_rfl)) (fun _ _ _ h => h) (Or.inl ⟨by rfl, ?_⟩) ?_ ?_
                    rotate_left
                    ·intro w'
                     go_simp
                     with_reducible rfl
                    rotate_left
                    ·simp only [Act.put, List.setIfInBounds_toArray, List.set_cons_zero, List.set_cons_succ, i64_w, i32_w]
                     rfl
                    refine take_ (i := 4) (N := some 75) (v := ?_) (a' := ?_) #[true, true, true, true, true, false, false, true, true, false, false, false, false, false, false] rfl rfl (take_ofW HT_.out HW_.out (by kernel_rfl)) (fun _ _ _ h => h) (Or.inl ⟨by rfl, ?_⟩) hHeld ?_ ?_
                    rotate_left
                    ·rintro w' ⟨s0, s1, s2, s3⟩
                     go_simp
                     with_reducible rfl
                    rotate_left
                    ·simp only [Act.put, List.setIfInBounds_toArray, List.set_cons_zero, List.set_cons_succ, i64_w, i32_w]
                     rfl
                    refine pure_ (i := 5) (N := some 76) (v := ?_) (a' := ?_) #[true, true, true, true, true, true, false, true, true, false, false, false, false, false, false] rfl rfl (any_of HT_.out (by kernel_rfl)) (fun _ _ _ h => h) (Or.inl ⟨by rfl, ?_⟩) ?_ ?_
                    rotate_left
                    ·intro w'
                     go_simp
                     with_reducible rfl
                    rotate_left
                    ·simp only [Act.put, List.setIfInBounds_toArray, List.set_cons_zero, List.set_cons_succ, i64_w, i32_w]
                     rfl
                    refine take_ (i := 6) (N := some 77) (v := ?_) (a' := ?_) #[true, true, true, true, true, true, true, true, true, false, false, false, false, false, false] rfl rfl (take_ofW HT_.out HW_.out (by kernel_rfl)) (fun _ _ _ h => h) (Or.inl ⟨by rfl, ?_⟩) hHeld ?_ ?_
                    rotate_left
                    ·rintro w' ⟨s0, s1, s2, s3⟩
                     go_simp
                     with_reducible rfl
                    rotate_left
                    ·simp only [Act.put, List.setIfInBounds_toArray, List.set_cons_zero, List.set_cons_succ, i64_w, i32_w]
                     rfl
                    refine take_ (i := 9) (N := some 80) (v := ?_) (a' := ?_) #[true, true, true, true, true, true, true, true, true, true, false, false, false, false, false] rfl rfl (take_ofW HT_.out HW_.out (by kernel_rfl)) (fun _ _ _ h => h) (Or.inl ⟨by rfl, ?_⟩) hHeld ?_ ?_
                    rotate_left
                    ·rintro w' ⟨s0, s1, s2, s3⟩
                     go_simp
                     with_reducible rfl
                    rotate_left
                    ·simp only [Act.put, List.setIfInBounds_toArray, List.set_cons_zero, List.set_cons_succ, i64_w, i32_w]
                     rfl
                    refine pure_ (i := 10) (N := some 81) (v := ?_) (a' := ?_) #[true, true, true, true, true, true, true, true, true, true, true, false, false, false, false] rfl rfl (any_of HT_.out (by kernel_rfl)) (fun _ _ _ h => h) (Or.inl ⟨by rfl, ?_⟩) ?_ ?_
                    rotate_left
                    ·intro w'
                     go_simp
                     with_reducible rfl
                    rotate_left
                    ·simp only [Act.put, List.setIfInBounds_toArray, List.set_cons_zero, List.set_cons_succ, i64_w, i32_w]
                     rfl
                    refine take_ (i := 11) (N := some 82) (v := ?_) (a' := ?_) #[true, true, true, true, true, true, true, true, true, true, true, true, false, false, false] rfl rfl (take_ofW HT_.out HW_.out (by kernel_rfl)) (fun _ _ _ h => h) (Or.inl ⟨by rfl, ?_⟩) hHeld ?_ ?_
                    rotate_left
                    ·rintro w' ⟨s0, s1, s2, s3⟩
                     go_simp
                     with_reducible rfl
                    rotate_left
                    ·simp only [Act.put, List.setIfInBounds_toArray, List.set_cons_zero, List.set_cons_succ, i64_w, i32_w]
                     rfl
                    refine pure_ (i := 12) (N := some 83) (v := ?_) (a' := ?_) #[true, true, true, true, true, true, true, true, true, true, true, true, true, false, false] rfl rfl (any_of HT_.out (by kernel_rfl)) (fun _ _ _ h => h) (Or.inl ⟨by rfl, ?_⟩) ?_ ?_
                    rotate_left
                    ·intro w'
                     go_simp
                     with_reducible rfl
                    rotate_left
                    ·simp only [Act.put, List.setIfInBounds_toArray, List.set_cons_zero, List.set_cons_succ, i64_w, i32_w]
                     rfl
                    refine pure_ (i := 13) (N := some 84) (v := ?_) (a' := ?_) #[true, true, true, true, true, true, true, true, true, true, true, true, true, true, false] rfl rfl (any_of HT_.out (by kernel_rfl)) (fun _ _ _ h => h) (Or.inl ⟨by rfl, ?_⟩) ?_ ?_
                    rotate_left
                    ·intro w'
                     go_simp
                     with_reducible rfl
                    rotate_left
                    ·simp only [Act.put, List.setIfInBounds_toArray, List.set_cons_zero, List.set_cons_succ, i64_w, i32_w]
                     rfl
                    refine last_ (i := 14) (N := none) #[true, true, true, true, true, true, true, true, true, true, true, true, true, true, true] rfl rfl (one_of HT_.out (by kernel_rfl)) (by decide) (fun K hK => ?_)
                    refine skip_ (w1 := ?_) (by rfl) rfl ?_ ?_
                    rotate_left
                    ·go_simp
                     rfl
                    refine hK.out _ _ ?_
                    clear hK K
                    refine done_ (done_of HT_.out (by kernel_rfl)) ?_
                    have n0_ : Aside0 (Kd.R k57 57 (w74.setCell ⟨go31, (x66_2 : Int).toNat, none⟩ (.bool (decide ((rd x12_2 ((rd_T57 t274 x66_2).f0)) < (rd t275 ((rd_T57 t274 x66_2).f0)))))) w.heap.size (fun k_ => k_ ≠ gb291) (.slice (some ad290) t274.length co9) t274) := ⟨by (with_reducible repeat (first | apply Kd.R_alloc | apply Kd.R_drewN | apply Kd.R_drew)); exact Kd.R_mono (Kd.R_far (p := ⟨go31, (x66_2 : Int).toNat, none⟩) (Kd.R_types HO_6.out GG31.out (by decide)) (fun _ hk => hk.2) (.bool (decide ((rd x12_2 ((rd_T57 t274 x66_2).f0)) < (rd t275 ((rd_T57 t274 x66_2).f0)))))) (fun _ hk => hk.1)⟩
                    have n1_ : Aside0 (Kd.R (Kd.int .i64) 3 (w74.setCell ⟨go31, (x66_2 : Int).toNat, none⟩ (.bool (decide ((rd x12_2 ((rd_T57 t274 x66_2).f0)) < (rd t275 ((rd_T57 t274 x66_2).f0)))))) w.heap.size (fun k_ => some k_ ≠ (.slice (some ad292) x12_2.length co75 : Value).ownBlock) (.slice (some ad293) t275.length co10) t275) := ⟨by (with_reducible repeat (first | apply Kd.R_alloc | apply Kd.R_drewN | apply Kd.R_drew)); exact Kd.R_mono (Kd.R_far (p := ⟨go31, (x66_2 : Int).toNat, none⟩) (Kd.R_types HO_7.out GG31.out (by decide)) (fun _ hk => hk.2) (.bool (decide ((rd x12_2 ((rd_T57 t274 x66_2).f0)) < (rd t275 ((rd_T57 t274 x66_2).f0)))))) (fun _ hk => hk.1)⟩
                    have n2_ : Aside0 (Kd.R (Kd.int .i64) 3 (w74.setCell ⟨go31, (x66_2 : Int).toNat, none⟩ (.bool (decide ((rd x12_2 ((rd_T57 t274 x66_2).f0)) < (rd t275 ((rd_T57 t274 x66_2).f0)))))) w.heap.size (fun k_ => some k_ ≠ (.slice (some ad293) t275.length co10 : Value).ownBlock) (.slice (some ad292) x12_2.length co75) x12_2) := ⟨by (with_reducible repeat (first | apply Kd.R_alloc | apply Kd.R_drewN | apply Kd.R_drew)); exact Kd.R_mono (Kd.R_far (p := ⟨go31, (x66_2 : Int).toNat, none⟩) (Kd.R_types HO_12.out GG31.out (by decide)) (fun _ hk => hk.2) (.bool (decide ((rd x12_2 ((rd_T57 t274 x66_2).f0)) < (rd t275 ((rd_T57 t274 x66_2).f0)))))) (fun _ hk => hk.1)⟩
                    have n3_ : Aside0 (Kd.R Kd.bool 4 (w74.setCell ⟨go31, (x66_2 : Int).toNat, none⟩ (.bool (decide ((rd x12_2 ((rd_T57 t274 x66_2).f0)) < (rd t275 ((rd_T57 t274 x66_2).f0)))))) w.heap.size (fun _ => True) (.slice (some ⟨go31, 0, none⟩) x13_2.length co31) y294) := ⟨by (with_reducible repeat (first | apply Kd.R_alloc | apply Kd.R_drewN | apply Kd.R_drew)); exact HQ76.out⟩
                    have n4_ : Aside0 (Kd.R k57 57 (w74.setCell ⟨go31, (x66_2 : Int).toNat, none⟩ (.bool (decide ((rd x12_2 ((rd_T57 t274 x66_2).f0)) < (rd t275 ((rd_T57 t274 x66_2).f0)))))) w.heap.size (fun k_ => k_ ≠ gb291) (.slice (some ad290) t274.length co9) t274) := ⟨by (with_reducible repeat (first | apply Kd.R_alloc | apply Kd.R_drewN | apply Kd.R_drew)); exact Kd.R_mono (Kd.R_far (p := ⟨go31, (x66_2 : Int).toNat, none⟩) (Kd.R_types HO_64.out GG31.out (by decide)) (fun _ hk => hk.2) (.bool (decide ((rd x12_2 ((rd_T57 t274 x66_2).f0)) < (rd t275 ((rd_T57 t274 x66_2).f0)))))) (fun _ hk => hk.1)⟩
                    have n5_ : Aside0 ((w74.setCell ⟨go31, (x66_2 : Int).toNat, none⟩ (.bool (decide ((rd x12_2 ((rd_T57 t274 x66_2).f0)) < (rd t275 ((rd_T57 t274 x66_2).f0)))))).heap[gb291]? = some (.cells #[.int .i64 ((rd_T57 t274 x66_2).f0), .int .i64 ((rd_T57 t274 x66_2).f1)] 57 (0, 0))) := ⟨by (with_reducible repeat (first | refine blk_drewN ?_ _ | refine blk_drew ?_ | refine blk_alloc ?_ _)); refine blk_far ?_ (by have h_ := Kd.R_ne HO_13.out BK291.out (by decide); intro e_; exact h_ (by rw [e_]; rfl)) _; (with_reducible repeat (first | refine blk_drewN ?_ _ | refine blk_drew ?_ | refine blk_alloc ?_ _)); exact BK291.out⟩
                    have n6_ : Aside0 (Below w.heap.size w (w74.setCell ⟨go31, (x66_2 : Int).toNat, none⟩ (.bool (decide ((rd x12_2 ((rd_T57 t274 x66_2).f0)) < (rd t275 ((rd_T57 t274 x66_2).f0))))))) := ⟨by repeat (first | (with_reducible first | exact HB.out | apply below_alloc | apply pw_below_drewN | apply below_drew1 | refine below_set ?_ GB31.out | refine below_set ?_ GE291.out) | exact HB.out)⟩
                    (try clear HO_6)
                    (try clear HO_7)
                    (try clear HO_12)
                    (try clear HO_13)
                    (try clear HO_64)
                    (try clear BK291)
                    (try clear HB)
                    generalize (w74.setCell ⟨go31, (x66_2 : Int).toNat, none⟩ (.bool (decide ((rd x12_2 ((rd_T57 t274 x66_2).f0)) < (rd t275 ((rd_T57 t274 x66_2).f0)))))) = w77 at n0_ n1_ n2_ n3_ n4_ n5_ n6_ ⊢
                    have HO_6 := n0_
                    have HO_7 := n1_
                    have HO_12 := n2_
                    have HO_13 := n3_
                    have HO_64 := n4_
                    have BK291 := n5_
                    have HB := n6_
                    clear n0_ n1_ n2_ n3_ n4_ n5_ n6_
                    have hcz78_0 : w77.cell? ⟨gb291, 0, none⟩ = some (.int .i64 ((rd_T57 t274 x66_2).f0)) := (blk_cell BK291.out 0).trans rfl
                    have hcz78_1 : w77.cell? ⟨gb291, 1, none⟩ = some (.int .i64 ((rd_T57 t274 x66_2).f1)) := (blk_cell BK291.out 1).trans rfl
                    have hfz78_0 := blk_frozen BK291.out 0
                    have hfz78_1 := blk_frozen BK291.out 1
                    have p295 : 0 ≤ (((rd_T57 t274 x66_2).f0) : Int) := of_decide_eq_true (by first | (with_reducible assumption) | assumption)
                    have q295 : ((rd_T57 t274 x66_2).f0) < (x12_2.length : Int) := of_decide_eq_true (by first | (with_reducible assumption) | assumption)
                    obtain ⟨ad295, e295, hx295_0⟩ := Kd.at_int (Kd.R_reads' HO_12.out).2.2 ((rd_T57 t274 x66_2).f0) p295 q295
                    obtain rfl : ad292 = ad295 := (by injection e295)
                    replace p295 := eq_true p295
                    replace q295 := eq_true q295
                    have p32 : 0 ≤ (((rd_T57 t274 x66_2).f0) : Int) := of_decide_eq_true (by first | (with_reducible assumption) | assumption)
                    have q32 : (((rd_T57 t274 x66_2).f0) : Int) < ((x12_2.length : Int) : Int) := of_decide_eq_true (by first | (with_reducible assumption) | assumption)
                    obtain ⟨go32, co32, eo32, gb32, gl32, cl32, HG32⟩ := Kd.R_form HO_12.out (by omega)
                    (first | cases eo32 | (injection eo32 with ea_ en_ ec_; (first | subst ea_ | (injection ea_ with ea_; subst ea_)); subst ec_; clear en_))
                    have GB32 := Aside0.mk gb32
                    have GG32 := Aside0.mk HG32
                    clear gb32 gl32 HG32
                    (first | simp only [add_plain] at hx292_0 | skip)
                    (first | simp only [add_plain] at hx295_0 | skip)
                    obtain ⟨hx32_0, hf32_0⟩ := Kd.R_celln 0 HO_12.out (((rd_T57 t274 x66_2).f0) : Int) p32 q32
                    replace p32 := eq_true p32
                    replace q32 := eq_true q32
                    obtain ⟨hy79_, hz79_⟩ := Kd.R_celln 0 HO_12.out (((rd_T57 t274 x66_2).f0) : Int) (of_decide_eq_true (by first | (with_reducible assumption) | assumption)) (of_decide_eq_true (by first | (with_reducible assumption) | assumption))
                    have HP79 := Kd.R_putg HO_12.out (((rd_T57 t274 x66_2).f0) : Int) (wrap64 ((rd x12_2 ((rd_T57 t274 x66_2).f0)) + 1))
                    try go_wp2_with (first | ((with_reducible refine gate_store (t := 3) (p := 91) rfl ?_); refine store_event (t := 3) (p := 91) (v := ?vo_w80) (w1 := (w77.setCell ⟨go32, (((rd_T57 t274 x66_2).f0) : Int).toNat, none⟩ (.int .i64 (wrap64 ((rd x12_2 ((rd_T57 t274 x66_2).f0)) + 1))))) ?hg ?ho ?hn ?hr ?_; (case ho => rfl); (case hg => rfl); (case hn => rfl); (case hr => first | (go_simp; done) | (go_simp; rfl)); intro w80 hw; have hg : w77.grownBy w80 (some go32) := (by rw [hw]; exact HP79.2); have hp_ : Kd.R (Kd.int .i64) 3 w80 w.heap.size (fun k_ => some k_ ≠ (.slice (some ad293) t275.length co10 : Value).ownBlock) (.slice (some ⟨go32, 0, none⟩) x12_2.length co75) y296 := (by rw [hw, Ny296.out]; exact HP79.1); clear HP79; have n0_ := Aside0.mk (Kd.R_over' (v := (.slice (some ⟨go32, 0, none⟩) x12_2.length co75)) (by (with_reducible repeat (first | apply Kd.R_alloc | apply Kd.R_drewN | apply Kd.R_drew)); exact HO_6.out) (Kd.R_typed HO_12.out) (by decide) hg); have n1_ := Aside0.mk (Kd.R_after (v := (.slice (some ⟨go32, 0, none⟩) x12_2.length co75)) (v1 := (.slice (some ⟨go32, 0, none⟩) x12_2.length co75)) (ok := (fun _ => True)) (by (with_reducible repeat (first | apply Kd.R_alloc | apply Kd.R_drewN | apply Kd.R_drew)); exact Kd.R_mono HO_7.out (fun _ hk => ⟨trivial, hk⟩)) hg (.inl rfl)); have n2_ := Aside0.mk (hp_); have n3_ := Aside0.mk (Kd.R_over' (v := (.slice (some ⟨go32, 0, none⟩) x12_2.length co75)) (by (with_reducible repeat (first | apply Kd.R_alloc | apply Kd.R_drewN | apply Kd.R_drew)); exact HO_13.out) (Kd.R_typed HO_12.out) (by decide) hg); have n4_ := Aside0.mk (Kd.R_over' (v := (.slice (some ⟨go32, 0, none⟩) x12_2.length co75)) (by (with_reducible repeat (first | apply Kd.R_alloc | apply Kd.R_drewN | apply Kd.R_drew)); exact HO_64.out) (Kd.R_typed HO_12.out) (by decide) hg); have n5_ := Aside0.mk (blk_grown (g := gb291) (o := .cells #[.int .i64 ((rd_T57 t274 x66_2).f0), .int .i64 ((rd_T57 t274 x66_2).f1)] 57 (0, 0)) (by (with_reducible repeat (first | refine blk_drewN ?_ _ | refine blk_drew ?_ | refine blk_alloc ?_ _)); exact BK291.out) hg (Kd.R_ne HO_12.out BK291.out (by decide))); have n6_ := Aside0.mk ((by rw [hw]; exact below_set (HB.out) GB32.out : Below w.heap.size w w80)); clear HO_6; clear HO_7; clear HO_12; clear HO_13; clear HO_64; clear BK291; clear HB; have HO_6 := n0_; have HO_7 := n1_; have HO_12 := n2_; have HO_13 := n3_; have HO_64 := n4_; have BK291 := n5_; have HB := n6_; clear n0_ n1_ n2_ n3_ n4_ n5_ n6_; clear hg hw hp_))
                    go_roundg k2
                    case measure => have := HJ6.out; have := HK2.out; omega
                    case rel => exact ⟨(y296), (y294), (false), (wrap64 (x66_2 + 1)), (by first | rfl | (simp; done) | (simp [*]; done)), (by first | rfl | (simp; done) | (simp [*]; done)), H', ⟨by have := HJ6.out; have := HK2.out; omega⟩, ⟨by (with_reducible repeat (first | apply Kd.R_alloc | apply Kd.R_drewN | apply Kd.R_drew)); exact Kd.R_mono HO_6.out (fun _ hk => trivial)⟩, ⟨by (with_reducible repeat (first | apply Kd.R_alloc | apply Kd.R_drewN | apply Kd.R_drew)); exact Kd.R_mono HO_7.out (fun _ hk => hk.2)⟩, ⟨by (with_reducible repeat (first | apply Kd.R_alloc | apply Kd.R_drewN | apply Kd.R_drew)); exact HO_12.out⟩, ⟨by (with_reducible repeat (first | apply Kd.R_alloc | apply Kd.R_drewN | apply Kd.R_drew)); exact HO_13.out⟩, ⟨by (with_reducible repeat (first | apply Kd.R_alloc | apply Kd.R_drewN | apply Kd.R_drew)); exact Kd.R_mono HO_64.out (fun _ hk => trivial)⟩, ⟨by repeat (first | (with_reducible first | exact HB.out | apply below_alloc | apply pw_below_drewN | apply below_drew1 | refine below_set ?_ GE291.out) | exact HB.out)⟩⟩
                  ·rw [if_neg c30] at H
                   exact absurd H (by simp)
                 ·rw [if_neg c29] at H
                  exact absurd H (by simp)
                ·rw [if_neg c28] at H
                 exact absurd H (by simp)
               ·rw [if_neg c27] at H
                exact absurd H (by simp)
              ·rw [if_neg c26] at H
               exact absurd H (by simp)
             ·rw [if_neg c25] at H
              exact absurd H (by simp)
            ·rw [if_neg c24] at H
             have c24b0 : decide (x66_2 < (t274.length : Int)) = false := decide_eq_false c24
             clear c24
             by_cases c81 : (t280 != x14_2) = true
             ·rw [if_pos c81] at H
              have c81b0 : (t280 != x14_2) = true := c81
              (try (have c81b1 : decide (t280 = x14_2) = false := by simpa using c81))
              (try (have c81b2 : (t280 == x14_2) = false := by simpa using c81))
              (try (have c81b3 : ¬ (t280 = x14_2) := by simpa using c81))
              clear c81
              obtain rfl := Option.some.inj H
              go_wp2
              go_ret
              exact ⟨by first | rfl | (simp [errW_none, errW_some] <;> rfl) | (simp [*, errW_none, errW_some] <;> rfl), by repeat (first | (with_reducible first | exact HB.out | apply below_alloc | apply pw_below_drewN | apply below_drew1) | exact HB.out)⟩
             ·rw [if_neg c81] at H
              have c81b0 : (t280 != x14_2) = false := by simpa using c81
              (try (have c81b1 : decide (t280 = x14_2) = true := by simpa using c81))
              (try (have c81b2 : (t280 == x14_2) = true := by simpa using c81))
              clear c81
              by_cases c82 : (t274.length : Int) = 0
              ·rw [if_pos c82] at H
               have c82b0 : ((t274.length : Int) == 0) = true := beq_iff_eq.mpr c82
               have c82b1 : ((t274.length : Int) != 0) = false := bne_eq_false_iff_eq.mpr c82
               clear c82
               obtain rfl := Option.some.inj H
               go_wp2
               go_ret
               exact ⟨by first | rfl | (simp [errW_none, errW_some] <;> rfl) | (simp [*, errW_none, errW_some] <;> rfl), by repeat (first | (with_reducible first | exact HB.out | apply below_alloc | apply pw_below_drewN | apply below_drew1) | exact HB.out)⟩
              ·rw [if_neg c82] at H
               have c82b0 : ((t274.length : Int) == 0) = false := beq_eq_false_iff_ne.mpr c82
               have c82b1 : ((t274.length : Int) != 0) = true := bne_iff_ne.mpr c82
               have c82b2 : ¬ (t274 = []) := fun h_ => c82 (by rw [h_]; rfl)
               replace H := Option.bind_eq_some_iff.mp H
               obtain ⟨⟨t299, t300⟩, A830, H⟩ := H
               replace H : (if t300 = true then ((laws_numberOf.f k2 l1).bind fun t303 => (if 0 ≤ (Int.tmod t303 (t274.length : Int)) then (if (Int.tmod t303 (t274.length : Int)) < (t299.length : Int) then ((impl_CutIsWhole.f k2 t273 t274 (rd_L3 t299 (Int.tmod t303 (t274.length : Int)))).bind fun bt305 => (if bt305.2 = true then (some bt305.1) else (some false))) else (none)) else (none))) else (some false)) = some r := H
               have A83 := Aside0.mk A830
               clear A830
               by_cases c84 : t300 = true
               ·subst c84
                have H1 : ((laws_numberOf.f k2 l1).bind fun t303 => (if 0 ≤ (Int.tmod t303 (t274.length : Int)) then (if (Int.tmod t303 (t274.length : Int)) < (t299.length : Int) then ((impl_CutIsWhole.f k2 t273 t274 (rd_L3 t299 (Int.tmod t303 (t274.length : Int)))).bind fun bt305 => (if bt305.2 = true then (some bt305.1) else (some false))) else (none)) else (none))) = some r := by rw [if_pos rfl] at H; exact H
                clear H
                have H := H1
                clear H1
                replace H := Option.bind_eq_some_iff.mp H
                obtain ⟨t303, A850, H⟩ := H
                replace H : (if 0 ≤ (Int.tmod t303 (t274.length : Int)) then (if (Int.tmod t303 (t274.length : Int)) < (t299.length : Int) then ((impl_CutIsWhole.f k2 t273 t274 (rd_L3 t299 (Int.tmod t303 (t274.length : Int)))).bind fun bt305 => (if bt305.2 = true then (some bt305.1) else (some false))) else (none)) else (none)) = some r := H
                have A85 := Aside0.mk A850
                clear A850
                obtain ⟨ji86, hji86⟩ : ∃ j_ : Int, (Int.tmod t303 (t274.length : Int)) = j_ := ⟨_, rfl⟩
                replace H : (if 0 ≤ (ji86) then (if (ji86) < (t299.length : Int) then ((impl_CutIsWhole.f k2 t273 t274 (rd_L3 t299 (ji86))).bind fun bt305 => (if bt305.2 = true then (some bt305.1) else (some false))) else (none)) else (none)) = some r := by first | (rw [hji86] at H; exact H) | (simp only [hji86] at H ⊢; exact H)
                (try rw [hji86] at A83)
                (try rw [hji86] at A85)
                by_cases c87 : 0 ≤ (ji86)
                ·rw [if_pos c87] at H
                 have c87b0 : decide (0 ≤ (ji86)) = true := decide_eq_true c87
                 clear c87
                 by_cases c88 : (ji86) < (t299.length : Int)
                 ·rw [if_pos c88] at H
                  have c88b0 : decide ((ji86) < (t299.length : Int)) = true := decide_eq_true c88
                  clear c88
                  replace H := Option.bind_eq_some_iff.mp H
                  obtain ⟨⟨t305, t306⟩, A890, H⟩ := H
                  replace H : (if t306 = true then (some t305) else (some false)) = some r := H
                  have A89 := Aside0.mk A890
                  clear A890
                  by_cases c90 : t306 = true
                  ·subst c90
                   have H1 : (some t305) = some r := by rw [if_pos rfl] at H; exact H
                   clear H
                   have H := H1
                   clear H1
                   obtain rfl := Option.some.inj H
                   go_wp2_with (first | ((with_reducible refine gate_callee (f := 30) rfl ?_); refine goesL_ (some 122) rfl rfl Try.func30 (by kernel_rfl) rfl #[.int .i64 t273, .slice Ao9 t274.length co9] rfl (by (try simp only [List.map_toArray, List.map_cons, List.map_nil]); first | done | rfl | (simp only [List.length_drop, List.length_take]; rfl)) ?_; (with_reducible refine (impl_VectorsOf.calls k2 t273 _ _ t274 t299 true _ ?side1 ?side2 A83.out).mono ?_); (case side1 => repeat (first | exact (Kd.R_reads' HO_6.out).2.2 | (with_reducible refine Kd.C_alloc ?_ _) | (with_reducible refine Kd.C_drewN ?_ _) | (with_reducible refine Kd.C_drew ?_))); (case side2 => exact (Kd.R_reads' HO_6.out).2.1); rintro e w91 ⟨v301, rfl, ho0, hb⟩; refine ⟨_, rfl, ?_⟩; have n0_ := Aside0.mk (Kd.R_below (by (with_reducible repeat (first | apply Kd.R_alloc | apply Kd.R_drewN | apply Kd.R_drew)); exact HO_6.out) hb); have n1_ := Aside0.mk (Kd.R_below (by (with_reducible repeat (first | apply Kd.R_alloc | apply Kd.R_drewN | apply Kd.R_drew)); exact HO_7.out) hb); have n2_ := Aside0.mk (Kd.R_below (by (with_reducible repeat (first | apply Kd.R_alloc | apply Kd.R_drewN | apply Kd.R_drew)); exact HO_12.out) hb); have n3_ := Aside0.mk (Kd.R_below (by (with_reducible repeat (first | apply Kd.R_alloc | apply Kd.R_drewN | apply Kd.R_drew)); exact HO_13.out) hb); have n4_ := Aside0.mk (Kd.R_below (by (with_reducible repeat (first | apply Kd.R_alloc | apply Kd.R_drewN | apply Kd.R_drew)); exact HO_64.out) hb); have n5_ := Aside0.mk (Kd.S_lower (Kd.S_new' (Kd.S_new' ho0 (Kd.R_lt (by (with_reducible repeat (first | apply Kd.R_alloc | apply Kd.R_drewN | apply Kd.R_drew)); exact HO_7.out))) (Kd.R_lt (by (with_reducible repeat (first | apply Kd.R_alloc | apply Kd.R_drewN | apply Kd.R_drew)); exact HO_12.out))) (below_size (by repeat (first | (with_reducible first | exact HB.out | apply below_alloc | apply pw_below_drewN | apply below_drew1) | exact HB.out)))); have n6_ := Aside0.mk (below_step (by repeat (first | (with_reducible first | exact HB.out | apply below_alloc | apply pw_below_drewN | apply below_drew1) | exact HB.out)) hb); clear HO_6; clear HO_7; clear HO_12; clear HO_13; clear HO_64; clear HB; have HO_6 := n0_; have HO_7 := n1_; have HO_12 := n2_; have HO_13 := n3_; have HO_64 := n4_; have HO302 := n5_; have HB := n6_; clear n0_ n1_ n2_ n3_ n4_ n5_ n6_; (try clear hb); (try clear hb2); (try clear hk); (try clear hi); (try clear ho0)) | ((with_reducible refine gate_callee (f := 41) rfl ?_); refine goesL_ (some 132) rfl rfl Try.func41 (by kernel_rfl) rfl #[.slice A1 l1.length c1] rfl (by (try simp only [List.map_toArray, List.map_cons, List.map_nil]); first | done | rfl | (simp only [List.length_drop, List.length_take]; rfl)) ?_; (with_reducible refine (laws_numberOf.calls k2 _ _ l1 t303 _ ?side1 ?side2 A85.out).mono ?_); (case side1 => repeat (first | exact (Kd.C_below HR1.out HB.out) | (with_reducible refine Kd.C_alloc ?_ _) | (with_reducible refine Kd.C_drewN ?_ _) | (with_reducible refine Kd.C_drew ?_))); (case side2 => exact HC1.out); rintro e w' ⟨rfl, ⟨nd, rfl⟩⟩; refine ⟨_, rfl, ?_⟩; obtain ⟨Ao92, co92, eo92⟩ := Kd.S_slice HO302.out; subst eo92; have p304 : 0 ≤ ((ji86) : Int) := of_decide_eq_true (by first | (with_reducible assumption) | assumption); have q304 : (ji86) < (t299.length : Int) := of_decide_eq_true (by first | (with_reducible assumption) | assumption); obtain ⟨ad304, A304_0, c304_0, e304, hx304_0, hl304_0, hi304_0⟩ := at_L3 (Kd.S_reads' HO302.out).2.2 (ji86) p304 q304; cases e304; obtain ⟨ce304, hce304, hMe304, hcc304⟩ := Kd.S_get HO302.out [] (ji86) p304 (by first | exact q304 | exact of_decide_eq_true (by first | (with_reducible assumption) | assumption) | (have e_ := (Kd.S_reads' HO302.out).1; omega)); obtain ⟨ve304_0, rfl, ge304_0⟩ := hMe304; have hv304_0 := hcc304 0 _ rfl; rw [Nat.add_zero, show ((Kd.slice 3 (Kd.int .i64))).sz = 1 from rfl, Nat.mul_one] at hv304_0; replace hv304_0 := Option.some.inj (hv304_0.symm.trans hx304_0); rw [hv304_0] at ge304_0; have HL304_0 := Aside0.mk (show Kd.R (Kd.int .i64) 3 _ _ _ _ (rd_L3 t299 (ji86)) from ge304_0); clear hv304_0 ge304_0; clear hcc304 hce304; have HR304_0 := Aside0.mk hi304_0; have HC304_0 := Aside0.mk hl304_0; clear hi304_0 hl304_0; replace p304 := eq_true p304; replace q304 := eq_true q304) | ((with_reducible refine gate_callee (f := 37) rfl ?_); refine goesL_ (some 138) rfl rfl Try.func37 (by kernel_rfl) rfl #[.int .i64 t273, .slice Ao9 t274.length co9, .slice A304_0 (rd_L3 t299 (ji86)).length c304_0] rfl (by (try simp only [List.map_toArray, List.map_cons, List.map_nil]); first | done | (simp only [hji86]; rfl) | rfl | (simp only [List.length_drop, List.length_take]; rfl)) ?_; (with_reducible refine (impl_CutIsWhole.calls k2 t273 _ _ t274 _ _ (rd_L3 t299 (ji86)) t305 true _ ?side1 ?side2 ?side3 ?side4 A89.out).mono ?_); (case side1 => repeat (first | exact (Kd.R_reads' HO_6.out).2.2 | (with_reducible refine Kd.C_alloc ?_ _) | (with_reducible refine Kd.C_drewN ?_ _) | (with_reducible refine Kd.C_drew ?_))); (case side2 => exact (Kd.R_reads' HO_6.out).2.1); (case side3 => repeat (first | exact (by repeat (first | (with_reducible exact HR304_0.out) | (with_reducible refine Kd.C_alloc ?_ _) | (with_reducible refine Kd.C_drewN ?_ _) | (with_reducible refine Kd.C_drew ?_) | exact HR304_0.out)) | (with_reducible refine Kd.C_alloc ?_ _) | (with_reducible refine Kd.C_drewN ?_ _) | (with_reducible refine Kd.C_drew ?_))); (case side4 => exact HC304_0.out); rintro e w93 ⟨rfl, hb⟩; refine ⟨_, rfl, ?_⟩; have n0_ := Aside0.mk (Kd.R_below (by (with_reducible repeat (first | apply Kd.R_alloc | apply Kd.R_drewN | apply Kd.R_drew)); exact HO_6.out) hb); have n1_ := Aside0.mk (Kd.R_below (by (with_reducible repeat (first | apply Kd.R_alloc | apply Kd.R_drewN | apply Kd.R_drew)); exact HO_7.out) hb); have n2_ := Aside0.mk (Kd.R_below (by (with_reducible repeat (first | apply Kd.R_alloc | apply Kd.R_drewN | apply Kd.R_drew)); exact HO_12.out) hb); have n3_ := Aside0.mk (Kd.R_below (by (with_reducible repeat (first | apply Kd.R_alloc | apply Kd.R_drewN | apply Kd.R_drew)); exact HO_13.out) hb); have n4_ := Aside0.mk (Kd.R_below (by (with_reducible repeat (first | apply Kd.R_alloc | apply Kd.R_drewN | apply Kd.R_drew)); exact HO_64.out) hb); have n5_ := Aside0.mk (Kd.S_below (by (with_reducible repeat (first | apply Kd.S_alloc | apply Kd.S_drewN | apply Kd.S_drew)); exact HO302.out) hb); have n6_ := Aside0.mk (Kd.R_below (by (with_reducible repeat (first | apply Kd.R_alloc | apply Kd.R_drewN | apply Kd.R_drew)); exact HL304_0.out) hb); have n7_ := Aside0.mk (Kd.C_below (by repeat (first | (with_reducible exact HR304_0.out) | (with_reducible refine Kd.C_alloc ?_ _) | (with_reducible refine Kd.C_drewN ?_ _) | (with_reducible refine Kd.C_drew ?_) | exact HR304_0.out)) hb); have n8_ := Aside0.mk (below_step (by repeat (first | (with_reducible first | exact HB.out | apply below_alloc | apply pw_below_drewN | apply below_drew1) | exact HB.out)) hb); clear HO_6; clear HO_7; clear HO_12; clear HO_13; clear HO_64; clear HO302; clear HL304_0; clear HR304_0; clear HB; have HO_6 := n0_; have HO_7 := n1_; have HO_12 := n2_; have HO_13 := n3_; have HO_64 := n4_; have HO302 := n5_; have HL304_0 := n6_; have HR304_0 := n7_; have HB := n8_; clear n0_ n1_ n2_ n3_ n4_ n5_ n6_ n7_ n8_; (try clear hb); (try clear hb2); (try clear hk); (try clear hi)))
                   go_ret
                   exact ⟨by first | rfl | (simp [errW_none, errW_some] <;> rfl) | (simp only [← hji86]; first | rfl | (simp [errW_none, errW_some] <;> rfl)) | (simp [*, errW_none, errW_some] <;> rfl), by repeat (first | (with_reducible first | exact HB.out | apply below_alloc | apply pw_below_drewN | apply below_drew1) | exact HB.out)⟩
                  ·replace c90 := Bool.eq_false_iff.mpr c90
                   subst c90
                   have H1 : (some false) = some r := by rw [if_neg (show ¬ (false = true) by decide)] at H; exact H
                   clear H
                   have H := H1
                   clear H1
                   obtain rfl := Option.some.inj H
                   go_wp2_with (first | ((with_reducible refine gate_callee (f := 30) rfl ?_); refine goesL_ (some 122) rfl rfl Try.func30 (by kernel_rfl) rfl #[.int .i64 t273, .slice Ao9 t274.length co9] rfl (by (try simp only [List.map_toArray, List.map_cons, List.map_nil]); first | done | rfl | (simp only [List.length_drop, List.length_take]; rfl)) ?_; (with_reducible refine (impl_VectorsOf.calls k2 t273 _ _ t274 t299 true _ ?side1 ?side2 A83.out).mono ?_); (case side1 => repeat (first | exact (Kd.R_reads' HO_6.out).2.2 | (with_reducible refine Kd.C_alloc ?_ _) | (with_reducible refine Kd.C_drewN ?_ _) | (with_reducible refine Kd.C_drew ?_))); (case side2 => exact (Kd.R_reads' HO_6.out).2.1); rintro e w94 ⟨v301, rfl, ho0, hb⟩; refine ⟨_, rfl, ?_⟩; have n0_ := Aside0.mk (Kd.R_below (by (with_reducible repeat (first | apply Kd.R_alloc | apply Kd.R_drewN | apply Kd.R_drew)); exact HO_6.out) hb); have n1_ := Aside0.mk (Kd.R_below (by (with_reducible repeat (first | apply Kd.R_alloc | apply Kd.R_drewN | apply Kd.R_drew)); exact HO_7.out) hb); have n2_ := Aside0.mk (Kd.R_below (by (with_reducible repeat (first | apply Kd.R_alloc | apply Kd.R_drewN | apply Kd.R_drew)); exact HO_12.out) hb); have n3_ := Aside0.mk (Kd.R_below (by (with_reducible repeat (first | apply Kd.R_alloc | apply Kd.R_drewN | apply Kd.R_drew)); exact HO_13.out) hb); have n4_ := Aside0.mk (Kd.R_below (by (with_reducible repeat (first | apply Kd.R_alloc | apply Kd.R_drewN | apply Kd.R_drew)); exact HO_64.out) hb); have n5_ := Aside0.mk (Kd.S_lower (Kd.S_new' (Kd.S_new' ho0 (Kd.R_lt (by (with_reducible repeat (first | apply Kd.R_alloc | apply Kd.R_drewN | apply Kd.R_drew)); exact HO_7.out))) (Kd.R_lt (by (with_reducible repeat (first | apply Kd.R_alloc | apply Kd.R_drewN | apply Kd.R_drew)); exact HO_12.out))) (below_size (by repeat (first | (with_reducible first | exact HB.out | apply below_alloc | apply pw_below_drewN | apply below_drew1) | exact HB.out)))); have n6_ := Aside0.mk (below_step (by repeat (first | (with_reducible first | exact HB.out | apply below_alloc | apply pw_below_drewN | apply below_drew1) | exact HB.out)) hb); clear HO_6; clear HO_7; clear HO_12; clear HO_13; clear HO_64; clear HB; have HO_6 := n0_; have HO_7 := n1_; have HO_12 := n2_; have HO_13 := n3_; have HO_64 := n4_; have HO302 := n5_; have HB := n6_; clear n0_ n1_ n2_ n3_ n4_ n5_ n6_; (try clear hb); (try clear hb2); (try clear hk); (try clear hi); (try clear ho0)) | ((with_reducible refine gate_callee (f := 41) rfl ?_); refine goesL_ (some 132) rfl rfl Try.func41 (by kernel_rfl) rfl #[.slice A1 l1.length c1] rfl (by (try simp only [List.map_toArray, List.map_cons, List.map_nil]); first | done | rfl | (simp only [List.length_drop, List.length_take]; rfl)) ?_; (with_reducible refine (laws_numberOf.calls k2 _ _ l1 t303 _ ?side1 ?side2 A85.out).mono ?_); (case side1 => repeat (first | exact (Kd.C_below HR1.out HB.out) | (with_reducible refine Kd.C_alloc ?_ _) | (with_reducible refine Kd.C_drewN ?_ _) | (with_reducible refine Kd.C_drew ?_))); (case side2 => exact HC1.out); rintro e w' ⟨rfl, ⟨nd, rfl⟩⟩; refine ⟨_, rfl, ?_⟩; obtain ⟨Ao95, co95, eo95⟩ := Kd.S_slice HO302.out; subst eo95; have p304 : 0 ≤ ((ji86) : Int) := of_decide_eq_true (by first | (with_reducible assumption) | assumption); have q304 : (ji86) < (t299.length : Int) := of_decide_eq_true (by first | (with_reducible assumption) | assumption); obtain ⟨ad304, A304_0, c304_0, e304, hx304_0, hl304_0, hi304_0⟩ := at_L3 (Kd.S_reads' HO302.out).2.2 (ji86) p304 q304; cases e304; obtain ⟨ce304, hce304, hMe304, hcc304⟩ := Kd.S_get HO302.out [] (ji86) p304 (by first | exact q304 | exact of_decide_eq_true (by first | (with_reducible assumption) | assumption) | (have e_ := (Kd.S_reads' HO302.out).1; omega)); obtain ⟨ve304_0, rfl, ge304_0⟩ := hMe304; have hv304_0 := hcc304 0 _ rfl; rw [Nat.add_zero, show ((Kd.slice 3 (Kd.int .i64))).sz = 1 from rfl, Nat.mul_one] at hv304_0; replace hv304_0 := Option.some.inj (hv304_0.symm.trans hx304_0); rw [hv304_0] at ge304_0; have HL304_0 := Aside0.mk (show Kd.R (Kd.int .i64) 3 _ _ _ _ (rd_L3 t299 (ji86)) from ge304_0); clear hv304_0 ge304_0; clear hcc304 hce304; have HR304_0 := Aside0.mk hi304_0; have HC304_0 := Aside0.mk hl304_0; clear hi304_0 hl304_0; replace p304 := eq_true p304; replace q304 := eq_true q304) | ((with_reducible refine gate_callee (f := 37) rfl ?_); refine goesL_ (some 138) rfl rfl Try.func37 (by kernel_rfl) rfl #[.int .i64 t273, .slice Ao9 t274.length co9, .slice A304_0 (rd_L3 t299 (ji86)).length c304_0] rfl (by (try simp only [List.map_toArray, List.map_cons, List.map_nil]); first | done | (simp only [hji86]; rfl) | rfl | (simp only [List.length_drop, List.length_take]; rfl)) ?_; (with_reducible refine (impl_CutIsWhole.calls k2 t273 _ _ t274 _ _ (rd_L3 t299 (ji86)) t305 false _ ?side1 ?side2 ?side3 ?side4 A89.out).mono ?_); (case side1 => repeat (first | exact (Kd.R_reads' HO_6.out).2.2 | (with_reducible refine Kd.C_alloc ?_ _) | (with_reducible refine Kd.C_drewN ?_ _) | (with_reducible refine Kd.C_drew ?_))); (case side2 => exact (Kd.R_reads' HO_6.out).2.1); (case side3 => repeat (first | exact (by repeat (first | (with_reducible exact HR304_0.out) | (with_reducible refine Kd.C_alloc ?_ _) | (with_reducible refine Kd.C_drewN ?_ _) | (with_reducible refine Kd.C_drew ?_) | exact HR304_0.out)) | (with_reducible refine Kd.C_alloc ?_ _) | (with_reducible refine Kd.C_drewN ?_ _) | (with_reducible refine Kd.C_drew ?_))); (case side4 => exact HC304_0.out); rintro e w96 ⟨rfl, hb⟩; refine ⟨_, rfl, ?_⟩; have n0_ := Aside0.mk (Kd.R_below (by (with_reducible repeat (first | apply Kd.R_alloc | apply Kd.R_drewN | apply Kd.R_drew)); exact HO_6.out) hb); have n1_ := Aside0.mk (Kd.R_below (by (with_reducible repeat (first | apply Kd.R_alloc | apply Kd.R_drewN | apply Kd.R_drew)); exact HO_7.out) hb); have n2_ := Aside0.mk (Kd.R_below (by (with_reducible repeat (first | apply Kd.R_alloc | apply Kd.R_drewN | apply Kd.R_drew)); exact HO_12.out) hb); have n3_ := Aside0.mk (Kd.R_below (by (with_reducible repeat (first | apply Kd.R_alloc | apply Kd.R_drewN | apply Kd.R_drew)); exact HO_13.out) hb); have n4_ := Aside0.mk (Kd.R_below (by (with_reducible repeat (first | apply Kd.R_alloc | apply Kd.R_drewN | apply Kd.R_drew)); exact HO_64.out) hb); have n5_ := Aside0.mk (Kd.S_below (by (with_reducible repeat (first | apply Kd.S_alloc | apply Kd.S_drewN | apply Kd.S_drew)); exact HO302.out) hb); have n6_ := Aside0.mk (Kd.R_below (by (with_reducible repeat (first | apply Kd.R_alloc | apply Kd.R_drewN | apply Kd.R_drew)); exact HL304_0.out) hb); have n7_ := Aside0.mk (Kd.C_below (by repeat (first | (with_reducible exact HR304_0.out) | (with_reducible refine Kd.C_alloc ?_ _) | (with_reducible refine Kd.C_drewN ?_ _) | (with_reducible refine Kd.C_drew ?_) | exact HR304_0.out)) hb); have n8_ := Aside0.mk (below_step (by repeat (first | (with_reducible first | exact HB.out | apply below_alloc | apply pw_below_drewN | apply below_drew1) | exact HB.out)) hb); clear HO_6; clear HO_7; clear HO_12; clear HO_13; clear HO_64; clear HO302; clear HL304_0; clear HR304_0; clear HB; have HO_6 := n0_; have HO_7 := n1_; have HO_12 := n2_; have HO_13 := n3_; have HO_64 := n4_; have HO302 := n5_; have HL304_0 := n6_; have HR304_0 := n7_; have HB := n8_; clear n0_ n1_ n2_ n3_ n4_ n5_ n6_ n7_ n8_; (try clear hb); (try clear hb2); (try clear hk); (try clear hi)))
                   go_ret
                   exact ⟨by first | rfl | (simp [errW_none, errW_some] <;> rfl) | (simp only [← hji86]; first | rfl | (simp [errW_none, errW_some] <;> rfl)) | (simp [*, errW_none, errW_some] <;> rfl), by repeat (first | (with_reducible first | exact HB.out | apply below_alloc | apply pw_below_drewN | apply below_drew1) | exact HB.out)⟩
                 ·rw [if_neg c88] at H
                  exact absurd H (by simp)
                ·rw [if_neg c87] at H
                 exact absurd H (by simp)
               ·replace c84 := Bool.eq_false_iff.mpr c84
                subst c84
                have H1 : (some false) = some r := by rw [if_neg (show ¬ (false = true) by decide)] at H; exact H
                clear H
                have H := H1
                clear H1
                obtain rfl := Option.some.inj H
                go_wp2_with (first | ((with_reducible refine gate_callee (f := 30) rfl ?_); refine goesL_ (some 122) rfl rfl Try.func30 (by kernel_rfl) rfl #[.int .i64 t273, .slice Ao9 t274.length co9] rfl (by (try simp only [List.map_toArray, List.map_cons, List.map_nil]); first | done | rfl | (simp only [List.length_drop, List.length_take]; rfl)) ?_; (with_reducible refine (impl_VectorsOf.calls k2 t273 _ _ t274 t299 false _ ?side1 ?side2 A83.out).mono ?_); (case side1 => repeat (first | exact (Kd.R_reads' HO_6.out).2.2 | (with_reducible refine Kd.C_alloc ?_ _) | (with_reducible refine Kd.C_drewN ?_ _) | (with_reducible refine Kd.C_drew ?_))); (case side2 => exact (Kd.R_reads' HO_6.out).2.1); rintro e w97 ⟨v301, rfl, ho0, hb⟩; refine ⟨_, rfl, ?_⟩; have n0_ := Aside0.mk (Kd.R_below (by (with_reducible repeat (first | apply Kd.R_alloc | apply Kd.R_drewN | apply Kd.R_drew)); exact HO_6.out) hb); have n1_ := Aside0.mk (Kd.R_below (by (with_reducible repeat (first | apply Kd.R_alloc | apply Kd.R_drewN | apply Kd.R_drew)); exact HO_7.out) hb); have n2_ := Aside0.mk (Kd.R_below (by (with_reducible repeat (first | apply Kd.R_alloc | apply Kd.R_drewN | apply Kd.R_drew)); exact HO_12.out) hb); have n3_ := Aside0.mk (Kd.R_below (by (with_reducible repeat (first | apply Kd.R_alloc | apply Kd.R_drewN | apply Kd.R_drew)); exact HO_13.out) hb); have n4_ := Aside0.mk (Kd.R_below (by (with_reducible repeat (first | apply Kd.R_alloc | apply Kd.R_drewN | apply Kd.R_drew)); exact HO_64.out) hb); have n5_ := Aside0.mk (Kd.S_lower (Kd.S_new' (Kd.S_new' ho0 (Kd.R_lt (by (with_reducible repeat (first | apply Kd.R_alloc | apply Kd.R_drewN | apply Kd.R_drew)); exact HO_7.out))) (Kd.R_lt (by (with_reducible repeat (first | apply Kd.R_alloc | apply Kd.R_drewN | apply Kd.R_drew)); exact HO_12.out))) (below_size (by repeat (first | (with_reducible first | exact HB.out | apply below_alloc | apply pw_below_drewN | apply below_drew1) | exact HB.out)))); have n6_ := Aside0.mk (below_step (by repeat (first | (with_reducible first | exact HB.out | apply below_alloc | apply pw_below_drewN | apply below_drew1) | exact HB.out)) hb); clear HO_6; clear HO_7; clear HO_12; clear HO_13; clear HO_64; clear HB; have HO_6 := n0_; have HO_7 := n1_; have HO_12 := n2_; have HO_13 := n3_; have HO_64 := n4_; have HO302 := n5_; have HB := n6_; clear n0_ n1_ n2_ n3_ n4_ n5_ n6_; (try clear hb); (try clear hb2); (try clear hk); (try clear hi); (try clear ho0)))
                go_ret
                exact ⟨by first | rfl | (simp [errW_none, errW_some] <;> rfl) | (simp [*, errW_none, errW_some] <;> rfl), by repeat (first | (with_reducible first | exact HB.out | apply below_alloc | apply pw_below_drewN | apply below_drew1) | exact HB.out)⟩
         ·rw [if_neg c19] at H
          exact absurd H (by simp)
        ·rw [if_neg c18] at H
         exact absurd H (by simp)
       ·rw [if_neg c17] at H
        exact absurd H (by simp)
      ·rw [if_neg c16] at H
       exact absurd H (by simp)
     ·replace c15 := Bool.eq_false_iff.mpr c15
      subst c15
      have H1 : (some (!t280)) = some r := by rw [if_neg (show ¬ (false = true) by decide)] at H; exact H
      clear H
      have H := H1
      clear H1
      obtain rfl := Option.some.inj H
      go_wp2
      go_ret
      exact ⟨by first | rfl | (simp [errW_none, errW_some] <;> rfl) | (simp [*, errW_none, errW_some] <;> rfl), by repeat (first | (with_reducible first | exact HB.out | apply below_alloc | apply pw_below_drewN | apply below_drew1) | exact HB.out)⟩

/-- THE ONE PURE STATEMENT of laws_FnCuts: yours. -/
def laws_FnCuts.Pure : Prop := ∀ (l0 : List Int) (l1 : List Int), l0.length ≤ maxLen → l0.length * 1 ≤ 140737488351232 → (∀ x ∈ l0, (Lit.int .u8 x).wf = true) → l1.length ≤ maxLen → l1.length * 1 ≤ 140737488351232 → (∀ x ∈ l1, (Lit.int .u8 x).wf = true) → ∃ k, laws_FnCuts.f k l0 l1 = some true
theorem laws_FnCuts.walk (P : laws_FnCuts.Pure) (a0 : Option Addr) (len0 cap0 : Nat) (z0 : List Int) (a1 : Option Addr) (len1 cap1 : Nat) (z1 : List Int) (w : World) (w0 : (a0 = none ∧ len0 = 0 ∧ cap0 = 0 ∧ z0 = []) ∨ ∃ x, a0 = some x ∧ len0 ≤ cap0 ∧ cap0 ≤ maxLen ∧ z0.length = cap0 ∧ (∀ i, i < z0.length → w.cell? (x.add i) = some (.int .u8 (z0.getD i 0))) ∧ ∀ n ∈ z0, (Lit.int .u8 n).wf = true) (y0 : len0 * 1 ≤ 140737488351232) (w1 : (a1 = none ∧ len1 = 0 ∧ cap1 = 0 ∧ z1 = []) ∨ ∃ x, a1 = some x ∧ len1 ≤ cap1 ∧ cap1 ≤ maxLen ∧ z1.length = cap1 ∧ (∀ i, i < z1.length → w.cell? (x.add i) = some (.int .u8 (z1.getD i 0))) ∧ ∀ n ∈ z1, (Lit.int .u8 n).wf = true) (y1 : len1 * 1 ≤ 140737488351232) :
  Calls Try.prog 11 #[.slice a0 len0 cap0, .slice a1 len1 cap1] w fun e w' => e = .returned (.bool true) ∧ Below w.heap.size w w' := by
 obtain ⟨l0, rfl, hr0, hm0, hw0, hc0⟩ := ReadsInt.ofRowC w0
 obtain ⟨l1, rfl, hr1, hm1, hw1, hc1⟩ := ReadsInt.ofRowC w1
 obtain ⟨k, h⟩ := P l0 l1 hm0 y0 hw0 hm1 y1 hw1
 refine (laws_FnCuts.calls k _ _ l0 _ _ l1 true w (Kd.C_of_reads (d := (0 : Int)) (h1 := fun _ => rfl) hr0) hc0 (Kd.C_of_reads (d := (0 : Int)) (h1 := fun _ => rfl) hr1) hc1 h).mono ?_
 rintro e w' ⟨rfl, hd⟩
 exact ⟨rfl, hd⟩

end Go.Proofs.Ytmhhjmadpnkelaa.PFnCuts
