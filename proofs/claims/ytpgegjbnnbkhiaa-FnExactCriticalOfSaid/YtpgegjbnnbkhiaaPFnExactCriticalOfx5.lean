-- written by xprint.py (a program of this session's, over the kit's print): printed functions, and some by hand
import Derived.Test.YtpgegjbnnbkhiaaPFnExactCriticalOfx0
import Derived.Test.YtpgegjbnnbkhiaaPFnExactCriticalOfx3
import Derived.Test.YtpgegjbnnbkhiaaPFnExactCriticalOfx4
namespace Go.Proofs.Ytpgegjbnnbkhiaa.PFnExactCriticalOf
open Go.RowKit Go.Proofs.YtpgegjbnnbkhiaaW.PrintWords Go.Proofs.YtpgegjbnnbkhiaaW.PrintLast Go.Proofs.YtpgegjbnnbkhiaaW.PrintMore
attribute [local go_sem] max2_int min2_int max_two min_two max_three min_three max_four min_four   -- for this text's walks alone
set_option linter.unusedVariables false
set_option linter.unusedSimpArgs false

/-! ### spec_l4Latest: function 56, by hand -/
mutual
def spec_l4Latest.l0 : Nat → List (S53) → List Int → Int → List Int → Int → Int → Option (List Int)
 | 0, _, _, _, _, _, _ => none
 | k + 1, x0, x3, x6, x7, x28, x29 => if x29 < x28 then (if 0 ≤ x29 then (if x29 < (x0.length : Int) then (if x29 < (x7.length : Int) then (spec_l4Latest.l0 k x0 x3 x6 (x7.set (x29 : Int).toNat (wrap64 (x6 - ((rd_T53 x0 x29).f0)))) x28 (wrap64 (x29 + 1))) else (none)) else (none)) else (none)) else (spec_l4Latest.l1 k x0 x3 x7 (wrap64 ((x3.length : Int) - 1)))
def spec_l4Latest.l1 : Nat → List (S53) → List Int → List Int → Int → Option (List Int)
 | 0, _, _, _, _ => none
 | k + 1, x0, x3, x7, x9 => if x9 ≥ 0 then (if 0 ≤ x9 then (if x9 < (x3.length : Int) then (if 0 ≤ (rd x3 x9) then (if (rd x3 x9) < (x0.length : Int) then (spec_l4Latest.l2 k x0 x3 x7 x9 (rd x3 x9) ((rd_T53 x0 (rd x3 x9)).f1) (((rd_T53 x0 (rd x3 x9)).f1).length : Int) 0) else (none)) else (none)) else (none)) else (none)) else (some x7)
def spec_l4Latest.l2 : Nat → List (S53) → List Int → List Int → Int → Int → List Int → Int → Int → Option (List Int)
 | 0, _, _, _, _, _, _, _, _ => none
 | k + 1, x0, x3, x7, x9, x10, x58, x59, x60 => if x60 < x59 then (if 0 ≤ x60 then (if x60 < (x58.length : Int) then (if 0 ≤ x10 then (if x10 < (x7.length : Int) then (if 0 ≤ (rd x58 x60) then (if (rd x58 x60) < (x0.length : Int) then (if (rd x58 x60) < (x7.length : Int) then (if (wrap64 ((rd x7 x10) - ((rd_T53 x0 (rd x58 x60)).f0))) < (rd x7 (rd x58 x60)) then (spec_l4Latest.l2 k x0 x3 (x7.set ((rd x58 x60) : Int).toNat (wrap64 ((rd x7 x10) - ((rd_T53 x0 (rd x58 x60)).f0)))) x9 x10 x58 x59 (wrap64 (x60 + 1))) else (spec_l4Latest.l2 k x0 x3 x7 x9 x10 x58 x59 (wrap64 (x60 + 1)))) else (none)) else (none)) else (none)) else (none)) else (none)) else (none)) else (none)) else (spec_l4Latest.l1 k x0 x3 x7 (wrap64 (x9 - 1)))
end
def spec_l4Latest.f (k : Nat) (l0 : List (S53)) : Option (List Int) := (spec_l4Order.f k l0).bind fun bt159 => ((spec_l4Earliest.f k l0).bind fun bt163 => (if 0 ≤ (l0.length : Int) then (if ((l0.length : Int) : Int).toNat ≤ 35184372088832 then ((some (List.replicate ((l0.length : Int) : Int).toNat 0 : List Int)).bind fun y167 => (spec_l4Latest.l0 k l0 bt159.1 bt163.2 y167 (y167.length : Int) 0)) else (none)) else (none)))
theorem spec_l4Latest.mono_l : ∀ k, (∀ y0 y1 y2 y3 y4 y5, LeO (spec_l4Latest.l0 k y0 y1 y2 y3 y4 y5) (spec_l4Latest.l0 (k + 1) y0 y1 y2 y3 y4 y5)) ∧ (∀ y0 y1 y2 y3, LeO (spec_l4Latest.l1 k y0 y1 y2 y3) (spec_l4Latest.l1 (k + 1) y0 y1 y2 y3)) ∧ (∀ y0 y1 y2 y3 y4 y5 y6 y7, LeO (spec_l4Latest.l2 k y0 y1 y2 y3 y4 y5 y6 y7) (spec_l4Latest.l2 (k + 1) y0 y1 y2 y3 y4 y5 y6 y7))
 | 0 => ⟨fun _ _ _ _ _ _ r h => by simp [spec_l4Latest.l0] at h, fun _ _ _ _ r h => by simp [spec_l4Latest.l1] at h, fun _ _ _ _ _ _ _ _ r h => by simp [spec_l4Latest.l2] at h⟩
 | k + 1 => by
  obtain ⟨ih0, ih1, ih2⟩ := spec_l4Latest.mono_l k
  refine ⟨?_, ?_, ?_⟩
  ·intro y0 y1 y2 y3 y4 y5
   unfold spec_l4Latest.l0
   repeat' first
   | (with_reducible exact ih0 _ _ _ _ _ _)
   | (with_reducible exact ih1 _ _ _ _)
   | (with_reducible exact ih2 _ _ _ _ _ _ _ _)
   | (with_reducible exact spec_l4Earliest.mono _ _)
   | (with_reducible exact spec_l4Order.mono _ _)
   | (with_reducible exact LeO.refl _)
   | (with_reducible exact LeO.none _)
   | (with_reducible refine LeO.ite ?_ ?_)
   | (with_reducible refine LeO.bind ?_ (fun _ => ?_))
   | exact ih0 _ _ _ _ _ _
   | exact ih1 _ _ _ _
   | exact ih2 _ _ _ _ _ _ _ _
   | exact spec_l4Earliest.mono _ _
   | exact spec_l4Order.mono _ _
   | exact LeO.none _
   | refine LeO.ite ?_ ?_
   | refine LeO.bind ?_ (fun _ => ?_)
  ·intro y0 y1 y2 y3
   unfold spec_l4Latest.l1
   repeat' first
   | (with_reducible exact ih0 _ _ _ _ _ _)
   | (with_reducible exact ih1 _ _ _ _)
   | (with_reducible exact ih2 _ _ _ _ _ _ _ _)
   | (with_reducible exact spec_l4Earliest.mono _ _)
   | (with_reducible exact spec_l4Order.mono _ _)
   | (with_reducible exact LeO.refl _)
   | (with_reducible exact LeO.none _)
   | (with_reducible refine LeO.ite ?_ ?_)
   | (with_reducible refine LeO.bind ?_ (fun _ => ?_))
   | exact ih0 _ _ _ _ _ _
   | exact ih1 _ _ _ _
   | exact ih2 _ _ _ _ _ _ _ _
   | exact spec_l4Earliest.mono _ _
   | exact spec_l4Order.mono _ _
   | exact LeO.none _
   | refine LeO.ite ?_ ?_
   | refine LeO.bind ?_ (fun _ => ?_)
  ·intro y0 y1 y2 y3 y4 y5 y6 y7
   unfold spec_l4Latest.l2
   repeat' first
   | (with_reducible exact ih0 _ _ _ _ _ _)
   | (with_reducible exact ih1 _ _ _ _)
   | (with_reducible exact ih2 _ _ _ _ _ _ _ _)
   | (with_reducible exact spec_l4Earliest.mono _ _)
   | (with_reducible exact spec_l4Order.mono _ _)
   | (with_reducible exact LeO.refl _)
   | (with_reducible exact LeO.none _)
   | (with_reducible refine LeO.ite ?_ ?_)
   | (with_reducible refine LeO.bind ?_ (fun _ => ?_))
   | exact ih0 _ _ _ _ _ _
   | exact ih1 _ _ _ _
   | exact ih2 _ _ _ _ _ _ _ _
   | exact spec_l4Earliest.mono _ _
   | exact spec_l4Order.mono _ _
   | exact LeO.none _
   | refine LeO.ite ?_ ?_
   | refine LeO.bind ?_ (fun _ => ?_)
theorem spec_l4Latest.mono : ∀ a0 k, LeO (spec_l4Latest.f k a0) (spec_l4Latest.f (k + 1) a0) := by
 intro a0 k
 obtain ⟨ih0, ih1, ih2⟩ := spec_l4Latest.mono_l k
 unfold spec_l4Latest.f
 repeat' first
   | (with_reducible exact ih0 _ _ _ _ _ _)
   | (with_reducible exact ih1 _ _ _ _)
   | (with_reducible exact ih2 _ _ _ _ _ _ _ _)
   | (with_reducible exact spec_l4Earliest.mono _ _)
   | (with_reducible exact spec_l4Order.mono _ _)
   | (with_reducible exact LeO.refl _)
   | (with_reducible exact LeO.none _)
   | (with_reducible refine LeO.ite ?_ ?_)
   | (with_reducible refine LeO.bind ?_ (fun _ => ?_))
   | exact ih0 _ _ _ _ _ _
   | exact ih1 _ _ _ _
   | exact ih2 _ _ _ _ _ _ _ _
   | exact spec_l4Earliest.mono _ _
   | exact spec_l4Order.mono _ _
   | exact LeO.none _
   | refine LeO.ite ?_ ?_
   | refine LeO.bind ?_ (fun _ => ?_)
set_option maxHeartbeats 8000000 in
set_option maxRecDepth 100000 in
theorem spec_l4Latest.calls (k : Nat) (A0 : Option Addr) (c0 : Nat) (l0 : List (S53)) (r : List Int) (w : World) (hr0 : Kd.C k53 w A0 l0.length l0) (hc0 : l0.length ≤ c0) (h : spec_l4Latest.f k l0 = some r) :
  Calls Try.prog 56 #[.slice A0 l0.length c0] w fun e w' => ∃ v0_ : Value, e = .returned (v0_) ∧ Kd.R (Kd.int .i64) 3 w' w.heap.size (fun _ => True) v0_ r ∧ Below w.heap.size w w' := by
 have HR0 := Aside0.mk hr0
 have HC0 := Aside0.mk hc0
 clear hr0 hc0
 have HB := Aside0.mk (Below.refl w.heap.size w)
 have H : ((spec_l4Order.f k l0).bind fun bt159 => ((spec_l4Earliest.f k l0).bind fun bt163 => (if 0 ≤ (l0.length : Int) then (if ((l0.length : Int) : Int).toNat ≤ 35184372088832 then ((some (List.replicate ((l0.length : Int) : Int).toNat 0 : List Int)).bind fun y167 => (spec_l4Latest.l0 k l0 bt159.1 bt163.2 y167 (y167.length : Int) 0)) else (none)) else (none)))) = some r := h
 clear h
 replace H := Option.bind_eq_some_iff.mp H
 obtain ⟨⟨t159, t160⟩, A20, H⟩ := H
 replace H : ((spec_l4Earliest.f k l0).bind fun bt163 => (if 0 ≤ (l0.length : Int) then (if ((l0.length : Int) : Int).toNat ≤ 35184372088832 then ((some (List.replicate ((l0.length : Int) : Int).toNat 0 : List Int)).bind fun y167 => (spec_l4Latest.l0 k l0 t159 bt163.2 y167 (y167.length : Int) 0)) else (none)) else (none))) = some r := H
 have A2 := Aside0.mk A20
 clear A20
 replace H := Option.bind_eq_some_iff.mp H
 obtain ⟨⟨t163, t164⟩, A30, H⟩ := H
 replace H : (if 0 ≤ (l0.length : Int) then (if ((l0.length : Int) : Int).toNat ≤ 35184372088832 then ((some (List.replicate ((l0.length : Int) : Int).toNat 0 : List Int)).bind fun y167 => (spec_l4Latest.l0 k l0 t159 t164 y167 (y167.length : Int) 0)) else (none)) else (none)) = some r := H
 have A3 := Aside0.mk A30
 clear A30
 by_cases c4 : 0 ≤ (l0.length : Int)
 ·rw [if_pos c4] at H
  have c4b0 := eq_true c4
  have c4b1 : decide (0 ≤ (l0.length : Int)) = true := decide_eq_true c4
  clear c4
  by_cases c5 : ((l0.length : Int) : Int).toNat ≤ 35184372088832
  ·rw [if_pos c5] at H
   have c5b0 := eq_true c5
   have c5b1 : decide (((l0.length : Int) : Int).toNat ≤ 35184372088832) = true := decide_eq_true c5
   clear c5
   obtain ⟨y167, hy167⟩ : ∃ y_ : List Int, y_ = (List.replicate ((l0.length : Int) : Int).toNat 0) := ⟨_, rfl⟩
   replace H : (spec_l4Latest.l0 k l0 t159 t164 y167 (y167.length : Int) 0) = some r := by first | (rw [hy167]; with_reducible exact H) | (have H2_ := (Option.bind_some _ _).symm.trans H; rw [hy167]; with_reducible exact H2_) | (have H2_ := (Option.bind_some _ _).symm.trans H; with_reducible exact H2_) | with_reducible exact H | (rw [hy167]; exact H) | exact H
   have Ny167 := Aside0.mk hy167
   clear hy167
   have H' := Aside0.mk H
   clear H
   go_enter Try.func56, Try.ntmps56
   go_wp2_with (first | (go_at_call 46; (with_reducible refine (spec_l4Order.calls k _ _ l0 t159 t160 _ ?side1 ?side2 A2.out).mono ?_); (case side1 => repeat (first | exact HR0.out | (with_reducible refine Kd.C_alloc ?_ _) | (with_reducible refine Kd.C_drewN ?_ _) | (with_reducible refine Kd.C_drew ?_))); (case side2 => exact HC0.out); rintro e w6 ⟨v161, rfl, ho0, hb⟩; have n0_ := Aside0.mk (Kd.R_lower ho0 (below_size (by repeat (first | (with_reducible first | exact HB.out | apply below_alloc | apply pw_below_drewN | apply below_drew1) | exact HB.out)))); have n1_ := Aside0.mk (below_step (by repeat (first | (with_reducible first | exact HB.out | apply below_alloc | apply pw_below_drewN | apply below_drew1) | exact HB.out)) hb); clear HB; have HO162 := n0_; have HB := n1_; clear n0_ n1_; (try clear hb); (try clear hb2); (try clear hk); (try clear hi); (try clear ho0)) | (go_at_call 53; (with_reducible refine (spec_l4Earliest.calls k _ _ l0 t163 t164 _ ?side1 ?side2 A3.out).mono ?_); (case side1 => repeat (first | exact (Kd.C_below HR0.out HB.out) | (with_reducible refine Kd.C_alloc ?_ _) | (with_reducible refine Kd.C_drewN ?_ _) | (with_reducible refine Kd.C_drew ?_))); (case side2 => exact HC0.out); rintro e w7 ⟨v165, rfl, ho0, hb⟩; have n0_ := Aside0.mk (Kd.R_elder' (by (with_reducible repeat (first | apply Kd.R_alloc | apply Kd.R_drewN | apply Kd.R_drew)); exact HO162.out) (Kd.R_base ho0) hb); have n1_ := Aside0.mk (Kd.R_lower (Kd.R_new' ho0 (Kd.R_lt (by (with_reducible repeat (first | apply Kd.R_alloc | apply Kd.R_drewN | apply Kd.R_drew)); exact HO162.out))) (below_size (by repeat (first | (with_reducible first | exact HB.out | apply below_alloc | apply pw_below_drewN | apply below_drew1) | exact HB.out)))); have n2_ := Aside0.mk (below_step (by repeat (first | (with_reducible first | exact HB.out | apply below_alloc | apply pw_below_drewN | apply below_drew1) | exact HB.out)) hb); clear HO162; clear HB; have HO162 := n0_; have HO166 := n1_; have HB := n2_; clear n0_ n1_ n2_; (try clear hb); (try clear hb2); (try clear hk); (try clear hi); (try clear ho0)) | ((with_reducible refine gate_dst (N := 26) rfl ?_); refine Kd.R_make (Kd.int .i64) _ 3 rfl (N := 26) rfl 29 _ _ rfl (l0.length : Int) rfl rfl Try.underlying29 (.int .i64 0) 8 info3 rfl (by decide) (by omega) 0 (ok := fun _ => True) (okp := fun _ => True) rfl (fun _ hk => hk) trivial (of_decide_eq_true (by first | (with_reducible assumption) | assumption)) (Nat.le_trans (Nat.mul_le_mul_right _ (of_decide_eq_true (by first | (with_reducible assumption) | assumption) : (l0.length : Int).toNat ≤ 35184372088832)) (by omega)) (Below.refl _ _) (Nat.le_refl _) ?_; intro v168 w8 ho9 hb hg_ hnew_; clear hg_ hnew_; (first | rw [← Ny167.out] at ho9 | (simp only [Int.reduceToNat] at ho9; rw [← Ny167.out] at ho9)); have n0_ := Aside0.mk (Kd.R_elder' (by (with_reducible repeat (first | apply Kd.R_alloc | apply Kd.R_drewN | apply Kd.R_drew)); exact HO162.out) (Kd.R_base ho9) hb); have n1_ := Aside0.mk (Kd.R_elder' (by (with_reducible repeat (first | apply Kd.R_alloc | apply Kd.R_drewN | apply Kd.R_drew)); exact HO166.out) (Kd.R_base ho9) hb); have n2_ := Aside0.mk (Kd.R_lower (Kd.R_new' (Kd.R_new' ho9 (Kd.R_lt (by (with_reducible repeat (first | apply Kd.R_alloc | apply Kd.R_drewN | apply Kd.R_drew)); exact HO162.out))) (Kd.R_lt (by (with_reducible repeat (first | apply Kd.R_alloc | apply Kd.R_drewN | apply Kd.R_drew)); exact HO166.out))) (below_size (by repeat (first | (with_reducible first | exact HB.out | apply below_alloc | apply pw_below_drewN | apply below_drew1) | exact HB.out)))); have n3_ := Aside0.mk (below_step (by repeat (first | (with_reducible first | exact HB.out | apply below_alloc | apply pw_below_drewN | apply below_drew1) | exact HB.out)) hb); clear HO162; clear HO166; clear HB; have HO162 := n0_; have HO166 := n1_; have HO169 := n2_; have HB := n3_; clear n0_ n1_ n2_ n3_; clear hb ho9; obtain ⟨Ao10, co10, eo10⟩ := Kd.R_slice HO169.out; subst eo10))
   repeat (go_quiet (first | (go_at_call 46; (with_reducible refine (spec_l4Order.calls k _ _ l0 t159 t160 _ ?side1 ?side2 A2.out).mono ?_); (case side1 => repeat (first | exact HR0.out | (with_reducible refine Kd.C_alloc ?_ _) | (with_reducible refine Kd.C_drewN ?_ _) | (with_reducible refine Kd.C_drew ?_))); (case side2 => exact HC0.out); rintro e w6 ⟨v161, rfl, ho0, hb⟩; have n0_ := Aside0.mk (Kd.R_lower ho0 (below_size (by repeat (first | (with_reducible first | exact HB.out | apply below_alloc | apply pw_below_drewN | apply below_drew1) | exact HB.out)))); have n1_ := Aside0.mk (below_step (by repeat (first | (with_reducible first | exact HB.out | apply below_alloc | apply pw_below_drewN | apply below_drew1) | exact HB.out)) hb); clear HB; have HO162 := n0_; have HB := n1_; clear n0_ n1_; (try clear hb); (try clear hb2); (try clear hk); (try clear hi); (try clear ho0)) | (go_at_call 53; (with_reducible refine (spec_l4Earliest.calls k _ _ l0 t163 t164 _ ?side1 ?side2 A3.out).mono ?_); (case side1 => repeat (first | exact (Kd.C_below HR0.out HB.out) | (with_reducible refine Kd.C_alloc ?_ _) | (with_reducible refine Kd.C_drewN ?_ _) | (with_reducible refine Kd.C_drew ?_))); (case side2 => exact HC0.out); rintro e w7 ⟨v165, rfl, ho0, hb⟩; have n0_ := Aside0.mk (Kd.R_elder' (by (with_reducible repeat (first | apply Kd.R_alloc | apply Kd.R_drewN | apply Kd.R_drew)); exact HO162.out) (Kd.R_base ho0) hb); have n1_ := Aside0.mk (Kd.R_lower (Kd.R_new' ho0 (Kd.R_lt (by (with_reducible repeat (first | apply Kd.R_alloc | apply Kd.R_drewN | apply Kd.R_drew)); exact HO162.out))) (below_size (by repeat (first | (with_reducible first | exact HB.out | apply below_alloc | apply pw_below_drewN | apply below_drew1) | exact HB.out)))); have n2_ := Aside0.mk (below_step (by repeat (first | (with_reducible first | exact HB.out | apply below_alloc | apply pw_below_drewN | apply below_drew1) | exact HB.out)) hb); clear HO162; clear HB; have HO162 := n0_; have HO166 := n1_; have HB := n2_; clear n0_ n1_ n2_; (try clear hb); (try clear hb2); (try clear hk); (try clear hi); (try clear ho0)) | ((with_reducible refine gate_dst (N := 26) rfl ?_); refine Kd.R_make (Kd.int .i64) _ 3 rfl (N := 26) rfl 29 _ _ rfl (l0.length : Int) rfl rfl Try.underlying29 (.int .i64 0) 8 info3 rfl (by decide) (by omega) 0 (ok := fun _ => True) (okp := fun _ => True) rfl (fun _ hk => hk) trivial (of_decide_eq_true (by first | (with_reducible assumption) | assumption)) (Nat.le_trans (Nat.mul_le_mul_right _ (of_decide_eq_true (by first | (with_reducible assumption) | assumption) : (l0.length : Int).toNat ≤ 35184372088832)) (by omega)) (Below.refl _ _) (Nat.le_refl _) ?_; intro v168 w8 ho9 hb hg_ hnew_; clear hg_ hnew_; (first | rw [← Ny167.out] at ho9 | (simp only [Int.reduceToNat] at ho9; rw [← Ny167.out] at ho9)); have n0_ := Aside0.mk (Kd.R_elder' (by (with_reducible repeat (first | apply Kd.R_alloc | apply Kd.R_drewN | apply Kd.R_drew)); exact HO162.out) (Kd.R_base ho9) hb); have n1_ := Aside0.mk (Kd.R_elder' (by (with_reducible repeat (first | apply Kd.R_alloc | apply Kd.R_drewN | apply Kd.R_drew)); exact HO166.out) (Kd.R_base ho9) hb); have n2_ := Aside0.mk (Kd.R_lower (Kd.R_new' (Kd.R_new' ho9 (Kd.R_lt (by (with_reducible repeat (first | apply Kd.R_alloc | apply Kd.R_drewN | apply Kd.R_drew)); exact HO162.out))) (Kd.R_lt (by (with_reducible repeat (first | apply Kd.R_alloc | apply Kd.R_drewN | apply Kd.R_drew)); exact HO166.out))) (below_size (by repeat (first | (with_reducible first | exact HB.out | apply below_alloc | apply pw_below_drewN | apply below_drew1) | exact HB.out)))); have n3_ := Aside0.mk (below_step (by repeat (first | (with_reducible first | exact HB.out | apply below_alloc | apply pw_below_drewN | apply below_drew1) | exact HB.out)) hb); clear HO162; clear HO166; clear HB; have HO162 := n0_; have HO166 := n1_; have HO169 := n2_; have HB := n3_; clear n0_ n1_ n2_ n3_; clear hb ho9; obtain ⟨Ao10, co10, eo10⟩ := Kd.R_slice HO169.out; subst eo10)); try go_wp2_with (first | (go_at_call 46; (with_reducible refine (spec_l4Order.calls k _ _ l0 t159 t160 _ ?side1 ?side2 A2.out).mono ?_); (case side1 => repeat (first | exact HR0.out | (with_reducible refine Kd.C_alloc ?_ _) | (with_reducible refine Kd.C_drewN ?_ _) | (with_reducible refine Kd.C_drew ?_))); (case side2 => exact HC0.out); rintro e w6 ⟨v161, rfl, ho0, hb⟩; have n0_ := Aside0.mk (Kd.R_lower ho0 (below_size (by repeat (first | (with_reducible first | exact HB.out | apply below_alloc | apply pw_below_drewN | apply below_drew1) | exact HB.out)))); have n1_ := Aside0.mk (below_step (by repeat (first | (with_reducible first | exact HB.out | apply below_alloc | apply pw_below_drewN | apply below_drew1) | exact HB.out)) hb); clear HB; have HO162 := n0_; have HB := n1_; clear n0_ n1_; (try clear hb); (try clear hb2); (try clear hk); (try clear hi); (try clear ho0)) | (go_at_call 53; (with_reducible refine (spec_l4Earliest.calls k _ _ l0 t163 t164 _ ?side1 ?side2 A3.out).mono ?_); (case side1 => repeat (first | exact (Kd.C_below HR0.out HB.out) | (with_reducible refine Kd.C_alloc ?_ _) | (with_reducible refine Kd.C_drewN ?_ _) | (with_reducible refine Kd.C_drew ?_))); (case side2 => exact HC0.out); rintro e w7 ⟨v165, rfl, ho0, hb⟩; have n0_ := Aside0.mk (Kd.R_elder' (by (with_reducible repeat (first | apply Kd.R_alloc | apply Kd.R_drewN | apply Kd.R_drew)); exact HO162.out) (Kd.R_base ho0) hb); have n1_ := Aside0.mk (Kd.R_lower (Kd.R_new' ho0 (Kd.R_lt (by (with_reducible repeat (first | apply Kd.R_alloc | apply Kd.R_drewN | apply Kd.R_drew)); exact HO162.out))) (below_size (by repeat (first | (with_reducible first | exact HB.out | apply below_alloc | apply pw_below_drewN | apply below_drew1) | exact HB.out)))); have n2_ := Aside0.mk (below_step (by repeat (first | (with_reducible first | exact HB.out | apply below_alloc | apply pw_below_drewN | apply below_drew1) | exact HB.out)) hb); clear HO162; clear HB; have HO162 := n0_; have HO166 := n1_; have HB := n2_; clear n0_ n1_ n2_; (try clear hb); (try clear hb2); (try clear hk); (try clear hi); (try clear ho0)) | ((with_reducible refine gate_dst (N := 26) rfl ?_); refine Kd.R_make (Kd.int .i64) _ 3 rfl (N := 26) rfl 29 _ _ rfl (l0.length : Int) rfl rfl Try.underlying29 (.int .i64 0) 8 info3 rfl (by decide) (by omega) 0 (ok := fun _ => True) (okp := fun _ => True) rfl (fun _ hk => hk) trivial (of_decide_eq_true (by first | (with_reducible assumption) | assumption)) (Nat.le_trans (Nat.mul_le_mul_right _ (of_decide_eq_true (by first | (with_reducible assumption) | assumption) : (l0.length : Int).toNat ≤ 35184372088832)) (by omega)) (Below.refl _ _) (Nat.le_refl _) ?_; intro v168 w8 ho9 hb hg_ hnew_; clear hg_ hnew_; (first | rw [← Ny167.out] at ho9 | (simp only [Int.reduceToNat] at ho9; rw [← Ny167.out] at ho9)); have n0_ := Aside0.mk (Kd.R_elder' (by (with_reducible repeat (first | apply Kd.R_alloc | apply Kd.R_drewN | apply Kd.R_drew)); exact HO162.out) (Kd.R_base ho9) hb); have n1_ := Aside0.mk (Kd.R_elder' (by (with_reducible repeat (first | apply Kd.R_alloc | apply Kd.R_drewN | apply Kd.R_drew)); exact HO166.out) (Kd.R_base ho9) hb); have n2_ := Aside0.mk (Kd.R_lower (Kd.R_new' (Kd.R_new' ho9 (Kd.R_lt (by (with_reducible repeat (first | apply Kd.R_alloc | apply Kd.R_drewN | apply Kd.R_drew)); exact HO162.out))) (Kd.R_lt (by (with_reducible repeat (first | apply Kd.R_alloc | apply Kd.R_drewN | apply Kd.R_drew)); exact HO166.out))) (below_size (by repeat (first | (with_reducible first | exact HB.out | apply below_alloc | apply pw_below_drewN | apply below_drew1) | exact HB.out)))); have n3_ := Aside0.mk (below_step (by repeat (first | (with_reducible first | exact HB.out | apply below_alloc | apply pw_below_drewN | apply below_drew1) | exact HB.out)) hb); clear HO162; clear HO166; clear HB; have HO162 := n0_; have HO166 := n1_; have HO169 := n2_; have HB := n3_; clear n0_ n1_ n2_ n3_; clear hb ho9; obtain ⟨Ao10, co10, eo10⟩ := Kd.R_slice HO169.out; subst eo10)))
   go_loopg [29] k (fun kq v29 w' => ∃ (x7_1 : List Int) (x29_1 : Int), v29 = .int .i64 x29_1 ∧ Aside0 (spec_l4Latest.l0 kq l0 t159 t164 x7_1 (y167.length : Int) x29_1 = some r) ∧ Aside0 (kq ≤ k) ∧ Aside0 (Kd.R (Kd.int .i64) 3 w' w.heap.size (fun k_ => some k_ ≠ ((.slice Ao10 y167.length co10) : Value).ownBlock) v161 t159) ∧ Aside0 (Kd.R (Kd.int .i64) 3 w' w.heap.size (fun k_ => some k_ ≠ (v161 : Value).ownBlock) (.slice Ao10 y167.length co10) x7_1) ∧ Aside0 (Below w.heap.size w w'))
   case atStart => exact ⟨(y167), (0), (by first | rfl | (simp; done) | (simp [*]; done)), H', ⟨Nat.le_refl _⟩, ⟨by (with_reducible repeat (first | apply Kd.R_alloc | apply Kd.R_drewN | apply Kd.R_drew)); exact Kd.R_mono HO162.out (fun _ hk => hk.2)⟩, ⟨by (with_reducible repeat (first | apply Kd.R_alloc | apply Kd.R_drewN | apply Kd.R_drew)); exact Kd.R_mono HO169.out (fun _ hk => hk.1.2)⟩, ⟨by repeat (first | (with_reducible first | exact HB.out | apply below_alloc | apply pw_below_drewN | apply below_drew1) | exact HB.out)⟩⟩
   case round =>
    clear H'
    try clear p2
    try clear c4
    try clear c4b0
    try clear c4b1
    try clear c5
    try clear c5b0
    try clear c5b1
    obtain ⟨x7_1, x29_1, rfl, HA, HK1, HO_3, HO_7, HB⟩ := hrel
    have hl7_1 := (Kd.R_reads' HO_7.out).1
    rw [hl7_1] at HO_7
    (try simp only [hl7_1])
    (try simp only [hl7_1] at HO_3)
    cases gk with
    | zero => exact absurd HA.out (by simp [spec_l4Latest.l0])
    | succ k1 =>
     have H := HA.out
     clear HA
     simp only [spec_l4Latest.l0] at H
     by_cases c11 : x29_1 < (y167.length : Int)
     ·rw [if_pos c11] at H
      have c11b0 : decide (x29_1 < (y167.length : Int)) = true := decide_eq_true c11
      clear c11
      by_cases c12 : 0 ≤ x29_1
      ·rw [if_pos c12] at H
       have c12b0 : decide (0 ≤ x29_1) = true := decide_eq_true c12
       clear c12
       by_cases c13 : x29_1 < (l0.length : Int)
       ·rw [if_pos c13] at H
        have c13b0 : decide (x29_1 < (l0.length : Int)) = true := decide_eq_true c13
        clear c13
        by_cases c14 : x29_1 < (x7_1.length : Int)
        ·rw [if_pos c14] at H
         have c14b0 : decide (x29_1 < (x7_1.length : Int)) = true := decide_eq_true c14
         clear c14
         obtain ⟨y171, hy171⟩ : ∃ y_ : List Int, y_ = (x7_1.set (x29_1 : Int).toNat (wrap64 (t164 - ((rd_T53 l0 x29_1).f0)))) := ⟨_, rfl⟩
         replace H : (spec_l4Latest.l0 k1 l0 t159 t164 y171 (y167.length : Int) (wrap64 (x29_1 + 1))) = some r := by first | (rw [hy171]; with_reducible exact H) | (have H2_ := (Option.bind_some _ _).symm.trans H; rw [hy171]; with_reducible exact H2_) | (have H2_ := (Option.bind_some _ _).symm.trans H; with_reducible exact H2_) | with_reducible exact H | (rw [hy171]; exact H) | exact H
         have Ny171 := Aside0.mk hy171
         clear hy171
         have H' := Aside0.mk H
         clear H
         have p170 : 0 ≤ (x29_1 : Int) := of_decide_eq_true (by first | (with_reducible assumption) | assumption)
         have q170 : x29_1 < (l0.length : Int) := of_decide_eq_true (by first | (with_reducible assumption) | assumption)
         obtain ⟨ad170, A170_1, c170_1, e170, hx170_0, hx170_1, hl170_1, hi170_1⟩ := at_T53 HR0.out x29_1 p170 q170
         cases e170
         try replace hx170_0 := (HB.out.cell (World.block_lt_of_cell? w _ hx170_0)).trans hx170_0
         try replace hx170_1 := (HB.out.cell (World.block_lt_of_cell? w _ hx170_1)).trans hx170_1
         have HR170_1 := Aside0.mk hi170_1
         have HC170_1 := Aside0.mk hl170_1
         clear hi170_1 hl170_1
         replace p170 := eq_true p170
         replace q170 := eq_true q170
         have p15 : 0 ≤ (x29_1 : Int) := of_decide_eq_true (by first | (with_reducible assumption) | assumption)
         have q15 : (x29_1 : Int) < ((x7_1.length : Int) : Int) := of_decide_eq_true (by first | (with_reducible assumption) | assumption)
         obtain ⟨go15, co15, eo15, gb15, gl15, cl15, HG15⟩ := Kd.R_form HO_7.out (by omega)
         (first | cases eo15 | (injection eo15 with ea_ en_ ec_; (first | subst ea_ | (injection ea_ with ea_; subst ea_)); subst ec_; clear en_))
         have GB15 := Aside0.mk gb15
         have GG15 := Aside0.mk HG15
         clear gb15 gl15 HG15
         obtain ⟨hx15_0, hf15_0⟩ := Kd.R_celln 0 HO_7.out (x29_1 : Int) p15 q15
         replace p15 := eq_true p15
         replace q15 := eq_true q15
         have HP16 := Kd.R_putg HO_7.out (x29_1 : Int) (wrap64 (t164 - ((rd_T53 l0 x29_1).f0)))
         go_wp2_with (first | ((with_reducible refine gate_store (t := 3) (p := 41) rfl ?_); (try (rw [drewN_self wr]; generalize hq_ : World.drewN wr _ = wr; have n0_ := Aside0.mk (Kd.R_at hq_ HO_3.out); have n1_ := Aside0.mk (Kd.R_at hq_ HO_7.out); have n2_ := Aside0.mk (below_at hq_ HB.out); clear hq_ HO_3 HO_7 HB; have HO_3 := n0_; have HO_7 := n1_; have HB := n2_; clear n0_ n1_ n2_; (try (have HP16 := Kd.R_putg HO_7.out (x29_1 : Int) (wrap64 (t164 - ((rd_T53 l0 x29_1).f0))))))); refine store_event (t := 3) (p := 41) (v := ?vo_w17) (w1 := (wr.setCell ⟨go15, (x29_1 : Int).toNat, none⟩ (.int .i64 (wrap64 (t164 - ((rd_T53 l0 x29_1).f0)))))) ?hg ?ho ?hn ?hr ?_; (case ho => rfl); (case hg => rfl); (case hn => rfl); (case hr => first | (go_simp; done) | (go_simp; rfl)); intro w17 hw; have hg : wr.grownBy w17 (some go15) := (by rw [hw]; exact HP16.2); have hp_ : Kd.R (Kd.int .i64) 3 w17 w.heap.size (fun k_ => some k_ ≠ (v161 : Value).ownBlock) (.slice (some ⟨go15, 0, none⟩) x7_1.length co10) y171 := (by rw [hw, Ny171.out]; exact HP16.1); clear HP16; have n0_ := Aside0.mk (Kd.R_after (v := (.slice (some ⟨go15, 0, none⟩) x7_1.length co10)) (v1 := (.slice (some ⟨go15, 0, none⟩) x7_1.length co10)) (ok := (fun _ => True)) (by (with_reducible repeat (first | apply Kd.R_alloc | apply Kd.R_drewN | apply Kd.R_drew)); exact Kd.R_mono HO_3.out (fun _ hk => ⟨trivial, hk⟩)) hg (.inl rfl)); have n1_ := Aside0.mk (hp_); have n2_ := Aside0.mk ((by rw [hw]; exact below_set (HB.out) GB15.out : Below w.heap.size w w17)); clear HO_3; clear HO_7; clear HB; have HO_3 := n0_; have HO_7 := n1_; have HB := n2_; clear n0_ n1_ n2_; clear hg hw hp_))
         repeat (go_quiet (first | ((with_reducible refine gate_store (t := 3) (p := 41) rfl ?_); (try (rw [drewN_self wr]; generalize hq_ : World.drewN wr _ = wr; have n0_ := Aside0.mk (Kd.R_at hq_ HO_3.out); have n1_ := Aside0.mk (Kd.R_at hq_ HO_7.out); have n2_ := Aside0.mk (below_at hq_ HB.out); clear hq_ HO_3 HO_7 HB; have HO_3 := n0_; have HO_7 := n1_; have HB := n2_; clear n0_ n1_ n2_; (try (have HP16 := Kd.R_putg HO_7.out (x29_1 : Int) (wrap64 (t164 - ((rd_T53 l0 x29_1).f0))))))); refine store_event (t := 3) (p := 41) (v := ?vo_w17) (w1 := (wr.setCell ⟨go15, (x29_1 : Int).toNat, none⟩ (.int .i64 (wrap64 (t164 - ((rd_T53 l0 x29_1).f0)))))) ?hg ?ho ?hn ?hr ?_; (case ho => rfl); (case hg => rfl); (case hn => rfl); (case hr => first | (go_simp; done) | (go_simp; rfl)); intro w17 hw; have hg : wr.grownBy w17 (some go15) := (by rw [hw]; exact HP16.2); have hp_ : Kd.R (Kd.int .i64) 3 w17 w.heap.size (fun k_ => some k_ ≠ (v161 : Value).ownBlock) (.slice (some ⟨go15, 0, none⟩) x7_1.length co10) y171 := (by rw [hw, Ny171.out]; exact HP16.1); clear HP16; have n0_ := Aside0.mk (Kd.R_after (v := (.slice (some ⟨go15, 0, none⟩) x7_1.length co10)) (v1 := (.slice (some ⟨go15, 0, none⟩) x7_1.length co10)) (ok := (fun _ => True)) (by (with_reducible repeat (first | apply Kd.R_alloc | apply Kd.R_drewN | apply Kd.R_drew)); exact Kd.R_mono HO_3.out (fun _ hk => ⟨trivial, hk⟩)) hg (.inl rfl)); have n1_ := Aside0.mk (hp_); have n2_ := Aside0.mk ((by rw [hw]; exact below_set (HB.out) GB15.out : Below w.heap.size w w17)); clear HO_3; clear HO_7; clear HB; have HO_3 := n0_; have HO_7 := n1_; have HB := n2_; clear n0_ n1_ n2_; clear hg hw hp_)); try go_wp2_with (first | ((with_reducible refine gate_store (t := 3) (p := 41) rfl ?_); (try (rw [drewN_self wr]; generalize hq_ : World.drewN wr _ = wr; have n0_ := Aside0.mk (Kd.R_at hq_ HO_3.out); have n1_ := Aside0.mk (Kd.R_at hq_ HO_7.out); have n2_ := Aside0.mk (below_at hq_ HB.out); clear hq_ HO_3 HO_7 HB; have HO_3 := n0_; have HO_7 := n1_; have HB := n2_; clear n0_ n1_ n2_; (try (have HP16 := Kd.R_putg HO_7.out (x29_1 : Int) (wrap64 (t164 - ((rd_T53 l0 x29_1).f0))))))); refine store_event (t := 3) (p := 41) (v := ?vo_w17) (w1 := (wr.setCell ⟨go15, (x29_1 : Int).toNat, none⟩ (.int .i64 (wrap64 (t164 - ((rd_T53 l0 x29_1).f0)))))) ?hg ?ho ?hn ?hr ?_; (case ho => rfl); (case hg => rfl); (case hn => rfl); (case hr => first | (go_simp; done) | (go_simp; rfl)); intro w17 hw; have hg : wr.grownBy w17 (some go15) := (by rw [hw]; exact HP16.2); have hp_ : Kd.R (Kd.int .i64) 3 w17 w.heap.size (fun k_ => some k_ ≠ (v161 : Value).ownBlock) (.slice (some ⟨go15, 0, none⟩) x7_1.length co10) y171 := (by rw [hw, Ny171.out]; exact HP16.1); clear HP16; have n0_ := Aside0.mk (Kd.R_after (v := (.slice (some ⟨go15, 0, none⟩) x7_1.length co10)) (v1 := (.slice (some ⟨go15, 0, none⟩) x7_1.length co10)) (ok := (fun _ => True)) (by (with_reducible repeat (first | apply Kd.R_alloc | apply Kd.R_drewN | apply Kd.R_drew)); exact Kd.R_mono HO_3.out (fun _ hk => ⟨trivial, hk⟩)) hg (.inl rfl)); have n1_ := Aside0.mk (hp_); have n2_ := Aside0.mk ((by rw [hw]; exact below_set (HB.out) GB15.out : Below w.heap.size w w17)); clear HO_3; clear HO_7; clear HB; have HO_3 := n0_; have HO_7 := n1_; have HB := n2_; clear n0_ n1_ n2_; clear hg hw hp_)))
         (try simp only [← hl7_1])
         go_roundg k1
         case measure => have := HK1.out; omega
         case rel => exact ⟨(y171), (wrap64 (x29_1 + 1)), (by first | rfl | (simp; done) | (simp [*]; done)), H', ⟨by have := HK1.out; omega⟩, ⟨by (try simp only [hl7_1]); (with_reducible repeat (first | apply Kd.R_alloc | apply Kd.R_drewN | apply Kd.R_drew)); exact Kd.R_mono HO_3.out (fun _ hk => hk.2)⟩, ⟨by (try simp only [hl7_1]); (with_reducible repeat (first | apply Kd.R_alloc | apply Kd.R_drewN | apply Kd.R_drew)); exact HO_7.out⟩, ⟨by repeat (first | (with_reducible first | exact HB.out | apply below_alloc | apply pw_below_drewN | apply below_drew1) | exact HB.out)⟩⟩
        ·rw [if_neg c14] at H
         exact absurd H (by simp)
       ·rw [if_neg c13] at H
        exact absurd H (by simp)
      ·rw [if_neg c12] at H
       exact absurd H (by simp)
     ·rw [if_neg c11] at H
      have c11b0 : decide (x29_1 < (y167.length : Int)) = false := decide_eq_false c11
      clear c11
      rw [hl7_1] at c11b0
      have H' := Aside0.mk H
      clear H
      obtain ⟨Ao18, co18, eo18⟩ := Kd.R_slice HO_3.out
      subst eo18
      go_wp2
      repeat (go_quiet (fail); try go_wp2)
      go_loopg [9] k1 (fun kq v9 w' => ∃ (x7_2 : List Int) (x9_2 : Int), v9 = .int .i64 x9_2 ∧ Aside0 (spec_l4Latest.l1 kq l0 t159 x7_2 x9_2 = some r) ∧ Aside0 (kq ≤ k1) ∧ Aside0 (Kd.R (Kd.int .i64) 3 w' w.heap.size (fun k_ => some k_ ≠ ((.slice Ao10 x7_1.length co10) : Value).ownBlock) (.slice Ao18 t159.length co18) t159) ∧ Aside0 (Kd.R (Kd.int .i64) 3 w' w.heap.size (fun k_ => some k_ ≠ ((.slice Ao18 t159.length co18) : Value).ownBlock) (.slice Ao10 x7_1.length co10) x7_2) ∧ Aside0 (Below w.heap.size w w'))
      case atStart => exact ⟨(x7_1), (wrap64 ((t159.length : Int) - 1)), (by first | rfl | (simp; done) | (simp [*]; done)), H', ⟨Nat.le_refl _⟩, ⟨by (try simp only [hl7_1]); (with_reducible repeat (first | apply Kd.R_alloc | apply Kd.R_drewN | apply Kd.R_drew)); exact HO_3.out⟩, ⟨by (try simp only [hl7_1]); (with_reducible repeat (first | apply Kd.R_alloc | apply Kd.R_drewN | apply Kd.R_drew)); exact HO_7.out⟩, ⟨by repeat (first | (with_reducible first | exact HB.out | apply below_alloc | apply pw_below_drewN | apply below_drew1) | exact HB.out)⟩⟩
      case round =>
       clear H'
       try clear c1
       try clear p1
       try clear q1
       try clear hx1
       try clear hf1
       try clear p2
       try clear c4
       try clear c4b0
       try clear c4b1
       try clear c5
       try clear c5b0
       try clear c5b1
       try clear p6
       try clear c11
       try clear c11b0
       try clear c12
       try clear c12b0
       try clear c13
       try clear c13b0
       try clear c14
       try clear c14b0
       try clear p15
       try clear q15
       try clear hx15
       try clear hf15
       try clear c17
       try clear p17
       try clear q17
       try clear hx17
       try clear hx15_0
       try clear hx170_0
       try clear hx170_1
       try clear p15
       try clear p170
       try clear p2
       try clear q15
       try clear q170
       obtain ⟨x7_2, x9_2, rfl, HA, HK2, HO_3, HO_7, HB⟩ := hrel
       have hl7_2 := (Kd.R_reads' HO_7.out).1
       rw [hl7_2] at HO_7
       (try simp only [hl7_2])
       (try simp only [hl7_2] at HO_3)
       cases gk with
       | zero => exact absurd HA.out (by simp [spec_l4Latest.l1])
       | succ k2 =>
        have H := HA.out
        clear HA
        simp only [spec_l4Latest.l1] at H
        by_cases c19 : x9_2 ≥ 0
        ·rw [if_pos c19] at H
         have c19b0 : decide (0 ≤ x9_2) = true := decide_eq_true c19
         clear c19
         by_cases c20 : 0 ≤ x9_2
         ·rw [if_pos c20] at H
          have c20b0 : decide (0 ≤ x9_2) = true := decide_eq_true c20
          clear c20
          by_cases c21 : x9_2 < (t159.length : Int)
          ·rw [if_pos c21] at H
           have c21b0 : decide (x9_2 < (t159.length : Int)) = true := decide_eq_true c21
           clear c21
           by_cases c22 : 0 ≤ (rd t159 x9_2)
           ·rw [if_pos c22] at H
            have c22b0 : decide (0 ≤ (rd t159 x9_2)) = true := decide_eq_true c22
            clear c22
            by_cases c23 : (rd t159 x9_2) < (l0.length : Int)
            ·rw [if_pos c23] at H
             have c23b0 : decide ((rd t159 x9_2) < (l0.length : Int)) = true := decide_eq_true c23
             clear c23
             have H' := Aside0.mk H
             clear H
             have p172 : 0 ≤ (x9_2 : Int) := of_decide_eq_true (by first | (with_reducible assumption) | assumption)
             have q172 : x9_2 < (t159.length : Int) := of_decide_eq_true (by first | (with_reducible assumption) | assumption)
             obtain ⟨ad172, e172, hx172_0⟩ := Kd.at_int (Kd.R_reads' HO_3.out).2.2 x9_2 p172 q172
             cases e172
             replace p172 := eq_true p172
             replace q172 := eq_true q172
             have p173 : 0 ≤ ((rd t159 x9_2) : Int) := of_decide_eq_true (by first | (with_reducible assumption) | assumption)
             have q173 : (rd t159 x9_2) < (l0.length : Int) := of_decide_eq_true (by first | (with_reducible assumption) | assumption)
             obtain ⟨ad173, A173_1, c173_1, e173, hx173_0, hx173_1, hl173_1, hi173_1⟩ := at_T53 HR0.out (rd t159 x9_2) p173 q173
             cases e173
             try replace hx173_0 := (HB.out.cell (World.block_lt_of_cell? w _ hx173_0)).trans hx173_0
             try replace hx173_1 := (HB.out.cell (World.block_lt_of_cell? w _ hx173_1)).trans hx173_1
             have HR173_1 := Aside0.mk hi173_1
             have HC173_1 := Aside0.mk hl173_1
             clear hi173_1 hl173_1
             replace p173 := eq_true p173
             replace q173 := eq_true q173
             go_wp2
             repeat (go_quiet (fail); try go_wp2)
             go_loopg [60] k2 (fun kq v60 w' => ∃ (x7_3 : List Int) (x60_3 : Int), v60 = .int .i64 x60_3 ∧ Aside0 (spec_l4Latest.l2 kq l0 t159 x7_3 x9_2 (rd t159 x9_2) ((rd_T53 l0 (rd t159 x9_2)).f1) (((rd_T53 l0 (rd t159 x9_2)).f1).length : Int) x60_3 = some r) ∧ Aside0 (kq ≤ k2) ∧ Aside0 (Kd.R (Kd.int .i64) 3 w' w.heap.size (fun k_ => some k_ ≠ ((.slice Ao10 x7_2.length co10) : Value).ownBlock) (.slice (some ad172) t159.length co18) t159) ∧ Aside0 (Kd.R (Kd.int .i64) 3 w' w.heap.size (fun k_ => some k_ ≠ ((.slice (some ad172) t159.length co18) : Value).ownBlock) (.slice Ao10 x7_2.length co10) x7_3) ∧ Aside0 (Below w.heap.size w w'))
             case atStart => exact ⟨(x7_2), (0), (by first | rfl | (simp; done) | (simp [*]; done)), H', ⟨Nat.le_refl _⟩, ⟨by (try simp only [hl7_1]); (try simp only [hl7_2]); (with_reducible repeat (first | apply Kd.R_alloc | apply Kd.R_drewN | apply Kd.R_drew)); exact HO_3.out⟩, ⟨by (try simp only [hl7_1]); (try simp only [hl7_2]); (with_reducible repeat (first | apply Kd.R_alloc | apply Kd.R_drewN | apply Kd.R_drew)); exact HO_7.out⟩, ⟨by repeat (first | (with_reducible first | exact HB.out | apply below_alloc | apply pw_below_drewN | apply below_drew1) | exact HB.out)⟩⟩
             case round =>
              clear H'
              try clear c1
              try clear p1
              try clear q1
              try clear hx1
              try clear hf1
              try clear c2
              try clear p2
              try clear c4
              try clear c4b0
              try clear c4b1
              try clear c5
              try clear c5b0
              try clear c5b1
              try clear p6
              try clear c11
              try clear c11b0
              try clear c12
              try clear c12b0
              try clear c13
              try clear c13b0
              try clear c14
              try clear c14b0
              try clear p15
              try clear q15
              try clear hx15
              try clear hf15
              try clear c17
              try clear p17
              try clear q17
              try clear hx17
              try clear c19
              try clear c19b0
              try clear c20
              try clear c20b0
              try clear c21
              try clear c21b0
              try clear c22
              try clear c22b0
              try clear c23
              try clear c23b0
              try clear hx15_0
              try clear hx170_0
              try clear hx170_1
              try clear hx172_0
              try clear hx173_0
              try clear hx173_1
              try clear p1
              try clear p15
              try clear p17
              try clear p170
              try clear p172
              try clear p173
              try clear p2
              try clear p6
              try clear q1
              try clear q15
              try clear q17
              try clear q170
              try clear q172
              try clear q173
              obtain ⟨x7_3, x60_3, rfl, HA, HK3, HO_3, HO_7, HB⟩ := hrel
              have hl7_3 := (Kd.R_reads' HO_7.out).1
              rw [hl7_3] at HO_7
              (try simp only [hl7_3])
              (try simp only [hl7_3] at HO_3)
              cases gk with
              | zero => exact absurd HA.out (by simp [spec_l4Latest.l2])
              | succ k3 =>
               have H := HA.out
               clear HA
               simp only [spec_l4Latest.l2] at H
               by_cases c24 : x60_3 < (((rd_T53 l0 (rd t159 x9_2)).f1).length : Int)
               ·rw [if_pos c24] at H
                have c24b0 : decide (x60_3 < (((rd_T53 l0 (rd t159 x9_2)).f1).length : Int)) = true := decide_eq_true c24
                clear c24
                by_cases c25 : 0 ≤ x60_3
                ·rw [if_pos c25] at H
                 have c25b0 : decide (0 ≤ x60_3) = true := decide_eq_true c25
                 clear c25
                 by_cases c26 : x60_3 < (((rd_T53 l0 (rd t159 x9_2)).f1).length : Int)
                 ·rw [if_pos c26] at H
                  have c26b0 : decide (x60_3 < (((rd_T53 l0 (rd t159 x9_2)).f1).length : Int)) = true := decide_eq_true c26
                  clear c26
                  by_cases c27 : 0 ≤ (rd t159 x9_2)
                  ·rw [if_pos c27] at H
                   have c27b0 : decide (0 ≤ (rd t159 x9_2)) = true := decide_eq_true c27
                   clear c27
                   by_cases c28 : (rd t159 x9_2) < (x7_3.length : Int)
                   ·rw [if_pos c28] at H
                    have c28b0 : decide ((rd t159 x9_2) < (x7_3.length : Int)) = true := decide_eq_true c28
                    clear c28
                    by_cases c29 : 0 ≤ (rd ((rd_T53 l0 (rd t159 x9_2)).f1) x60_3)
                    ·rw [if_pos c29] at H
                     have c29b0 : decide (0 ≤ (rd ((rd_T53 l0 (rd t159 x9_2)).f1) x60_3)) = true := decide_eq_true c29
                     clear c29
                     by_cases c30 : (rd ((rd_T53 l0 (rd t159 x9_2)).f1) x60_3) < (l0.length : Int)
                     ·rw [if_pos c30] at H
                      have c30b0 : decide ((rd ((rd_T53 l0 (rd t159 x9_2)).f1) x60_3) < (l0.length : Int)) = true := decide_eq_true c30
                      clear c30
                      by_cases c31 : (rd ((rd_T53 l0 (rd t159 x9_2)).f1) x60_3) < (x7_3.length : Int)
                      ·rw [if_pos c31] at H
                       have c31b0 : decide ((rd ((rd_T53 l0 (rd t159 x9_2)).f1) x60_3) < (x7_3.length : Int)) = true := decide_eq_true c31
                       clear c31
                       by_cases c32 : (wrap64 ((rd x7_3 (rd t159 x9_2)) - ((rd_T53 l0 (rd ((rd_T53 l0 (rd t159 x9_2)).f1) x60_3)).f0))) < (rd x7_3 (rd ((rd_T53 l0 (rd t159 x9_2)).f1) x60_3))
                       ·rw [if_pos c32] at H
                        have c32b0 : decide ((wrap64 ((rd x7_3 (rd t159 x9_2)) - ((rd_T53 l0 (rd ((rd_T53 l0 (rd t159 x9_2)).f1) x60_3)).f0))) < (rd x7_3 (rd ((rd_T53 l0 (rd t159 x9_2)).f1) x60_3))) = true := decide_eq_true c32
                        clear c32
                        obtain ⟨y178, hy178⟩ : ∃ y_ : List Int, y_ = (x7_3.set ((rd ((rd_T53 l0 (rd t159 x9_2)).f1) x60_3) : Int).toNat (wrap64 ((rd x7_3 (rd t159 x9_2)) - ((rd_T53 l0 (rd ((rd_T53 l0 (rd t159 x9_2)).f1) x60_3)).f0)))) := ⟨_, rfl⟩
                        replace H : (spec_l4Latest.l2 k3 l0 t159 y178 x9_2 (rd t159 x9_2) ((rd_T53 l0 (rd t159 x9_2)).f1) (((rd_T53 l0 (rd t159 x9_2)).f1).length : Int) (wrap64 (x60_3 + 1))) = some r := by first | (rw [hy178]; with_reducible exact H) | (have H2_ := (Option.bind_some _ _).symm.trans H; rw [hy178]; with_reducible exact H2_) | (have H2_ := (Option.bind_some _ _).symm.trans H; with_reducible exact H2_) | with_reducible exact H | (rw [hy178]; exact H) | exact H
                        have Ny178 := Aside0.mk hy178
                        clear hy178
                        have H' := Aside0.mk H
                        clear H
                        have p174 : 0 ≤ (x60_3 : Int) := of_decide_eq_true (by first | (with_reducible assumption) | assumption)
                        have q174 : x60_3 < (((rd_T53 l0 (rd t159 x9_2)).f1).length : Int) := of_decide_eq_true (by first | (with_reducible assumption) | assumption)
                        obtain ⟨ad174, e174, hx174_0⟩ := Kd.at_int HR173_1.out x60_3 p174 q174
                        cases e174
                        try replace hx174_0 := (HB.out.cell (World.block_lt_of_cell? w _ hx174_0)).trans hx174_0
                        replace p174 := eq_true p174
                        replace q174 := eq_true q174
                        have p175 : 0 ≤ ((rd t159 x9_2) : Int) := of_decide_eq_true (by first | (with_reducible assumption) | assumption)
                        have q175 : (rd t159 x9_2) < (x7_3.length : Int) := of_decide_eq_true (by first | (with_reducible assumption) | assumption)
                        obtain ⟨ad175, e175, hx175_0⟩ := Kd.at_int (Kd.R_reads' HO_7.out).2.2 (rd t159 x9_2) p175 q175
                        cases e175
                        replace p175 := eq_true p175
                        replace q175 := eq_true q175
                        have p176 : 0 ≤ ((rd ((rd_T53 l0 (rd t159 x9_2)).f1) x60_3) : Int) := of_decide_eq_true (by first | (with_reducible assumption) | assumption)
                        have q176 : (rd ((rd_T53 l0 (rd t159 x9_2)).f1) x60_3) < (l0.length : Int) := of_decide_eq_true (by first | (with_reducible assumption) | assumption)
                        obtain ⟨ad176, A176_1, c176_1, e176, hx176_0, hx176_1, hl176_1, hi176_1⟩ := at_T53 HR0.out (rd ((rd_T53 l0 (rd t159 x9_2)).f1) x60_3) p176 q176
                        obtain rfl : ad173 = ad176 := (by injection e176)
                        try replace hx176_0 := (HB.out.cell (World.block_lt_of_cell? w _ hx176_0)).trans hx176_0
                        try replace hx176_1 := (HB.out.cell (World.block_lt_of_cell? w _ hx176_1)).trans hx176_1
                        have HR176_1 := Aside0.mk hi176_1
                        have HC176_1 := Aside0.mk hl176_1
                        clear hi176_1 hl176_1
                        replace p176 := eq_true p176
                        replace q176 := eq_true q176
                        have p177 : 0 ≤ ((rd ((rd_T53 l0 (rd t159 x9_2)).f1) x60_3) : Int) := of_decide_eq_true (by first | (with_reducible assumption) | assumption)
                        have q177 : (rd ((rd_T53 l0 (rd t159 x9_2)).f1) x60_3) < (x7_3.length : Int) := of_decide_eq_true (by first | (with_reducible assumption) | assumption)
                        obtain ⟨ad177, e177, hx177_0⟩ := Kd.at_int (Kd.R_reads' HO_7.out).2.2 (rd ((rd_T53 l0 (rd t159 x9_2)).f1) x60_3) p177 q177
                        obtain rfl : ad175 = ad177 := (by injection e177)
                        replace p177 := eq_true p177
                        replace q177 := eq_true q177
                        have p33 : 0 ≤ ((rd ((rd_T53 l0 (rd t159 x9_2)).f1) x60_3) : Int) := of_decide_eq_true (by first | (with_reducible assumption) | assumption)
                        have q33 : ((rd ((rd_T53 l0 (rd t159 x9_2)).f1) x60_3) : Int) < ((x7_3.length : Int) : Int) := of_decide_eq_true (by first | (with_reducible assumption) | assumption)
                        obtain ⟨go33, co33, eo33, gb33, gl33, cl33, HG33⟩ := Kd.R_form HO_7.out (by omega)
                        (first | cases eo33 | (injection eo33 with ea_ en_ ec_; (first | subst ea_ | (injection ea_ with ea_; subst ea_)); subst ec_; clear en_))
                        have GB33 := Aside0.mk gb33
                        have GG33 := Aside0.mk HG33
                        clear gb33 gl33 HG33
                        (first | simp only [add_plain] at hx175_0 | skip)
                        (first | simp only [add_plain] at hx177_0 | skip)
                        obtain ⟨hx33_0, hf33_0⟩ := Kd.R_celln 0 HO_7.out ((rd ((rd_T53 l0 (rd t159 x9_2)).f1) x60_3) : Int) p33 q33
                        replace p33 := eq_true p33
                        replace q33 := eq_true q33
                        have HP34 := Kd.R_putg HO_7.out ((rd ((rd_T53 l0 (rd t159 x9_2)).f1) x60_3) : Int) (wrap64 ((rd x7_3 (rd t159 x9_2)) - ((rd_T53 l0 (rd ((rd_T53 l0 (rd t159 x9_2)).f1) x60_3)).f0)))
                        go_wp2_with (first | ((with_reducible refine gate_store (t := 3) (p := 83) rfl ?_); (try (rw [drewN_self wr]; generalize hq_ : World.drewN wr _ = wr; have n0_ := Aside0.mk (Kd.R_at hq_ HO_3.out); have n1_ := Aside0.mk (Kd.R_at hq_ HO_7.out); have n2_ := Aside0.mk (below_at hq_ HB.out); clear hq_ HO_3 HO_7 HB; have HO_3 := n0_; have HO_7 := n1_; have HB := n2_; clear n0_ n1_ n2_; (try (have HP34 := Kd.R_putg HO_7.out ((rd ((rd_T53 l0 (rd t159 x9_2)).f1) x60_3) : Int) (wrap64 ((rd x7_3 (rd t159 x9_2)) - ((rd_T53 l0 (rd ((rd_T53 l0 (rd t159 x9_2)).f1) x60_3)).f0))))))); refine store_event (t := 3) (p := 83) (v := ?vo_w35) (w1 := (wr.setCell ⟨go33, ((rd ((rd_T53 l0 (rd t159 x9_2)).f1) x60_3) : Int).toNat, none⟩ (.int .i64 (wrap64 ((rd x7_3 (rd t159 x9_2)) - ((rd_T53 l0 (rd ((rd_T53 l0 (rd t159 x9_2)).f1) x60_3)).f0)))))) ?hg ?ho ?hn ?hr ?_; (case ho => rfl); (case hg => rfl); (case hn => rfl); (case hr => first | (go_simp; done) | (go_simp; rfl)); intro w35 hw; have hg : wr.grownBy w35 (some go33) := (by rw [hw]; exact HP34.2); have hp_ : Kd.R (Kd.int .i64) 3 w35 w.heap.size (fun k_ => some k_ ≠ (.slice (some ad172) t159.length co18 : Value).ownBlock) (.slice (some ⟨go33, 0, none⟩) x7_3.length co10) y178 := (by rw [hw, Ny178.out]; exact HP34.1); clear HP34; have n0_ := Aside0.mk (Kd.R_after (v := (.slice (some ⟨go33, 0, none⟩) x7_3.length co10)) (v1 := (.slice (some ⟨go33, 0, none⟩) x7_3.length co10)) (ok := (fun _ => True)) (by (with_reducible repeat (first | apply Kd.R_alloc | apply Kd.R_drewN | apply Kd.R_drew)); exact Kd.R_mono HO_3.out (fun _ hk => ⟨trivial, hk⟩)) hg (.inl rfl)); have n1_ := Aside0.mk (hp_); have n2_ := Aside0.mk ((by rw [hw]; exact below_set (HB.out) GB33.out : Below w.heap.size w w35)); clear HO_3; clear HO_7; clear HB; have HO_3 := n0_; have HO_7 := n1_; have HB := n2_; clear n0_ n1_ n2_; clear hg hw hp_))
                        repeat (go_quiet (first | ((with_reducible refine gate_store (t := 3) (p := 83) rfl ?_); (try (rw [drewN_self wr]; generalize hq_ : World.drewN wr _ = wr; have n0_ := Aside0.mk (Kd.R_at hq_ HO_3.out); have n1_ := Aside0.mk (Kd.R_at hq_ HO_7.out); have n2_ := Aside0.mk (below_at hq_ HB.out); clear hq_ HO_3 HO_7 HB; have HO_3 := n0_; have HO_7 := n1_; have HB := n2_; clear n0_ n1_ n2_; (try (have HP34 := Kd.R_putg HO_7.out ((rd ((rd_T53 l0 (rd t159 x9_2)).f1) x60_3) : Int) (wrap64 ((rd x7_3 (rd t159 x9_2)) - ((rd_T53 l0 (rd ((rd_T53 l0 (rd t159 x9_2)).f1) x60_3)).f0))))))); refine store_event (t := 3) (p := 83) (v := ?vo_w35) (w1 := (wr.setCell ⟨go33, ((rd ((rd_T53 l0 (rd t159 x9_2)).f1) x60_3) : Int).toNat, none⟩ (.int .i64 (wrap64 ((rd x7_3 (rd t159 x9_2)) - ((rd_T53 l0 (rd ((rd_T53 l0 (rd t159 x9_2)).f1) x60_3)).f0)))))) ?hg ?ho ?hn ?hr ?_; (case ho => rfl); (case hg => rfl); (case hn => rfl); (case hr => first | (go_simp; done) | (go_simp; rfl)); intro w35 hw; have hg : wr.grownBy w35 (some go33) := (by rw [hw]; exact HP34.2); have hp_ : Kd.R (Kd.int .i64) 3 w35 w.heap.size (fun k_ => some k_ ≠ (.slice (some ad172) t159.length co18 : Value).ownBlock) (.slice (some ⟨go33, 0, none⟩) x7_3.length co10) y178 := (by rw [hw, Ny178.out]; exact HP34.1); clear HP34; have n0_ := Aside0.mk (Kd.R_after (v := (.slice (some ⟨go33, 0, none⟩) x7_3.length co10)) (v1 := (.slice (some ⟨go33, 0, none⟩) x7_3.length co10)) (ok := (fun _ => True)) (by (with_reducible repeat (first | apply Kd.R_alloc | apply Kd.R_drewN | apply Kd.R_drew)); exact Kd.R_mono HO_3.out (fun _ hk => ⟨trivial, hk⟩)) hg (.inl rfl)); have n1_ := Aside0.mk (hp_); have n2_ := Aside0.mk ((by rw [hw]; exact below_set (HB.out) GB33.out : Below w.heap.size w w35)); clear HO_3; clear HO_7; clear HB; have HO_3 := n0_; have HO_7 := n1_; have HB := n2_; clear n0_ n1_ n2_; clear hg hw hp_)); try go_wp2_with (first | ((with_reducible refine gate_store (t := 3) (p := 83) rfl ?_); (try (rw [drewN_self wr]; generalize hq_ : World.drewN wr _ = wr; have n0_ := Aside0.mk (Kd.R_at hq_ HO_3.out); have n1_ := Aside0.mk (Kd.R_at hq_ HO_7.out); have n2_ := Aside0.mk (below_at hq_ HB.out); clear hq_ HO_3 HO_7 HB; have HO_3 := n0_; have HO_7 := n1_; have HB := n2_; clear n0_ n1_ n2_; (try (have HP34 := Kd.R_putg HO_7.out ((rd ((rd_T53 l0 (rd t159 x9_2)).f1) x60_3) : Int) (wrap64 ((rd x7_3 (rd t159 x9_2)) - ((rd_T53 l0 (rd ((rd_T53 l0 (rd t159 x9_2)).f1) x60_3)).f0))))))); refine store_event (t := 3) (p := 83) (v := ?vo_w35) (w1 := (wr.setCell ⟨go33, ((rd ((rd_T53 l0 (rd t159 x9_2)).f1) x60_3) : Int).toNat, none⟩ (.int .i64 (wrap64 ((rd x7_3 (rd t159 x9_2)) - ((rd_T53 l0 (rd ((rd_T53 l0 (rd t159 x9_2)).f1) x60_3)).f0)))))) ?hg ?ho ?hn ?hr ?_; (case ho => rfl); (case hg => rfl); (case hn => rfl); (case hr => first | (go_simp; done) | (go_simp; rfl)); intro w35 hw; have hg : wr.grownBy w35 (some go33) := (by rw [hw]; exact HP34.2); have hp_ : Kd.R (Kd.int .i64) 3 w35 w.heap.size (fun k_ => some k_ ≠ (.slice (some ad172) t159.length co18 : Value).ownBlock) (.slice (some ⟨go33, 0, none⟩) x7_3.length co10) y178 := (by rw [hw, Ny178.out]; exact HP34.1); clear HP34; have n0_ := Aside0.mk (Kd.R_after (v := (.slice (some ⟨go33, 0, none⟩) x7_3.length co10)) (v1 := (.slice (some ⟨go33, 0, none⟩) x7_3.length co10)) (ok := (fun _ => True)) (by (with_reducible repeat (first | apply Kd.R_alloc | apply Kd.R_drewN | apply Kd.R_drew)); exact Kd.R_mono HO_3.out (fun _ hk => ⟨trivial, hk⟩)) hg (.inl rfl)); have n1_ := Aside0.mk (hp_); have n2_ := Aside0.mk ((by rw [hw]; exact below_set (HB.out) GB33.out : Below w.heap.size w w35)); clear HO_3; clear HO_7; clear HB; have HO_3 := n0_; have HO_7 := n1_; have HB := n2_; clear n0_ n1_ n2_; clear hg hw hp_)))
                        (try simp only [← hl7_3])
                        have n0_ : Aside0 (Kd.R (Kd.int .i64) 3 ((wr.drewN nq).setCell ⟨go33, ((rd ((rd_T53 l0 (rd t159 x9_2)).f1) x60_3) : Int).toNat, none⟩ (.int .i64 (wrap64 ((rd x7_3 (rd t159 x9_2)) - ((rd_T53 l0 (rd ((rd_T53 l0 (rd t159 x9_2)).f1) x60_3)).f0))))) w.heap.size (fun k_ => some k_ ≠ (.slice (some ad172) t159.length co18 : Value).ownBlock) (.slice (some ⟨go33, 0, none⟩) x7_3.length co10) y178) := ⟨by rw [Ny178.out]; exact (Kd.R_putg (Kd.R_drewN HO_7.out nq) ((rd ((rd_T53 l0 (rd t159 x9_2)).f1) x60_3) : Int) (wrap64 ((rd x7_3 (rd t159 x9_2)) - ((rd_T53 l0 (rd ((rd_T53 l0 (rd t159 x9_2)).f1) x60_3)).f0)))).1⟩
                        have n1_ : Aside0 (Kd.R (Kd.int .i64) 3 ((wr.drewN nq).setCell ⟨go33, ((rd ((rd_T53 l0 (rd t159 x9_2)).f1) x60_3) : Int).toNat, none⟩ (.int .i64 (wrap64 ((rd x7_3 (rd t159 x9_2)) - ((rd_T53 l0 (rd ((rd_T53 l0 (rd t159 x9_2)).f1) x60_3)).f0))))) w.heap.size (fun k_ => True ∧ some k_ ≠ (.slice (some ⟨go33, 0, none⟩) x7_3.length co10 : Value).ownBlock) (.slice (some ad172) t159.length co18) t159) := ⟨Kd.R_mono (Kd.R_far (p := ⟨go33, ((rd ((rd_T53 l0 (rd t159 x9_2)).f1) x60_3) : Int).toNat, none⟩) (Kd.R_mono (Kd.R_drewN HO_3.out nq) (fun k_ hk => (⟨hk, fun e_ => hk (by rw [e_]; rfl)⟩ : _ ∧ k_ ≠ go33))) (fun _ hk => hk.2) (.int .i64 (wrap64 ((rd x7_3 (rd t159 x9_2)) - ((rd_T53 l0 (rd ((rd_T53 l0 (rd t159 x9_2)).f1) x60_3)).f0))))) (fun _ hk => ⟨trivial, hk.1⟩)⟩
                        have n2_ : Aside0 (Below w.heap.size w ((wr.drewN nq).setCell ⟨go33, ((rd ((rd_T53 l0 (rd t159 x9_2)).f1) x60_3) : Int).toNat, none⟩ (.int .i64 (wrap64 ((rd x7_3 (rd t159 x9_2)) - ((rd_T53 l0 (rd ((rd_T53 l0 (rd t159 x9_2)).f1) x60_3)).f0)))))) := ⟨below_set (pw_below_drewN HB.out nq) GB33.out⟩
                        clear HO_7 HO_3 HB HP34
                        have HO_7 := n0_
                        have HO_3 := n1_
                        have HB := n2_
                        clear n0_ n1_ n2_
                        go_roundg k3
                        case measure => have := HK1.out; have := HK2.out; have := HK3.out; omega
                        case rel => exact ⟨(y178), (wrap64 (x60_3 + 1)), (by first | rfl | (simp; done) | (simp [*]; done)), H', ⟨by have := HK1.out; have := HK2.out; have := HK3.out; omega⟩, ⟨by (try simp only [hl7_1]); (try simp only [hl7_2]); (try simp only [hl7_3]); (with_reducible repeat (first | apply Kd.R_alloc | apply Kd.R_drewN | apply Kd.R_drew)); exact Kd.R_mono HO_3.out (fun _ hk => hk.2)⟩, ⟨by (try simp only [hl7_1]); (try simp only [hl7_2]); (try simp only [hl7_3]); (with_reducible repeat (first | apply Kd.R_alloc | apply Kd.R_drewN | apply Kd.R_drew)); exact HO_7.out⟩, ⟨by repeat (first | (with_reducible first | exact HB.out | apply below_alloc | apply pw_below_drewN | apply below_drew1) | exact HB.out)⟩⟩
                       ·rw [if_neg c32] at H
                        have c32b0 : decide ((wrap64 ((rd x7_3 (rd t159 x9_2)) - ((rd_T53 l0 (rd ((rd_T53 l0 (rd t159 x9_2)).f1) x60_3)).f0))) < (rd x7_3 (rd ((rd_T53 l0 (rd t159 x9_2)).f1) x60_3))) = false := decide_eq_false c32
                        clear c32
                        have H' := Aside0.mk H
                        clear H
                        have p174 : 0 ≤ (x60_3 : Int) := of_decide_eq_true (by first | (with_reducible assumption) | assumption)
                        have q174 : x60_3 < (((rd_T53 l0 (rd t159 x9_2)).f1).length : Int) := of_decide_eq_true (by first | (with_reducible assumption) | assumption)
                        obtain ⟨ad174, e174, hx174_0⟩ := Kd.at_int HR173_1.out x60_3 p174 q174
                        cases e174
                        try replace hx174_0 := (HB.out.cell (World.block_lt_of_cell? w _ hx174_0)).trans hx174_0
                        replace p174 := eq_true p174
                        replace q174 := eq_true q174
                        have p175 : 0 ≤ ((rd t159 x9_2) : Int) := of_decide_eq_true (by first | (with_reducible assumption) | assumption)
                        have q175 : (rd t159 x9_2) < (x7_3.length : Int) := of_decide_eq_true (by first | (with_reducible assumption) | assumption)
                        obtain ⟨ad175, e175, hx175_0⟩ := Kd.at_int (Kd.R_reads' HO_7.out).2.2 (rd t159 x9_2) p175 q175
                        cases e175
                        replace p175 := eq_true p175
                        replace q175 := eq_true q175
                        have p176 : 0 ≤ ((rd ((rd_T53 l0 (rd t159 x9_2)).f1) x60_3) : Int) := of_decide_eq_true (by first | (with_reducible assumption) | assumption)
                        have q176 : (rd ((rd_T53 l0 (rd t159 x9_2)).f1) x60_3) < (l0.length : Int) := of_decide_eq_true (by first | (with_reducible assumption) | assumption)
                        obtain ⟨ad176, A176_1, c176_1, e176, hx176_0, hx176_1, hl176_1, hi176_1⟩ := at_T53 HR0.out (rd ((rd_T53 l0 (rd t159 x9_2)).f1) x60_3) p176 q176
                        obtain rfl : ad173 = ad176 := (by injection e176)
                        try replace hx176_0 := (HB.out.cell (World.block_lt_of_cell? w _ hx176_0)).trans hx176_0
                        try replace hx176_1 := (HB.out.cell (World.block_lt_of_cell? w _ hx176_1)).trans hx176_1
                        have HR176_1 := Aside0.mk hi176_1
                        have HC176_1 := Aside0.mk hl176_1
                        clear hi176_1 hl176_1
                        replace p176 := eq_true p176
                        replace q176 := eq_true q176
                        have p177 : 0 ≤ ((rd ((rd_T53 l0 (rd t159 x9_2)).f1) x60_3) : Int) := of_decide_eq_true (by first | (with_reducible assumption) | assumption)
                        have q177 : (rd ((rd_T53 l0 (rd t159 x9_2)).f1) x60_3) < (x7_3.length : Int) := of_decide_eq_true (by first | (with_reducible assumption) | assumption)
                        obtain ⟨ad177, e177, hx177_0⟩ := Kd.at_int (Kd.R_reads' HO_7.out).2.2 (rd ((rd_T53 l0 (rd t159 x9_2)).f1) x60_3) p177 q177
                        obtain rfl : ad175 = ad177 := (by injection e177)
                        replace p177 := eq_true p177
                        replace q177 := eq_true q177
                        go_wp2
                        repeat (go_quiet (fail); try go_wp2)
                        (try simp only [← hl7_3])
                        go_roundg k3
                        case measure => have := HK1.out; have := HK2.out; have := HK3.out; omega
                        case rel => exact ⟨(x7_3), (wrap64 (x60_3 + 1)), (by first | rfl | (simp; done) | (simp [*]; done)), H', ⟨by have := HK1.out; have := HK2.out; have := HK3.out; omega⟩, ⟨by (try simp only [hl7_1]); (try simp only [hl7_2]); (try simp only [hl7_3]); (with_reducible repeat (first | apply Kd.R_alloc | apply Kd.R_drewN | apply Kd.R_drew)); exact HO_3.out⟩, ⟨by (try simp only [hl7_1]); (try simp only [hl7_2]); (try simp only [hl7_3]); (with_reducible repeat (first | apply Kd.R_alloc | apply Kd.R_drewN | apply Kd.R_drew)); exact HO_7.out⟩, ⟨by repeat (first | (with_reducible first | exact HB.out | apply below_alloc | apply pw_below_drewN | apply below_drew1) | exact HB.out)⟩⟩
                      ·rw [if_neg c31] at H
                       exact absurd H (by simp)
                     ·rw [if_neg c30] at H
                      exact absurd H (by simp)
                    ·rw [if_neg c29] at H
                     exact absurd H (by simp)
                   ·rw [if_neg c28] at H
                    exact absurd H (by simp)
                  ·rw [if_neg c27] at H
                   exact absurd H (by simp)
                 ·rw [if_neg c26] at H
                  exact absurd H (by simp)
                ·rw [if_neg c25] at H
                 exact absurd H (by simp)
               ·rw [if_neg c24] at H
                have c24b0 : decide (x60_3 < (((rd_T53 l0 (rd t159 x9_2)).f1).length : Int)) = false := decide_eq_false c24
                clear c24
                have H' := Aside0.mk H
                clear H
                go_wp2
                repeat (go_quiet (fail); try go_wp2)
                (try simp only [← hl7_2, ← hl7_3])
                go_roundg k3
                case measure => have := HK1.out; have := HK2.out; have := HK3.out; omega
                case rel => exact ⟨(x7_3), (wrap64 (x9_2 - 1)), (by first | rfl | (simp; done) | (simp [*]; done)), H', ⟨by have := HK1.out; have := HK2.out; have := HK3.out; omega⟩, ⟨by (try simp only [hl7_1]); (try simp only [hl7_2]); (try simp only [hl7_3]); (with_reducible repeat (first | apply Kd.R_alloc | apply Kd.R_drewN | apply Kd.R_drew)); exact HO_3.out⟩, ⟨by (try simp only [hl7_1]); (try simp only [hl7_2]); (try simp only [hl7_3]); (with_reducible repeat (first | apply Kd.R_alloc | apply Kd.R_drewN | apply Kd.R_drew)); exact HO_7.out⟩, ⟨by repeat (first | (with_reducible first | exact HB.out | apply below_alloc | apply pw_below_drewN | apply below_drew1) | exact HB.out)⟩⟩
            ·rw [if_neg c23] at H
             exact absurd H (by simp)
           ·rw [if_neg c22] at H
            exact absurd H (by simp)
          ·rw [if_neg c21] at H
           exact absurd H (by simp)
         ·rw [if_neg c20] at H
          exact absurd H (by simp)
        ·rw [if_neg c19] at H
         have c19b0 : decide (0 ≤ x9_2) = false := decide_eq_false c19
         clear c19
         obtain rfl := Option.some.inj H
         go_wp2
         repeat (go_quiet (fail); try go_wp2)
         go_ret
         exact ⟨_, by first | rfl | (simp [errW_none, errW_some] <;> rfl) | (simp [*, errW_none, errW_some] <;> rfl), by (with_reducible repeat (first | apply Kd.R_alloc | apply Kd.R_drewN | apply Kd.R_drew)); exact Kd.R_mono HO_7.out (fun _ hk => trivial), by repeat (first | (with_reducible first | exact HB.out | apply below_alloc | apply pw_below_drewN | apply below_drew1) | exact HB.out)⟩
  ·rw [if_neg c5] at H
   exact absurd H (by simp)
 ·rw [if_neg c4] at H
  exact absurd H (by simp)

end Go.Proofs.Ytpgegjbnnbkhiaa.PFnExactCriticalOf
