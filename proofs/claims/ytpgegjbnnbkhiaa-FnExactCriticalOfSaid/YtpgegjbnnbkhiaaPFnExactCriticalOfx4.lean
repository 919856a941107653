-- written by xprint.py (a program of this session's, over the kit's print): printed functions, and some by hand
import Derived.Test.YtpgegjbnnbkhiaaPFnExactCriticalOfx0
import Derived.Test.YtpgegjbnnbkhiaaPFnExactCriticalOfx3
namespace Go.Proofs.Ytpgegjbnnbkhiaa.PFnExactCriticalOf
open Go.RowKit Go.Proofs.YtpgegjbnnbkhiaaW.PrintWords Go.Proofs.YtpgegjbnnbkhiaaW.PrintLast Go.Proofs.YtpgegjbnnbkhiaaW.PrintMore
attribute [local go_sem] max2_int min2_int max_two min_two max_three min_three max_four min_four   -- for this text's walks alone
set_option linter.unusedVariables false
set_option linter.unusedSimpArgs false

/-! ### spec_l4Earliest: function 53, by hand -/
mutual
def spec_l4Earliest.l0 : Nat → List (S53) → List Int → Int → List Int → Int → Int → Option (List Int × Int)
 | 0, _, _, _, _, _, _ => none
 | k + 1, x0, x6, x7, x22, x23, x24 => if x24 < x23 then (if 0 ≤ x24 then (if x24 < (x22.length : Int) then (if 0 ≤ (rd x22 x24) then (if (rd x22 x24) < (x0.length : Int) then (spec_l4Earliest.l1 k x0 x6 x7 (rd x22 x24) x22 x23 x24 ((rd_T53 x0 (rd x22 x24)).f1) (((rd_T53 x0 (rd x22 x24)).f1).length : Int) 0) else (none)) else (none)) else (none)) else (none)) else (some (x6, x7))
def spec_l4Earliest.l1 : Nat → List (S53) → List Int → Int → Int → List Int → Int → Int → List Int → Int → Int → Option (List Int × Int)
 | 0, _, _, _, _, _, _, _, _, _, _ => none
 | k + 1, x0, x6, x7, x9, x22, x23, x24, x32, x33, x34 => if x34 < x33 then (if 0 ≤ x34 then (if x34 < (x32.length : Int) then (if 0 ≤ (rd x32 x34) then (if (rd x32 x34) < (x6.length : Int) then (if (rd x32 x34) < (x0.length : Int) then (if 0 ≤ x9 then (if x9 < (x6.length : Int) then (if (wrap64 ((rd x6 (rd x32 x34)) + ((rd_T53 x0 (rd x32 x34)).f0))) > (rd x6 x9) then (spec_l4Earliest.l1 k x0 (x6.set (x9 : Int).toNat (wrap64 ((rd x6 (rd x32 x34)) + ((rd_T53 x0 (rd x32 x34)).f0)))) x7 x9 x22 x23 x24 x32 x33 (wrap64 (x34 + 1))) else (spec_l4Earliest.l1 k x0 x6 x7 x9 x22 x23 x24 x32 x33 (wrap64 (x34 + 1)))) else (none)) else (none)) else (none)) else (none)) else (none)) else (none)) else (none)) else (if 0 ≤ x9 then (if x9 < (x6.length : Int) then (if x9 < (x0.length : Int) then (if (wrap64 ((rd x6 x9) + ((rd_T53 x0 x9).f0))) > x7 then (spec_l4Earliest.l0 k x0 x6 (wrap64 ((rd x6 x9) + ((rd_T53 x0 x9).f0))) x22 x23 (wrap64 (x24 + 1))) else (spec_l4Earliest.l0 k x0 x6 x7 x22 x23 (wrap64 (x24 + 1)))) else (none)) else (none)) else (none))
end
def spec_l4Earliest.f (k : Nat) (l0 : List (S53)) : Option (List Int × Int) := (spec_l4Order.f k l0).bind fun bt159 => (if 0 ≤ (l0.length : Int) then (if ((l0.length : Int) : Int).toNat ≤ 35184372088832 then (spec_l4Earliest.l0 k l0 (List.replicate ((l0.length : Int) : Int).toNat 0) 0 bt159.1 (bt159.1.length : Int) 0) else (none)) else (none))
theorem spec_l4Earliest.mono_l : ∀ k, (∀ y0 y1 y2 y3 y4 y5, LeO (spec_l4Earliest.l0 k y0 y1 y2 y3 y4 y5) (spec_l4Earliest.l0 (k + 1) y0 y1 y2 y3 y4 y5)) ∧ (∀ y0 y1 y2 y3 y4 y5 y6 y7 y8 y9, LeO (spec_l4Earliest.l1 k y0 y1 y2 y3 y4 y5 y6 y7 y8 y9) (spec_l4Earliest.l1 (k + 1) y0 y1 y2 y3 y4 y5 y6 y7 y8 y9))
 | 0 => ⟨fun _ _ _ _ _ _ r h => by simp [spec_l4Earliest.l0] at h, fun _ _ _ _ _ _ _ _ _ _ r h => by simp [spec_l4Earliest.l1] at h⟩
 | k + 1 => by
  obtain ⟨ih0, ih1⟩ := spec_l4Earliest.mono_l k
  refine ⟨?_, ?_⟩
  ·intro y0 y1 y2 y3 y4 y5
   unfold spec_l4Earliest.l0
   repeat' first
   | (with_reducible exact ih0 _ _ _ _ _ _)
   | (with_reducible exact ih1 _ _ _ _ _ _ _ _ _ _)
   | (with_reducible exact spec_l4Order.mono _ _)
   | (with_reducible exact LeO.refl _)
   | (with_reducible exact LeO.none _)
   | (with_reducible refine LeO.ite ?_ ?_)
   | (with_reducible refine LeO.bind ?_ (fun _ => ?_))
   | exact ih0 _ _ _ _ _ _
   | exact ih1 _ _ _ _ _ _ _ _ _ _
   | exact spec_l4Order.mono _ _
   | exact LeO.none _
   | refine LeO.ite ?_ ?_
   | refine LeO.bind ?_ (fun _ => ?_)
  ·intro y0 y1 y2 y3 y4 y5 y6 y7 y8 y9
   unfold spec_l4Earliest.l1
   repeat' first
   | (with_reducible exact ih0 _ _ _ _ _ _)
   | (with_reducible exact ih1 _ _ _ _ _ _ _ _ _ _)
   | (with_reducible exact spec_l4Order.mono _ _)
   | (with_reducible exact LeO.refl _)
   | (with_reducible exact LeO.none _)
   | (with_reducible refine LeO.ite ?_ ?_)
   | (with_reducible refine LeO.bind ?_ (fun _ => ?_))
   | exact ih0 _ _ _ _ _ _
   | exact ih1 _ _ _ _ _ _ _ _ _ _
   | exact spec_l4Order.mono _ _
   | exact LeO.none _
   | refine LeO.ite ?_ ?_
   | refine LeO.bind ?_ (fun _ => ?_)
theorem spec_l4Earliest.mono : ∀ a0 k, LeO (spec_l4Earliest.f k a0) (spec_l4Earliest.f (k + 1) a0) := by
 intro a0 k
 obtain ⟨ih0, ih1⟩ := spec_l4Earliest.mono_l k
 unfold spec_l4Earliest.f
 repeat' first
   | (with_reducible exact ih0 _ _ _ _ _ _)
   | (with_reducible exact ih1 _ _ _ _ _ _ _ _ _ _)
   | (with_reducible exact spec_l4Order.mono _ _)
   | (with_reducible exact LeO.refl _)
   | (with_reducible exact LeO.none _)
   | (with_reducible refine LeO.ite ?_ ?_)
   | (with_reducible refine LeO.bind ?_ (fun _ => ?_))
   | exact ih0 _ _ _ _ _ _
   | exact ih1 _ _ _ _ _ _ _ _ _ _
   | exact spec_l4Order.mono _ _
   | exact LeO.none _
   | refine LeO.ite ?_ ?_
   | refine LeO.bind ?_ (fun _ => ?_)
set_option maxHeartbeats 8000000 in
set_option maxRecDepth 100000 in
theorem spec_l4Earliest.calls (k : Nat) (A0 : Option Addr) (c0 : Nat) (l0 : List (S53)) (r1 : List Int) (r2 : Int) (w : World) (hr0 : Kd.C k53 w A0 l0.length l0) (hc0 : l0.length ≤ c0) (h : spec_l4Earliest.f k l0 = some (r1, r2)) :
  Calls Try.prog 53 #[.slice A0 l0.length c0] w fun e w' => ∃ v0_ : Value, e = .returned (.tuple #[v0_, .int .i64 r2]) ∧ Kd.R (Kd.int .i64) 3 w' w.heap.size (fun _ => True) v0_ r1 ∧ Below w.heap.size w w' := by
 have HR0 := Aside0.mk hr0
 have HC0 := Aside0.mk hc0
 clear hr0 hc0
 have HB := Aside0.mk (Below.refl w.heap.size w)
 have H : ((spec_l4Order.f k l0).bind fun bt159 => (if 0 ≤ (l0.length : Int) then (if ((l0.length : Int) : Int).toNat ≤ 35184372088832 then (spec_l4Earliest.l0 k l0 (List.replicate ((l0.length : Int) : Int).toNat 0) 0 bt159.1 (bt159.1.length : Int) 0) else (none)) else (none))) = some (r1, r2) := h
 clear h
 replace H := Option.bind_eq_some_iff.mp H
 obtain ⟨⟨t159, t160⟩, A20, H⟩ := H
 replace H : (if 0 ≤ (l0.length : Int) then (if ((l0.length : Int) : Int).toNat ≤ 35184372088832 then (spec_l4Earliest.l0 k l0 (List.replicate ((l0.length : Int) : Int).toNat 0) 0 t159 (t159.length : Int) 0) else (none)) else (none)) = some (r1, r2) := H
 have A2 := Aside0.mk A20
 clear A20
 by_cases c3 : 0 ≤ (l0.length : Int)
 ·rw [if_pos c3] at H
  have c3b0 := eq_true c3
  have c3b1 : decide (0 ≤ (l0.length : Int)) = true := decide_eq_true c3
  clear c3
  by_cases c4 : ((l0.length : Int) : Int).toNat ≤ 35184372088832
  ·rw [if_pos c4] at H
   have c4b0 := eq_true c4
   have c4b1 : decide (((l0.length : Int) : Int).toNat ≤ 35184372088832) = true := decide_eq_true c4
   clear c4
   obtain ⟨y163, hy163⟩ : ∃ y_ : List Int, y_ = (List.replicate ((l0.length : Int) : Int).toNat 0) := ⟨_, rfl⟩
   replace H : (spec_l4Earliest.l0 k l0 y163 0 t159 (t159.length : Int) 0) = some (r1, r2) := by first | (rw [hy163]; with_reducible exact H) | (have H2_ := (Option.bind_some _ _).symm.trans H; rw [hy163]; with_reducible exact H2_) | (have H2_ := (Option.bind_some _ _).symm.trans H; with_reducible exact H2_) | with_reducible exact H | (rw [hy163]; exact H) | exact H
   have Ny163 := Aside0.mk hy163
   clear hy163
   have H' := Aside0.mk H
   clear H
   go_enter Try.func53, Try.ntmps53
   go_wp2_with (first | (go_at_call 46; (with_reducible refine (spec_l4Order.calls k _ _ l0 t159 t160 _ ?side1 ?side2 A2.out).mono ?_); (case side1 => repeat (first | exact HR0.out | (with_reducible refine Kd.C_alloc ?_ _) | (with_reducible refine Kd.C_drewN ?_ _) | (with_reducible refine Kd.C_drew ?_))); (case side2 => exact HC0.out); rintro e w5 ⟨v161, rfl, ho0, hb⟩; have n0_ := Aside0.mk (Kd.R_lower ho0 (below_size (by repeat (first | (with_reducible first | exact HB.out | apply below_alloc | apply pw_below_drewN | apply below_drew1) | exact HB.out)))); have n1_ := Aside0.mk (below_step (by repeat (first | (with_reducible first | exact HB.out | apply below_alloc | apply pw_below_drewN | apply below_drew1) | exact HB.out)) hb); clear HB; have HO162 := n0_; have HB := n1_; clear n0_ n1_; (try clear hb); (try clear hb2); (try clear hk); (try clear hi); (try clear ho0)) | ((with_reducible refine gate_dst (N := 21) rfl ?_); refine Kd.R_make (Kd.int .i64) _ 3 rfl (N := 21) rfl 29 _ _ rfl (l0.length : Int) rfl rfl Try.underlying29 (.int .i64 0) 8 info3 rfl (by decide) (by omega) 0 (ok := fun _ => True) (okp := fun _ => True) rfl (fun _ hk => hk) trivial (of_decide_eq_true (by first | (with_reducible assumption) | assumption)) (Nat.le_trans (Nat.mul_le_mul_right _ (of_decide_eq_true (by first | (with_reducible assumption) | assumption) : (l0.length : Int).toNat ≤ 35184372088832)) (by omega)) (Below.refl _ _) (Nat.le_refl _) ?_; intro v164 w6 ho7 hb hg_ hnew_; clear hg_ hnew_; (first | rw [← Ny163.out] at ho7 | (simp only [Int.reduceToNat] at ho7; rw [← Ny163.out] at ho7)); have n0_ := Aside0.mk (Kd.R_elder' (by (with_reducible repeat (first | apply Kd.R_alloc | apply Kd.R_drewN | apply Kd.R_drew)); exact HO162.out) (Kd.R_base ho7) hb); have n1_ := Aside0.mk (Kd.R_lower (Kd.R_new' ho7 (Kd.R_lt (by (with_reducible repeat (first | apply Kd.R_alloc | apply Kd.R_drewN | apply Kd.R_drew)); exact HO162.out))) (below_size (by repeat (first | (with_reducible first | exact HB.out | apply below_alloc | apply pw_below_drewN | apply below_drew1) | exact HB.out)))); have n2_ := Aside0.mk (below_step (by repeat (first | (with_reducible first | exact HB.out | apply below_alloc | apply pw_below_drewN | apply below_drew1) | exact HB.out)) hb); clear HO162; clear HB; have HO162 := n0_; have HO165 := n1_; have HB := n2_; clear n0_ n1_ n2_; clear hb ho7; obtain ⟨Ao8, co8, eo8⟩ := Kd.R_slice HO162.out; subst eo8))
   repeat (go_quiet (first | (go_at_call 46; (with_reducible refine (spec_l4Order.calls k _ _ l0 t159 t160 _ ?side1 ?side2 A2.out).mono ?_); (case side1 => repeat (first | exact HR0.out | (with_reducible refine Kd.C_alloc ?_ _) | (with_reducible refine Kd.C_drewN ?_ _) | (with_reducible refine Kd.C_drew ?_))); (case side2 => exact HC0.out); rintro e w5 ⟨v161, rfl, ho0, hb⟩; have n0_ := Aside0.mk (Kd.R_lower ho0 (below_size (by repeat (first | (with_reducible first | exact HB.out | apply below_alloc | apply pw_below_drewN | apply below_drew1) | exact HB.out)))); have n1_ := Aside0.mk (below_step (by repeat (first | (with_reducible first | exact HB.out | apply below_alloc | apply pw_below_drewN | apply below_drew1) | exact HB.out)) hb); clear HB; have HO162 := n0_; have HB := n1_; clear n0_ n1_; (try clear hb); (try clear hb2); (try clear hk); (try clear hi); (try clear ho0)) | ((with_reducible refine gate_dst (N := 21) rfl ?_); refine Kd.R_make (Kd.int .i64) _ 3 rfl (N := 21) rfl 29 _ _ rfl (l0.length : Int) rfl rfl Try.underlying29 (.int .i64 0) 8 info3 rfl (by decide) (by omega) 0 (ok := fun _ => True) (okp := fun _ => True) rfl (fun _ hk => hk) trivial (of_decide_eq_true (by first | (with_reducible assumption) | assumption)) (Nat.le_trans (Nat.mul_le_mul_right _ (of_decide_eq_true (by first | (with_reducible assumption) | assumption) : (l0.length : Int).toNat ≤ 35184372088832)) (by omega)) (Below.refl _ _) (Nat.le_refl _) ?_; intro v164 w6 ho7 hb hg_ hnew_; clear hg_ hnew_; (first | rw [← Ny163.out] at ho7 | (simp only [Int.reduceToNat] at ho7; rw [← Ny163.out] at ho7)); have n0_ := Aside0.mk (Kd.R_elder' (by (with_reducible repeat (first | apply Kd.R_alloc | apply Kd.R_drewN | apply Kd.R_drew)); exact HO162.out) (Kd.R_base ho7) hb); have n1_ := Aside0.mk (Kd.R_lower (Kd.R_new' ho7 (Kd.R_lt (by (with_reducible repeat (first | apply Kd.R_alloc | apply Kd.R_drewN | apply Kd.R_drew)); exact HO162.out))) (below_size (by repeat (first | (with_reducible first | exact HB.out | apply below_alloc | apply pw_below_drewN | apply below_drew1) | exact HB.out)))); have n2_ := Aside0.mk (below_step (by repeat (first | (with_reducible first | exact HB.out | apply below_alloc | apply pw_below_drewN | apply below_drew1) | exact HB.out)) hb); clear HO162; clear HB; have HO162 := n0_; have HO165 := n1_; have HB := n2_; clear n0_ n1_ n2_; clear hb ho7; obtain ⟨Ao8, co8, eo8⟩ := Kd.R_slice HO162.out; subst eo8)); try go_wp2_with (first | (go_at_call 46; (with_reducible refine (spec_l4Order.calls k _ _ l0 t159 t160 _ ?side1 ?side2 A2.out).mono ?_); (case side1 => repeat (first | exact HR0.out | (with_reducible refine Kd.C_alloc ?_ _) | (with_reducible refine Kd.C_drewN ?_ _) | (with_reducible refine Kd.C_drew ?_))); (case side2 => exact HC0.out); rintro e w5 ⟨v161, rfl, ho0, hb⟩; have n0_ := Aside0.mk (Kd.R_lower ho0 (below_size (by repeat (first | (with_reducible first | exact HB.out | apply below_alloc | apply pw_below_drewN | apply below_drew1) | exact HB.out)))); have n1_ := Aside0.mk (below_step (by repeat (first | (with_reducible first | exact HB.out | apply below_alloc | apply pw_below_drewN | apply below_drew1) | exact HB.out)) hb); clear HB; have HO162 := n0_; have HB := n1_; clear n0_ n1_; (try clear hb); (try clear hb2); (try clear hk); (try clear hi); (try clear ho0)) | ((with_reducible refine gate_dst (N := 21) rfl ?_); refine Kd.R_make (Kd.int .i64) _ 3 rfl (N := 21) rfl 29 _ _ rfl (l0.length : Int) rfl rfl Try.underlying29 (.int .i64 0) 8 info3 rfl (by decide) (by omega) 0 (ok := fun _ => True) (okp := fun _ => True) rfl (fun _ hk => hk) trivial (of_decide_eq_true (by first | (with_reducible assumption) | assumption)) (Nat.le_trans (Nat.mul_le_mul_right _ (of_decide_eq_true (by first | (with_reducible assumption) | assumption) : (l0.length : Int).toNat ≤ 35184372088832)) (by omega)) (Below.refl _ _) (Nat.le_refl _) ?_; intro v164 w6 ho7 hb hg_ hnew_; clear hg_ hnew_; (first | rw [← Ny163.out] at ho7 | (simp only [Int.reduceToNat] at ho7; rw [← Ny163.out] at ho7)); have n0_ := Aside0.mk (Kd.R_elder' (by (with_reducible repeat (first | apply Kd.R_alloc | apply Kd.R_drewN | apply Kd.R_drew)); exact HO162.out) (Kd.R_base ho7) hb); have n1_ := Aside0.mk (Kd.R_lower (Kd.R_new' ho7 (Kd.R_lt (by (with_reducible repeat (first | apply Kd.R_alloc | apply Kd.R_drewN | apply Kd.R_drew)); exact HO162.out))) (below_size (by repeat (first | (with_reducible first | exact HB.out | apply below_alloc | apply pw_below_drewN | apply below_drew1) | exact HB.out)))); have n2_ := Aside0.mk (below_step (by repeat (first | (with_reducible first | exact HB.out | apply below_alloc | apply pw_below_drewN | apply below_drew1) | exact HB.out)) hb); clear HO162; clear HB; have HO162 := n0_; have HO165 := n1_; have HB := n2_; clear n0_ n1_ n2_; clear hb ho7; obtain ⟨Ao8, co8, eo8⟩ := Kd.R_slice HO162.out; subst eo8)))
   go_loopg [7, 24] k (fun kq v7 v24 w' => ∃ (x6_1 : List Int) (x7_1 : Int) (x24_1 : Int), v7 = .int .i64 x7_1 ∧ v24 = .int .i64 x24_1 ∧ Aside0 (spec_l4Earliest.l0 kq l0 x6_1 x7_1 t159 (t159.length : Int) x24_1 = some (r1, r2)) ∧ Aside0 (kq ≤ k) ∧ Aside0 (Kd.R (Kd.int .i64) 3 w' w.heap.size (fun k_ => some k_ ≠ ((.slice Ao8 t159.length co8) : Value).ownBlock) v164 x6_1) ∧ Aside0 (Kd.R (Kd.int .i64) 3 w' w.heap.size (fun k_ => some k_ ≠ (v164 : Value).ownBlock) (.slice Ao8 t159.length co8) t159) ∧ Aside0 (Below w.heap.size w w'))
   case atStart => exact ⟨(y163), (0), (0), (by first | rfl | (simp; done) | (simp [*]; done)), (by first | rfl | (simp; done) | (simp [*]; done)), H', ⟨Nat.le_refl _⟩, ⟨by (with_reducible repeat (first | apply Kd.R_alloc | apply Kd.R_drewN | apply Kd.R_drew)); exact Kd.R_mono HO165.out (fun _ hk => hk.2)⟩, ⟨by (with_reducible repeat (first | apply Kd.R_alloc | apply Kd.R_drewN | apply Kd.R_drew)); exact Kd.R_mono HO162.out (fun _ hk => hk.2)⟩, ⟨by repeat (first | (with_reducible first | exact HB.out | apply below_alloc | apply pw_below_drewN | apply below_drew1) | exact HB.out)⟩⟩
   case round =>
    clear H'
    try clear p2
    try clear c3
    try clear c3b0
    try clear c3b1
    try clear c4
    try clear c4b0
    try clear c4b1
    try clear c5
    obtain ⟨x6_1, x7_1, x24_1, rfl, rfl, HA, HK1, HO_6, HO_22, HB⟩ := hrel
    cases gk with
    | zero => exact absurd HA.out (by simp [spec_l4Earliest.l0])
    | succ k1 =>
     have H := HA.out
     clear HA
     simp only [spec_l4Earliest.l0] at H
     by_cases c9 : x24_1 < (t159.length : Int)
     ·rw [if_pos c9] at H
      have c9b0 : decide (x24_1 < (t159.length : Int)) = true := decide_eq_true c9
      clear c9
      by_cases c10 : 0 ≤ x24_1
      ·rw [if_pos c10] at H
       have c10b0 : decide (0 ≤ x24_1) = true := decide_eq_true c10
       clear c10
       by_cases c11 : x24_1 < (t159.length : Int)
       ·rw [if_pos c11] at H
        have c11b0 : decide (x24_1 < (t159.length : Int)) = true := decide_eq_true c11
        clear c11
        by_cases c12 : 0 ≤ (rd t159 x24_1)
        ·rw [if_pos c12] at H
         have c12b0 : decide (0 ≤ (rd t159 x24_1)) = true := decide_eq_true c12
         clear c12
         by_cases c13 : (rd t159 x24_1) < (l0.length : Int)
         ·rw [if_pos c13] at H
          have c13b0 : decide ((rd t159 x24_1) < (l0.length : Int)) = true := decide_eq_true c13
          clear c13
          have H' := Aside0.mk H
          clear H
          have p166 : 0 ≤ (x24_1 : Int) := of_decide_eq_true (by first | (with_reducible assumption) | assumption)
          have q166 : x24_1 < (t159.length : Int) := of_decide_eq_true (by first | (with_reducible assumption) | assumption)
          obtain ⟨ad166, e166, hx166_0⟩ := Kd.at_int (Kd.R_reads' HO_22.out).2.2 x24_1 p166 q166
          cases e166
          replace p166 := eq_true p166
          replace q166 := eq_true q166
          have p167 : 0 ≤ ((rd t159 x24_1) : Int) := of_decide_eq_true (by first | (with_reducible assumption) | assumption)
          have q167 : (rd t159 x24_1) < (l0.length : Int) := of_decide_eq_true (by first | (with_reducible assumption) | assumption)
          obtain ⟨ad167, A167_1, c167_1, e167, hx167_0, hx167_1, hl167_1, hi167_1⟩ := at_T53 HR0.out (rd t159 x24_1) p167 q167
          cases e167
          try replace hx167_0 := (HB.out.cell (World.block_lt_of_cell? w _ hx167_0)).trans hx167_0
          try replace hx167_1 := (HB.out.cell (World.block_lt_of_cell? w _ hx167_1)).trans hx167_1
          have HR167_1 := Aside0.mk hi167_1
          have HC167_1 := Aside0.mk hl167_1
          clear hi167_1 hl167_1
          replace p167 := eq_true p167
          replace q167 := eq_true q167
          go_wp2
          repeat (go_quiet (fail); try go_wp2)
          go_loopg [34] k1 (fun kq v34 w' => ∃ (x6_2 : List Int) (x34_2 : Int), v34 = .int .i64 x34_2 ∧ Aside0 (spec_l4Earliest.l1 kq l0 x6_2 x7_1 (rd t159 x24_1) t159 (t159.length : Int) x24_1 ((rd_T53 l0 (rd t159 x24_1)).f1) (((rd_T53 l0 (rd t159 x24_1)).f1).length : Int) x34_2 = some (r1, r2)) ∧ Aside0 (kq ≤ k1) ∧ Aside0 (Kd.R (Kd.int .i64) 3 w' w.heap.size (fun k_ => some k_ ≠ ((.slice (some ad166) t159.length co8) : Value).ownBlock) v164 x6_2) ∧ Aside0 (Kd.R (Kd.int .i64) 3 w' w.heap.size (fun k_ => some k_ ≠ (v164 : Value).ownBlock) (.slice (some ad166) t159.length co8) t159) ∧ Aside0 (Below w.heap.size w w'))
          case atStart => exact ⟨(x6_1), (0), (by first | rfl | (simp; done) | (simp [*]; done)), H', ⟨Nat.le_refl _⟩, ⟨by (with_reducible repeat (first | apply Kd.R_alloc | apply Kd.R_drewN | apply Kd.R_drew)); exact HO_6.out⟩, ⟨by (with_reducible repeat (first | apply Kd.R_alloc | apply Kd.R_drewN | apply Kd.R_drew)); exact HO_22.out⟩, ⟨by repeat (first | (with_reducible first | exact HB.out | apply below_alloc | apply pw_below_drewN | apply below_drew1) | exact HB.out)⟩⟩
          case round =>
           clear H'
           try clear c1
           try clear p1
           try clear q1
           try clear hx1
           try clear p2
           try clear c3
           try clear c3b0
           try clear c3b1
           try clear c4
           try clear c4b0
           try clear c4b1
           try clear c5
           try clear c9
           try clear c9b0
           try clear c10
           try clear c10b0
           try clear c11
           try clear c11b0
           try clear c12
           try clear c12b0
           try clear c13
           try clear c13b0
           try clear hx166_0
           try clear hx167_0
           try clear hx167_1
           try clear p166
           try clear p167
           try clear p2
           try clear q166
           try clear q167
           obtain ⟨x6_2, x34_2, rfl, HA, HK2, HO_6, HO_22, HB⟩ := hrel
           cases gk with
           | zero => exact absurd HA.out (by simp [spec_l4Earliest.l1])
           | succ k2 =>
            have H := HA.out
            clear HA
            simp only [spec_l4Earliest.l1] at H
            by_cases c14 : x34_2 < (((rd_T53 l0 (rd t159 x24_1)).f1).length : Int)
            ·rw [if_pos c14] at H
             have c14b0 : decide (x34_2 < (((rd_T53 l0 (rd t159 x24_1)).f1).length : Int)) = true := decide_eq_true c14
             clear c14
             by_cases c15 : 0 ≤ x34_2
             ·rw [if_pos c15] at H
              have c15b0 : decide (0 ≤ x34_2) = true := decide_eq_true c15
              clear c15
              by_cases c16 : x34_2 < (((rd_T53 l0 (rd t159 x24_1)).f1).length : Int)
              ·rw [if_pos c16] at H
               have c16b0 : decide (x34_2 < (((rd_T53 l0 (rd t159 x24_1)).f1).length : Int)) = true := decide_eq_true c16
               clear c16
               by_cases c17 : 0 ≤ (rd ((rd_T53 l0 (rd t159 x24_1)).f1) x34_2)
               ·rw [if_pos c17] at H
                have c17b0 : decide (0 ≤ (rd ((rd_T53 l0 (rd t159 x24_1)).f1) x34_2)) = true := decide_eq_true c17
                clear c17
                by_cases c18 : (rd ((rd_T53 l0 (rd t159 x24_1)).f1) x34_2) < (x6_2.length : Int)
                ·rw [if_pos c18] at H
                 have c18b0 : decide ((rd ((rd_T53 l0 (rd t159 x24_1)).f1) x34_2) < (x6_2.length : Int)) = true := decide_eq_true c18
                 clear c18
                 by_cases c19 : (rd ((rd_T53 l0 (rd t159 x24_1)).f1) x34_2) < (l0.length : Int)
                 ·rw [if_pos c19] at H
                  have c19b0 : decide ((rd ((rd_T53 l0 (rd t159 x24_1)).f1) x34_2) < (l0.length : Int)) = true := decide_eq_true c19
                  clear c19
                  by_cases c20 : 0 ≤ (rd t159 x24_1)
                  ·rw [if_pos c20] at H
                   have c20b0 : decide (0 ≤ (rd t159 x24_1)) = true := decide_eq_true c20
                   clear c20
                   by_cases c21 : (rd t159 x24_1) < (x6_2.length : Int)
                   ·rw [if_pos c21] at H
                    have c21b0 : decide ((rd t159 x24_1) < (x6_2.length : Int)) = true := decide_eq_true c21
                    clear c21
                    by_cases c22 : (wrap64 ((rd x6_2 (rd ((rd_T53 l0 (rd t159 x24_1)).f1) x34_2)) + ((rd_T53 l0 (rd ((rd_T53 l0 (rd t159 x24_1)).f1) x34_2)).f0))) > (rd x6_2 (rd t159 x24_1))
                    ·rw [if_pos c22] at H
                     have c22b0 : decide ((rd x6_2 (rd t159 x24_1)) < (wrap64 ((rd x6_2 (rd ((rd_T53 l0 (rd t159 x24_1)).f1) x34_2)) + ((rd_T53 l0 (rd ((rd_T53 l0 (rd t159 x24_1)).f1) x34_2)).f0)))) = true := decide_eq_true c22
                     clear c22
                     obtain ⟨y172, hy172⟩ : ∃ y_ : List Int, y_ = (x6_2.set ((rd t159 x24_1) : Int).toNat (wrap64 ((rd x6_2 (rd ((rd_T53 l0 (rd t159 x24_1)).f1) x34_2)) + ((rd_T53 l0 (rd ((rd_T53 l0 (rd t159 x24_1)).f1) x34_2)).f0)))) := ⟨_, rfl⟩
                     replace H : (spec_l4Earliest.l1 k2 l0 y172 x7_1 (rd t159 x24_1) t159 (t159.length : Int) x24_1 ((rd_T53 l0 (rd t159 x24_1)).f1) (((rd_T53 l0 (rd t159 x24_1)).f1).length : Int) (wrap64 (x34_2 + 1))) = some (r1, r2) := by first | (rw [hy172]; with_reducible exact H) | (have H2_ := (Option.bind_some _ _).symm.trans H; rw [hy172]; with_reducible exact H2_) | (have H2_ := (Option.bind_some _ _).symm.trans H; with_reducible exact H2_) | with_reducible exact H | (rw [hy172]; exact H) | exact H
                     have Ny172 := Aside0.mk hy172
                     clear hy172
                     have H' := Aside0.mk H
                     clear H
                     have p168 : 0 ≤ (x34_2 : Int) := of_decide_eq_true (by first | (with_reducible assumption) | assumption)
                     have q168 : x34_2 < (((rd_T53 l0 (rd t159 x24_1)).f1).length : Int) := of_decide_eq_true (by first | (with_reducible assumption) | assumption)
                     obtain ⟨ad168, e168, hx168_0⟩ := Kd.at_int HR167_1.out x34_2 p168 q168
                     cases e168
                     try replace hx168_0 := (HB.out.cell (World.block_lt_of_cell? w _ hx168_0)).trans hx168_0
                     replace p168 := eq_true p168
                     replace q168 := eq_true q168
                     obtain ⟨Ao24, co24, eo24⟩ := Kd.R_slice HO_6.out
                     subst eo24
                     have p169 : 0 ≤ ((rd ((rd_T53 l0 (rd t159 x24_1)).f1) x34_2) : Int) := of_decide_eq_true (by first | (with_reducible assumption) | assumption)
                     have q169 : (rd ((rd_T53 l0 (rd t159 x24_1)).f1) x34_2) < (x6_2.length : Int) := of_decide_eq_true (by first | (with_reducible assumption) | assumption)
                     obtain ⟨ad169, e169, hx169_0⟩ := Kd.at_int (Kd.R_reads' HO_6.out).2.2 (rd ((rd_T53 l0 (rd t159 x24_1)).f1) x34_2) p169 q169
                     cases e169
                     replace p169 := eq_true p169
                     replace q169 := eq_true q169
                     have p170 : 0 ≤ ((rd ((rd_T53 l0 (rd t159 x24_1)).f1) x34_2) : Int) := of_decide_eq_true (by first | (with_reducible assumption) | assumption)
                     have q170 : (rd ((rd_T53 l0 (rd t159 x24_1)).f1) x34_2) < (l0.length : Int) := of_decide_eq_true (by first | (with_reducible assumption) | assumption)
                     obtain ⟨ad170, A170_1, c170_1, e170, hx170_0, hx170_1, hl170_1, hi170_1⟩ := at_T53 HR0.out (rd ((rd_T53 l0 (rd t159 x24_1)).f1) x34_2) p170 q170
                     obtain rfl : ad167 = ad170 := (by injection e170)
                     try replace hx170_0 := (HB.out.cell (World.block_lt_of_cell? w _ hx170_0)).trans hx170_0
                     try replace hx170_1 := (HB.out.cell (World.block_lt_of_cell? w _ hx170_1)).trans hx170_1
                     have HR170_1 := Aside0.mk hi170_1
                     have HC170_1 := Aside0.mk hl170_1
                     clear hi170_1 hl170_1
                     replace p170 := eq_true p170
                     replace q170 := eq_true q170
                     have p171 : 0 ≤ ((rd t159 x24_1) : Int) := of_decide_eq_true (by first | (with_reducible assumption) | assumption)
                     have q171 : (rd t159 x24_1) < (x6_2.length : Int) := of_decide_eq_true (by first | (with_reducible assumption) | assumption)
                     obtain ⟨ad171, e171, hx171_0⟩ := Kd.at_int (Kd.R_reads' HO_6.out).2.2 (rd t159 x24_1) p171 q171
                     obtain rfl : ad169 = ad171 := (by injection e171)
                     replace p171 := eq_true p171
                     replace q171 := eq_true q171
                     have p23 : 0 ≤ ((rd t159 x24_1) : Int) := of_decide_eq_true (by first | (with_reducible assumption) | assumption)
                     have q23 : ((rd t159 x24_1) : Int) < ((x6_2.length : Int) : Int) := of_decide_eq_true (by first | (with_reducible assumption) | assumption)
                     obtain ⟨go23, co23, eo23, gb23, gl23, cl23, HG23⟩ := Kd.R_form HO_6.out (by omega)
                     (first | cases eo23 | (injection eo23 with ea_ en_ ec_; (first | subst ea_ | (injection ea_ with ea_; subst ea_)); subst ec_; clear en_))
                     have GB23 := Aside0.mk gb23
                     have GG23 := Aside0.mk HG23
                     clear gb23 gl23 HG23
                     (first | simp only [add_plain] at hx169_0 | skip)
                     (first | simp only [add_plain] at hx171_0 | skip)
                     obtain ⟨hx23_0, hf23_0⟩ := Kd.R_celln 0 HO_6.out ((rd t159 x24_1) : Int) p23 q23
                     replace p23 := eq_true p23
                     replace q23 := eq_true q23
                     have HP25 := Kd.R_putg HO_6.out ((rd t159 x24_1) : Int) (wrap64 ((rd x6_2 (rd ((rd_T53 l0 (rd t159 x24_1)).f1) x34_2)) + ((rd_T53 l0 (rd ((rd_T53 l0 (rd t159 x24_1)).f1) x34_2)).f0)))
                     go_wp2_with (first | ((with_reducible refine gate_store (t := 3) (p := 57) rfl ?_); (try (rw [drewN_self wr]; generalize hq_ : World.drewN wr _ = wr; have n0_ := Aside0.mk (Kd.R_at hq_ HO_6.out); have n1_ := Aside0.mk (Kd.R_at hq_ HO_22.out); have n2_ := Aside0.mk (below_at hq_ HB.out); clear hq_ HO_6 HO_22 HB; have HO_6 := n0_; have HO_22 := n1_; have HB := n2_; clear n0_ n1_ n2_; (try (have HP25 := Kd.R_putg HO_6.out ((rd t159 x24_1) : Int) (wrap64 ((rd x6_2 (rd ((rd_T53 l0 (rd t159 x24_1)).f1) x34_2)) + ((rd_T53 l0 (rd ((rd_T53 l0 (rd t159 x24_1)).f1) x34_2)).f0))))))); refine store_event (t := 3) (p := 57) (v := ?vo_w26) (w1 := (wr.setCell ⟨go23, ((rd t159 x24_1) : Int).toNat, none⟩ (.int .i64 (wrap64 ((rd x6_2 (rd ((rd_T53 l0 (rd t159 x24_1)).f1) x34_2)) + ((rd_T53 l0 (rd ((rd_T53 l0 (rd t159 x24_1)).f1) x34_2)).f0)))))) ?hg ?ho ?hn ?hr ?_; (case ho => rfl); (case hg => rfl); (case hn => rfl); (case hr => first | (go_simp; done) | (go_simp; rfl)); intro w26 hw; have hg : wr.grownBy w26 (some go23) := (by rw [hw]; exact HP25.2); have hp_ : Kd.R (Kd.int .i64) 3 w26 w.heap.size (fun k_ => some k_ ≠ (.slice (some ad166) t159.length co8 : Value).ownBlock) (.slice (some ⟨go23, 0, none⟩) x6_2.length co24) y172 := (by rw [hw, Ny172.out]; exact HP25.1); clear HP25; have n0_ := Aside0.mk (hp_); have n1_ := Aside0.mk (Kd.R_after (v := (.slice (some ⟨go23, 0, none⟩) x6_2.length co24)) (v1 := (.slice (some ⟨go23, 0, none⟩) x6_2.length co24)) (ok := (fun _ => True)) (by (with_reducible repeat (first | apply Kd.R_alloc | apply Kd.R_drewN | apply Kd.R_drew)); exact Kd.R_mono HO_22.out (fun _ hk => ⟨trivial, hk⟩)) hg (.inl rfl)); have n2_ := Aside0.mk ((by rw [hw]; exact below_set (HB.out) GB23.out : Below w.heap.size w w26)); clear HO_6; clear HO_22; clear HB; have HO_6 := n0_; have HO_22 := n1_; have HB := n2_; clear n0_ n1_ n2_; clear hg hw hp_))
                     repeat (go_quiet (first | ((with_reducible refine gate_store (t := 3) (p := 57) rfl ?_); (try (rw [drewN_self wr]; generalize hq_ : World.drewN wr _ = wr; have n0_ := Aside0.mk (Kd.R_at hq_ HO_6.out); have n1_ := Aside0.mk (Kd.R_at hq_ HO_22.out); have n2_ := Aside0.mk (below_at hq_ HB.out); clear hq_ HO_6 HO_22 HB; have HO_6 := n0_; have HO_22 := n1_; have HB := n2_; clear n0_ n1_ n2_; (try (have HP25 := Kd.R_putg HO_6.out ((rd t159 x24_1) : Int) (wrap64 ((rd x6_2 (rd ((rd_T53 l0 (rd t159 x24_1)).f1) x34_2)) + ((rd_T53 l0 (rd ((rd_T53 l0 (rd t159 x24_1)).f1) x34_2)).f0))))))); refine store_event (t := 3) (p := 57) (v := ?vo_w26) (w1 := (wr.setCell ⟨go23, ((rd t159 x24_1) : Int).toNat, none⟩ (.int .i64 (wrap64 ((rd x6_2 (rd ((rd_T53 l0 (rd t159 x24_1)).f1) x34_2)) + ((rd_T53 l0 (rd ((rd_T53 l0 (rd t159 x24_1)).f1) x34_2)).f0)))))) ?hg ?ho ?hn ?hr ?_; (case ho => rfl); (case hg => rfl); (case hn => rfl); (case hr => first | (go_simp; done) | (go_simp; rfl)); intro w26 hw; have hg : wr.grownBy w26 (some go23) := (by rw [hw]; exact HP25.2); have hp_ : Kd.R (Kd.int .i64) 3 w26 w.heap.size (fun k_ => some k_ ≠ (.slice (some ad166) t159.length co8 : Value).ownBlock) (.slice (some ⟨go23, 0, none⟩) x6_2.length co24) y172 := (by rw [hw, Ny172.out]; exact HP25.1); clear HP25; have n0_ := Aside0.mk (hp_); have n1_ := Aside0.mk (Kd.R_after (v := (.slice (some ⟨go23, 0, none⟩) x6_2.length co24)) (v1 := (.slice (some ⟨go23, 0, none⟩) x6_2.length co24)) (ok := (fun _ => True)) (by (with_reducible repeat (first | apply Kd.R_alloc | apply Kd.R_drewN | apply Kd.R_drew)); exact Kd.R_mono HO_22.out (fun _ hk => ⟨trivial, hk⟩)) hg (.inl rfl)); have n2_ := Aside0.mk ((by rw [hw]; exact below_set (HB.out) GB23.out : Below w.heap.size w w26)); clear HO_6; clear HO_22; clear HB; have HO_6 := n0_; have HO_22 := n1_; have HB := n2_; clear n0_ n1_ n2_; clear hg hw hp_)); try go_wp2_with (first | ((with_reducible refine gate_store (t := 3) (p := 57) rfl ?_); (try (rw [drewN_self wr]; generalize hq_ : World.drewN wr _ = wr; have n0_ := Aside0.mk (Kd.R_at hq_ HO_6.out); have n1_ := Aside0.mk (Kd.R_at hq_ HO_22.out); have n2_ := Aside0.mk (below_at hq_ HB.out); clear hq_ HO_6 HO_22 HB; have HO_6 := n0_; have HO_22 := n1_; have HB := n2_; clear n0_ n1_ n2_; (try (have HP25 := Kd.R_putg HO_6.out ((rd t159 x24_1) : Int) (wrap64 ((rd x6_2 (rd ((rd_T53 l0 (rd t159 x24_1)).f1) x34_2)) + ((rd_T53 l0 (rd ((rd_T53 l0 (rd t159 x24_1)).f1) x34_2)).f0))))))); refine store_event (t := 3) (p := 57) (v := ?vo_w26) (w1 := (wr.setCell ⟨go23, ((rd t159 x24_1) : Int).toNat, none⟩ (.int .i64 (wrap64 ((rd x6_2 (rd ((rd_T53 l0 (rd t159 x24_1)).f1) x34_2)) + ((rd_T53 l0 (rd ((rd_T53 l0 (rd t159 x24_1)).f1) x34_2)).f0)))))) ?hg ?ho ?hn ?hr ?_; (case ho => rfl); (case hg => rfl); (case hn => rfl); (case hr => first | (go_simp; done) | (go_simp; rfl)); intro w26 hw; have hg : wr.grownBy w26 (some go23) := (by rw [hw]; exact HP25.2); have hp_ : Kd.R (Kd.int .i64) 3 w26 w.heap.size (fun k_ => some k_ ≠ (.slice (some ad166) t159.length co8 : Value).ownBlock) (.slice (some ⟨go23, 0, none⟩) x6_2.length co24) y172 := (by rw [hw, Ny172.out]; exact HP25.1); clear HP25; have n0_ := Aside0.mk (hp_); have n1_ := Aside0.mk (Kd.R_after (v := (.slice (some ⟨go23, 0, none⟩) x6_2.length co24)) (v1 := (.slice (some ⟨go23, 0, none⟩) x6_2.length co24)) (ok := (fun _ => True)) (by (with_reducible repeat (first | apply Kd.R_alloc | apply Kd.R_drewN | apply Kd.R_drew)); exact Kd.R_mono HO_22.out (fun _ hk => ⟨trivial, hk⟩)) hg (.inl rfl)); have n2_ := Aside0.mk ((by rw [hw]; exact below_set (HB.out) GB23.out : Below w.heap.size w w26)); clear HO_6; clear HO_22; clear HB; have HO_6 := n0_; have HO_22 := n1_; have HB := n2_; clear n0_ n1_ n2_; clear hg hw hp_)))
                     have n0_ : Aside0 (Kd.R (Kd.int .i64) 3 ((wr.setCell ⟨go23, ((rd t159 x24_1) : Int).toNat, none⟩ (.int .i64 (wrap64 ((rd x6_2 (rd ((rd_T53 l0 (rd t159 x24_1)).f1) x34_2)) + ((rd_T53 l0 (rd ((rd_T53 l0 (rd t159 x24_1)).f1) x34_2)).f0))))).drewN nq) w.heap.size (fun k_ => some k_ ≠ (.slice (some ad166) t159.length co8 : Value).ownBlock) (.slice (some ⟨go23, 0, none⟩) x6_2.length co24) y172) := ⟨by rw [Ny172.out]; exact Kd.R_drewN HP25.1 nq⟩
                     have n1_ := Aside0.mk (Kd.R_drewN (Kd.R_after (v := (.slice (some ⟨go23, 0, none⟩) x6_2.length co24)) (v1 := (.slice (some ⟨go23, 0, none⟩) x6_2.length co24)) (ok := (fun _ => True)) (Kd.R_mono HO_22.out (fun _ hk => ⟨trivial, hk⟩)) HP25.2 (.inl rfl)) nq)
                     have n2_ := Aside0.mk (pw_below_drewN (show Below w.heap.size w (wr.setCell ⟨go23, ((rd t159 x24_1) : Int).toNat, none⟩ (.int .i64 (wrap64 ((rd x6_2 (rd ((rd_T53 l0 (rd t159 x24_1)).f1) x34_2)) + ((rd_T53 l0 (rd ((rd_T53 l0 (rd t159 x24_1)).f1) x34_2)).f0))))) from below_set HB.out GB23.out) nq)
                     clear HO_6 HO_22 HB HP25
                     have HO_6 := n0_
                     have HO_22 := n1_
                     have HB := n2_
                     clear n0_ n1_ n2_
                     go_roundg k2
                     case measure => have := HK1.out; have := HK2.out; omega
                     case rel => exact ⟨(y172), (wrap64 (x34_2 + 1)), (by first | rfl | (simp; done) | (simp [*]; done)), H', ⟨by have := HK1.out; have := HK2.out; omega⟩, ⟨by (with_reducible repeat (first | apply Kd.R_alloc | apply Kd.R_drewN | apply Kd.R_drew)); exact HO_6.out⟩, ⟨by (with_reducible repeat (first | apply Kd.R_alloc | apply Kd.R_drewN | apply Kd.R_drew)); exact Kd.R_mono HO_22.out (fun _ hk => hk.2)⟩, ⟨by repeat (first | (with_reducible first | exact HB.out | apply below_alloc | apply pw_below_drewN | apply below_drew1) | exact HB.out)⟩⟩
                    ·rw [if_neg c22] at H
                     have c22b0 : decide ((rd x6_2 (rd t159 x24_1)) < (wrap64 ((rd x6_2 (rd ((rd_T53 l0 (rd t159 x24_1)).f1) x34_2)) + ((rd_T53 l0 (rd ((rd_T53 l0 (rd t159 x24_1)).f1) x34_2)).f0)))) = false := decide_eq_false c22
                     clear c22
                     have H' := Aside0.mk H
                     clear H
                     have p168 : 0 ≤ (x34_2 : Int) := of_decide_eq_true (by first | (with_reducible assumption) | assumption)
                     have q168 : x34_2 < (((rd_T53 l0 (rd t159 x24_1)).f1).length : Int) := of_decide_eq_true (by first | (with_reducible assumption) | assumption)
                     obtain ⟨ad168, e168, hx168_0⟩ := Kd.at_int HR167_1.out x34_2 p168 q168
                     cases e168
                     try replace hx168_0 := (HB.out.cell (World.block_lt_of_cell? w _ hx168_0)).trans hx168_0
                     replace p168 := eq_true p168
                     replace q168 := eq_true q168
                     obtain ⟨Ao27, co27, eo27⟩ := Kd.R_slice HO_6.out
                     subst eo27
                     have p169 : 0 ≤ ((rd ((rd_T53 l0 (rd t159 x24_1)).f1) x34_2) : Int) := of_decide_eq_true (by first | (with_reducible assumption) | assumption)
                     have q169 : (rd ((rd_T53 l0 (rd t159 x24_1)).f1) x34_2) < (x6_2.length : Int) := of_decide_eq_true (by first | (with_reducible assumption) | assumption)
                     obtain ⟨ad169, e169, hx169_0⟩ := Kd.at_int (Kd.R_reads' HO_6.out).2.2 (rd ((rd_T53 l0 (rd t159 x24_1)).f1) x34_2) p169 q169
                     cases e169
                     replace p169 := eq_true p169
                     replace q169 := eq_true q169
                     have p170 : 0 ≤ ((rd ((rd_T53 l0 (rd t159 x24_1)).f1) x34_2) : Int) := of_decide_eq_true (by first | (with_reducible assumption) | assumption)
                     have q170 : (rd ((rd_T53 l0 (rd t159 x24_1)).f1) x34_2) < (l0.length : Int) := of_decide_eq_true (by first | (with_reducible assumption) | assumption)
                     obtain ⟨ad170, A170_1, c170_1, e170, hx170_0, hx170_1, hl170_1, hi170_1⟩ := at_T53 HR0.out (rd ((rd_T53 l0 (rd t159 x24_1)).f1) x34_2) p170 q170
                     obtain rfl : ad167 = ad170 := (by injection e170)
                     try replace hx170_0 := (HB.out.cell (World.block_lt_of_cell? w _ hx170_0)).trans hx170_0
                     try replace hx170_1 := (HB.out.cell (World.block_lt_of_cell? w _ hx170_1)).trans hx170_1
                     have HR170_1 := Aside0.mk hi170_1
                     have HC170_1 := Aside0.mk hl170_1
                     clear hi170_1 hl170_1
                     replace p170 := eq_true p170
                     replace q170 := eq_true q170
                     have p171 : 0 ≤ ((rd t159 x24_1) : Int) := of_decide_eq_true (by first | (with_reducible assumption) | assumption)
                     have q171 : (rd t159 x24_1) < (x6_2.length : Int) := of_decide_eq_true (by first | (with_reducible assumption) | assumption)
                     obtain ⟨ad171, e171, hx171_0⟩ := Kd.at_int (Kd.R_reads' HO_6.out).2.2 (rd t159 x24_1) p171 q171
                     obtain rfl : ad169 = ad171 := (by injection e171)
                     replace p171 := eq_true p171
                     replace q171 := eq_true q171
                     go_wp2
                     repeat (go_quiet (fail); try go_wp2)
                     go_roundg k2
                     case measure => have := HK1.out; have := HK2.out; omega
                     case rel => exact ⟨(x6_2), (wrap64 (x34_2 + 1)), (by first | rfl | (simp; done) | (simp [*]; done)), H', ⟨by have := HK1.out; have := HK2.out; omega⟩, ⟨by (with_reducible repeat (first | apply Kd.R_alloc | apply Kd.R_drewN | apply Kd.R_drew)); exact HO_6.out⟩, ⟨by (with_reducible repeat (first | apply Kd.R_alloc | apply Kd.R_drewN | apply Kd.R_drew)); exact HO_22.out⟩, ⟨by repeat (first | (with_reducible first | exact HB.out | apply below_alloc | apply pw_below_drewN | apply below_drew1) | exact HB.out)⟩⟩
                   ·rw [if_neg c21] at H
                    exact absurd H (by simp)
                  ·rw [if_neg c20] at H
                   exact absurd H (by simp)
                 ·rw [if_neg c19] at H
                  exact absurd H (by simp)
                ·rw [if_neg c18] at H
                 exact absurd H (by simp)
               ·rw [if_neg c17] at H
                exact absurd H (by simp)
              ·rw [if_neg c16] at H
               exact absurd H (by simp)
             ·rw [if_neg c15] at H
              exact absurd H (by simp)
            ·rw [if_neg c14] at H
             have c14b0 : decide (x34_2 < (((rd_T53 l0 (rd t159 x24_1)).f1).length : Int)) = false := decide_eq_false c14
             clear c14
             by_cases c28 : 0 ≤ (rd t159 x24_1)
             ·rw [if_pos c28] at H
              have c28b0 : decide (0 ≤ (rd t159 x24_1)) = true := decide_eq_true c28
              clear c28
              by_cases c29 : (rd t159 x24_1) < (x6_2.length : Int)
              ·rw [if_pos c29] at H
               have c29b0 : decide ((rd t159 x24_1) < (x6_2.length : Int)) = true := decide_eq_true c29
               clear c29
               by_cases c30 : (rd t159 x24_1) < (l0.length : Int)
               ·rw [if_pos c30] at H
                have c30b0 : decide ((rd t159 x24_1) < (l0.length : Int)) = true := decide_eq_true c30
                clear c30
                by_cases c31 : (wrap64 ((rd x6_2 (rd t159 x24_1)) + ((rd_T53 l0 (rd t159 x24_1)).f0))) > x7_1
                ·rw [if_pos c31] at H
                 have c31b0 : decide (x7_1 < (wrap64 ((rd x6_2 (rd t159 x24_1)) + ((rd_T53 l0 (rd t159 x24_1)).f0)))) = true := decide_eq_true c31
                 clear c31
                 have H' := Aside0.mk H
                 clear H
                 obtain ⟨Ao32, co32, eo32⟩ := Kd.R_slice HO_6.out
                 subst eo32
                 have p173 : 0 ≤ ((rd t159 x24_1) : Int) := of_decide_eq_true (by first | (with_reducible assumption) | assumption)
                 have q173 : (rd t159 x24_1) < (x6_2.length : Int) := of_decide_eq_true (by first | (with_reducible assumption) | assumption)
                 obtain ⟨ad173, e173, hx173_0⟩ := Kd.at_int (Kd.R_reads' HO_6.out).2.2 (rd t159 x24_1) p173 q173
                 cases e173
                 replace p173 := eq_true p173
                 replace q173 := eq_true q173
                 have p174 : 0 ≤ ((rd t159 x24_1) : Int) := of_decide_eq_true (by first | (with_reducible assumption) | assumption)
                 have q174 : (rd t159 x24_1) < (l0.length : Int) := of_decide_eq_true (by first | (with_reducible assumption) | assumption)
                 obtain ⟨ad174, A174_1, c174_1, e174, hx174_0, hx174_1, hl174_1, hi174_1⟩ := at_T53 HR0.out (rd t159 x24_1) p174 q174
                 obtain rfl : ad167 = ad174 := (by injection e174)
                 try replace hx174_0 := (HB.out.cell (World.block_lt_of_cell? w _ hx174_0)).trans hx174_0
                 try replace hx174_1 := (HB.out.cell (World.block_lt_of_cell? w _ hx174_1)).trans hx174_1
                 have HR174_1 := Aside0.mk hi174_1
                 have HC174_1 := Aside0.mk hl174_1
                 clear hi174_1 hl174_1
                 replace p174 := eq_true p174
                 replace q174 := eq_true q174
                 go_wp2
                 repeat (go_quiet (fail); try go_wp2)
                 go_roundg k2
                 case measure => have := HK1.out; have := HK2.out; omega
                 case rel => exact ⟨(x6_2), (wrap64 ((rd x6_2 (rd t159 x24_1)) + ((rd_T53 l0 (rd t159 x24_1)).f0))), (wrap64 (x24_1 + 1)), (by first | rfl | (simp; done) | (simp [*]; done)), (by first | rfl | (simp; done) | (simp [*]; done)), H', ⟨by have := HK1.out; have := HK2.out; omega⟩, ⟨by (with_reducible repeat (first | apply Kd.R_alloc | apply Kd.R_drewN | apply Kd.R_drew)); exact HO_6.out⟩, ⟨by (with_reducible repeat (first | apply Kd.R_alloc | apply Kd.R_drewN | apply Kd.R_drew)); exact HO_22.out⟩, ⟨by repeat (first | (with_reducible first | exact HB.out | apply below_alloc | apply pw_below_drewN | apply below_drew1) | exact HB.out)⟩⟩
                ·rw [if_neg c31] at H
                 have c31b0 : decide (x7_1 < (wrap64 ((rd x6_2 (rd t159 x24_1)) + ((rd_T53 l0 (rd t159 x24_1)).f0)))) = false := decide_eq_false c31
                 clear c31
                 have H' := Aside0.mk H
                 clear H
                 obtain ⟨Ao33, co33, eo33⟩ := Kd.R_slice HO_6.out
                 subst eo33
                 have p173 : 0 ≤ ((rd t159 x24_1) : Int) := of_decide_eq_true (by first | (with_reducible assumption) | assumption)
                 have q173 : (rd t159 x24_1) < (x6_2.length : Int) := of_decide_eq_true (by first | (with_reducible assumption) | assumption)
                 obtain ⟨ad173, e173, hx173_0⟩ := Kd.at_int (Kd.R_reads' HO_6.out).2.2 (rd t159 x24_1) p173 q173
                 cases e173
                 replace p173 := eq_true p173
                 replace q173 := eq_true q173
                 have p174 : 0 ≤ ((rd t159 x24_1) : Int) := of_decide_eq_true (by first | (with_reducible assumption) | assumption)
                 have q174 : (rd t159 x24_1) < (l0.length : Int) := of_decide_eq_true (by first | (with_reducible assumption) | assumption)
                 obtain ⟨ad174, A174_1, c174_1, e174, hx174_0, hx174_1, hl174_1, hi174_1⟩ := at_T53 HR0.out (rd t159 x24_1) p174 q174
                 obtain rfl : ad167 = ad174 := (by injection e174)
                 try replace hx174_0 := (HB.out.cell (World.block_lt_of_cell? w _ hx174_0)).trans hx174_0
                 try replace hx174_1 := (HB.out.cell (World.block_lt_of_cell? w _ hx174_1)).trans hx174_1
                 have HR174_1 := Aside0.mk hi174_1
                 have HC174_1 := Aside0.mk hl174_1
                 clear hi174_1 hl174_1
                 replace p174 := eq_true p174
                 replace q174 := eq_true q174
                 go_wp2
                 repeat (go_quiet (fail); try go_wp2)
                 go_roundg k2
                 case measure => have := HK1.out; have := HK2.out; omega
                 case rel => exact ⟨(x6_2), (x7_1), (wrap64 (x24_1 + 1)), (by first | rfl | (simp; done) | (simp [*]; done)), (by first | rfl | (simp; done) | (simp [*]; done)), H', ⟨by have := HK1.out; have := HK2.out; omega⟩, ⟨by (with_reducible repeat (first | apply Kd.R_alloc | apply Kd.R_drewN | apply Kd.R_drew)); exact HO_6.out⟩, ⟨by (with_reducible repeat (first | apply Kd.R_alloc | apply Kd.R_drewN | apply Kd.R_drew)); exact HO_22.out⟩, ⟨by repeat (first | (with_reducible first | exact HB.out | apply below_alloc | apply pw_below_drewN | apply below_drew1) | exact HB.out)⟩⟩
               ·rw [if_neg c30] at H
                exact absurd H (by simp)
              ·rw [if_neg c29] at H
               exact absurd H (by simp)
             ·rw [if_neg c28] at H
              exact absurd H (by simp)
         ·rw [if_neg c13] at H
          exact absurd H (by simp)
        ·rw [if_neg c12] at H
         exact absurd H (by simp)
       ·rw [if_neg c11] at H
        exact absurd H (by simp)
      ·rw [if_neg c10] at H
       exact absurd H (by simp)
     ·rw [if_neg c9] at H
      have c9b0 : decide (x24_1 < (t159.length : Int)) = false := decide_eq_false c9
      clear c9
      simp only [Option.some.injEq, Prod.mk.injEq] at H
      obtain ⟨rfl, rfl⟩ := H
      go_wp2
      repeat (go_quiet (fail); try go_wp2)
      go_ret2
      exact ⟨_, by first | rfl | (simp [errW_none, errW_some] <;> rfl) | (simp [*, errW_none, errW_some] <;> rfl), by (with_reducible repeat (first | apply Kd.R_alloc | apply Kd.R_drewN | apply Kd.R_drew)); exact Kd.R_mono HO_6.out (fun _ hk => trivial), by repeat (first | (with_reducible first | exact HB.out | apply below_alloc | apply pw_below_drewN | apply below_drew1) | exact HB.out)⟩
  ·rw [if_neg c4] at H
   exact absurd H (by simp)
 ·rw [if_neg c3] at H
  exact absurd H (by simp)

end Go.Proofs.Ytpgegjbnnbkhiaa.PFnExactCriticalOf
