-- written by xprint.py (a program of this session's, over the kit's print): printed functions, and some by hand
import Derived.Test.YtpgegjbnnbkhiaaPFnExactCriticalOfx0
import Derived.Test.YtpgegjbnnbkhiaaPFnExactCriticalOfx7
namespace Go.Proofs.Ytpgegjbnnbkhiaa.PFnExactCriticalOf
open Go.RowKit Go.Proofs.YtpgegjbnnbkhiaaW.PrintWords Go.Proofs.YtpgegjbnnbkhiaaW.PrintLast Go.Proofs.YtpgegjbnnbkhiaaW.PrintMore
attribute [local go_sem] max2_int min2_int max_two min_two max_three min_three max_four min_four   -- for this text's walks alone
set_option linter.unusedVariables false
set_option linter.unusedSimpArgs false

/-! ### impl_earliest: function 54, by hand -/
mutual
def impl_earliest.l0 : Nat → List (S53) → List Int → Int → List Int → Int → Int → Option (List Int × Int)
 | 0, _, _, _, _, _, _ => none
 | k + 1, x0, x4, x5, x14, x15, x16 => if x16 < x15 then (if 0 ≤ x16 then (if x16 < (x14.length : Int) then (if 0 ≤ (rd x14 x16) then (if (rd x14 x16) < (x0.length : Int) then (impl_earliest.l1 k x0 x4 x5 (rd x14 x16) x14 x15 x16 ((rd_T53 x0 (rd x14 x16)).f1) (((rd_T53 x0 (rd x14 x16)).f1).length : Int) 0) else (none)) else (none)) else (none)) else (none)) else (some (x4, x5))
def impl_earliest.l1 : Nat → List (S53) → List Int → Int → Int → List Int → Int → Int → List Int → Int → Int → Option (List Int × Int)
 | 0, _, _, _, _, _, _, _, _, _, _ => none
 | k + 1, x0, x4, x5, x7, x14, x15, x16, x24, x25, x26 => if x26 < x25 then (if 0 ≤ x26 then (if x26 < (x24.length : Int) then (if 0 ≤ x7 then (if x7 < (x4.length : Int) then (if 0 ≤ (rd x24 x26) then (if (rd x24 x26) < (x4.length : Int) then (if (rd x24 x26) < (x0.length : Int) then (impl_earliest.l1 k x0 (x4.set (x7 : Int).toNat (mx (rd x4 x7) (wrap64 ((rd x4 (rd x24 x26)) + ((rd_T53 x0 (rd x24 x26)).f0))))) x5 x7 x14 x15 x16 x24 x25 (wrap64 (x26 + 1))) else (none)) else (none)) else (none)) else (none)) else (none)) else (none)) else (none)) else (if 0 ≤ x7 then (if x7 < (x4.length : Int) then (if x7 < (x0.length : Int) then (impl_earliest.l0 k x0 x4 (mx x5 (wrap64 ((rd x4 x7) + ((rd_T53 x0 x7).f0)))) x14 x15 (wrap64 (x16 + 1))) else (none)) else (none)) else (none))
end
def impl_earliest.f (k : Nat) (l0 : List (S53)) : Option (List Int × Int) := if 0 ≤ (l0.length : Int) then (if ((l0.length : Int) : Int).toNat ≤ 35184372088832 then ((impl_order.f k l0).bind fun t180 => (impl_earliest.l0 k l0 (List.replicate ((l0.length : Int) : Int).toNat 0) 0 t180 (t180.length : Int) 0)) else (none)) else (none)
theorem impl_earliest.mono_l : ∀ k, (∀ y0 y1 y2 y3 y4 y5, LeO (impl_earliest.l0 k y0 y1 y2 y3 y4 y5) (impl_earliest.l0 (k + 1) y0 y1 y2 y3 y4 y5)) ∧ (∀ y0 y1 y2 y3 y4 y5 y6 y7 y8 y9, LeO (impl_earliest.l1 k y0 y1 y2 y3 y4 y5 y6 y7 y8 y9) (impl_earliest.l1 (k + 1) y0 y1 y2 y3 y4 y5 y6 y7 y8 y9))
 | 0 => ⟨fun _ _ _ _ _ _ r h => by simp [impl_earliest.l0] at h, fun _ _ _ _ _ _ _ _ _ _ r h => by simp [impl_earliest.l1] at h⟩
 | k + 1 => by
  obtain ⟨ih0, ih1⟩ := impl_earliest.mono_l k
  refine ⟨?_, ?_⟩
  ·intro y0 y1 y2 y3 y4 y5
   unfold impl_earliest.l0
   repeat' first
   | (with_reducible exact ih0 _ _ _ _ _ _)
   | (with_reducible exact ih1 _ _ _ _ _ _ _ _ _ _)
   | (with_reducible exact impl_order.mono _ _)
   | (with_reducible exact LeO.refl _)
   | (with_reducible exact LeO.none _)
   | (with_reducible refine LeO.ite ?_ ?_)
   | (with_reducible refine LeO.bind ?_ (fun _ => ?_))
   | exact ih0 _ _ _ _ _ _
   | exact ih1 _ _ _ _ _ _ _ _ _ _
   | exact impl_order.mono _ _
   | exact LeO.none _
   | refine LeO.ite ?_ ?_
   | refine LeO.bind ?_ (fun _ => ?_)
  ·intro y0 y1 y2 y3 y4 y5 y6 y7 y8 y9
   unfold impl_earliest.l1
   repeat' first
   | (with_reducible exact ih0 _ _ _ _ _ _)
   | (with_reducible exact ih1 _ _ _ _ _ _ _ _ _ _)
   | (with_reducible exact impl_order.mono _ _)
   | (with_reducible exact LeO.refl _)
   | (with_reducible exact LeO.none _)
   | (with_reducible refine LeO.ite ?_ ?_)
   | (with_reducible refine LeO.bind ?_ (fun _ => ?_))
   | exact ih0 _ _ _ _ _ _
   | exact ih1 _ _ _ _ _ _ _ _ _ _
   | exact impl_order.mono _ _
   | exact LeO.none _
   | refine LeO.ite ?_ ?_
   | refine LeO.bind ?_ (fun _ => ?_)
theorem impl_earliest.mono : ∀ a0 k, LeO (impl_earliest.f k a0) (impl_earliest.f (k + 1) a0) := by
 intro a0 k
 obtain ⟨ih0, ih1⟩ := impl_earliest.mono_l k
 unfold impl_earliest.f
 repeat' first
   | (with_reducible exact ih0 _ _ _ _ _ _)
   | (with_reducible exact ih1 _ _ _ _ _ _ _ _ _ _)
   | (with_reducible exact impl_order.mono _ _)
   | (with_reducible exact LeO.refl _)
   | (with_reducible exact LeO.none _)
   | (with_reducible refine LeO.ite ?_ ?_)
   | (with_reducible refine LeO.bind ?_ (fun _ => ?_))
   | exact ih0 _ _ _ _ _ _
   | exact ih1 _ _ _ _ _ _ _ _ _ _
   | exact impl_order.mono _ _
   | exact LeO.none _
   | refine LeO.ite ?_ ?_
   | refine LeO.bind ?_ (fun _ => ?_)
def impl_earliest.T8 : Bool × List (List Nat × List Nat) := (true, [([], []), ([], []), ([], []), ([], []), ([2, 3], [2, 3]), ([4], [4]), ([], []), ([], []), ([6, 7], [6, 7]), ([8], [8]), ([], []), ([], []), ([10, 11], [10, 11]), ([12], [12]), ([13], [13]), ([9, 14], [9, 14]), ([5, 15], [5, 15]), ([0, 1, 0, 1, 2, 3, 4, 5, 6, 7, 8, 9, 10, 11, 12, 13, 14, 15, 16], [0, 1]), ([17, 16, 0, 1, 2, 3, 4, 5, 6, 7, 8, 9, 10, 11, 12, 13, 14, 15, 16], [16, 17])])
def impl_earliest.B8 : List Nat := [0, 0, 0, 0, 12, 28, 0, 0, 192, 448, 0, 0, 3072, 7168, 15360, 32704, 65532, 131071, 262143]
theorem impl_earliest.tab8 : rtab .any (opsOf Try.f54 8) = impl_earliest.T8 := by kernel_rfl
theorem impl_earliest.bits8 : waitsOk impl_earliest.T8.2 impl_earliest.B8 = true := by kernel_rfl
def impl_earliest.T10 : Bool × List (List Nat × List Nat) := (true, [([], []), ([], []), ([], []), ([1, 2], [1, 2]), ([3], [3]), ([], []), ([], []), ([5, 6], [5, 6]), ([7], [7]), ([8], [8]), ([4, 9], [4, 9]), ([0, 10], [0, 10]), ([11, 0, 1, 2, 3, 4, 5, 6, 7, 8, 9, 10, 11], [0, 11])])
def impl_earliest.B10 : List Nat := [0, 0, 0, 6, 14, 0, 0, 96, 224, 480, 1022, 2047, 4095]
theorem impl_earliest.tab10 : rtab .any (opsOf Try.f54 10) = impl_earliest.T10 := by kernel_rfl
theorem impl_earliest.bits10 : waitsOk impl_earliest.T10.2 impl_earliest.B10 = true := by kernel_rfl
set_option maxHeartbeats 8000000 in
set_option maxRecDepth 100000 in
theorem impl_earliest.calls (k : Nat) (A0 : Option Addr) (c0 : Nat) (l0 : List (S53)) (r1 : List Int) (r2 : Int) (w : World) (hr0 : Kd.C k53 w A0 l0.length l0) (hc0 : l0.length ≤ c0) (h : impl_earliest.f k l0 = some (r1, r2)) :
  Calls Try.prog 54 #[.slice A0 l0.length c0] w fun e w' => ∃ v0_ : Value, e = .returned (.tuple #[v0_, .int .i64 r2]) ∧ Kd.R (Kd.int .i64) 3 w' w.heap.size (fun _ => True) v0_ r1 ∧ Below w.heap.size w w' := by
 have HR0 := Aside0.mk hr0
 have HC0 := Aside0.mk hc0
 clear hr0 hc0
 have HB := Aside0.mk (Below.refl w.heap.size w)
 have H : (if 0 ≤ (l0.length : Int) then (if ((l0.length : Int) : Int).toNat ≤ 35184372088832 then ((impl_order.f k l0).bind fun t180 => (impl_earliest.l0 k l0 (List.replicate ((l0.length : Int) : Int).toNat 0) 0 t180 (t180.length : Int) 0)) else (none)) else (none)) = some (r1, r2) := h
 clear h
 by_cases c2 : 0 ≤ (l0.length : Int)
 ·rw [if_pos c2] at H
  have c2b0 := eq_true c2
  have c2b1 : decide (0 ≤ (l0.length : Int)) = true := decide_eq_true c2
  clear c2
  by_cases c3 : ((l0.length : Int) : Int).toNat ≤ 35184372088832
  ·rw [if_pos c3] at H
   have c3b0 := eq_true c3
   have c3b1 : decide (((l0.length : Int) : Int).toNat ≤ 35184372088832) = true := decide_eq_true c3
   clear c3
   obtain ⟨y177, hy177⟩ : ∃ y_ : List Int, y_ = (List.replicate ((l0.length : Int) : Int).toNat 0) := ⟨_, rfl⟩
   replace H : ((impl_order.f k l0).bind fun t180 => (impl_earliest.l0 k l0 y177 0 t180 (t180.length : Int) 0)) = some (r1, r2) := by first | (rw [hy177]; with_reducible exact H) | (have H2_ := (Option.bind_some _ _).symm.trans H; rw [hy177]; with_reducible exact H2_) | (have H2_ := (Option.bind_some _ _).symm.trans H; with_reducible exact H2_) | with_reducible exact H | (rw [hy177]; exact H) | exact H
   have Ny177 := Aside0.mk hy177
   clear hy177
   replace H := Option.bind_eq_some_iff.mp H
   obtain ⟨t180, A40, H⟩ := H
   replace H : (impl_earliest.l0 k l0 y177 0 t180 (t180.length : Int) 0) = some (r1, r2) := H
   have A4 := Aside0.mk A40
   clear A40
   have H' := Aside0.mk H
   clear H
   go_enter Try.func54, Try.ntmps54
   go_wp2_with (first | ((with_reducible refine gate_dst (N := 12) rfl ?_); refine Kd.R_make (Kd.int .i64) _ 3 rfl (N := 12) rfl 29 _ _ rfl (l0.length : Int) rfl rfl Try.underlying29 (.int .i64 0) 8 info3 rfl (by decide) (by omega) 0 (ok := fun _ => True) (okp := fun _ => True) rfl (fun _ hk => hk) trivial (of_decide_eq_true (by first | (with_reducible assumption) | assumption)) (Nat.le_trans (Nat.mul_le_mul_right _ (of_decide_eq_true (by first | (with_reducible assumption) | assumption) : (l0.length : Int).toNat ≤ 35184372088832)) (by omega)) (Below.refl _ _) (Nat.le_refl _) ?_; intro v178 w5 ho6 hb hg_ hnew_; clear hg_ hnew_; (first | rw [← Ny177.out] at ho6 | (simp only [Int.reduceToNat] at ho6; rw [← Ny177.out] at ho6)); have n0_ := Aside0.mk (Kd.R_lower ho6 (below_size (by repeat (first | (with_reducible first | exact HB.out | apply below_alloc | apply pw_below_drewN | apply below_drew1) | exact HB.out)))); have n1_ := Aside0.mk (below_step (by repeat (first | (with_reducible first | exact HB.out | apply below_alloc | apply pw_below_drewN | apply below_drew1) | exact HB.out)) hb); clear HB; have HO179 := n0_; have HB := n1_; clear n0_ n1_; clear hb ho6) | ((with_reducible refine gate_callee (f := 51) rfl ?_); refine goesL_ (some 14) rfl rfl Try.func51 (by kernel_rfl) rfl #[.slice A0 l0.length c0] rfl (by (try simp only [List.map_toArray, List.map_cons, List.map_nil]); first | done | rfl | (simp only [List.length_drop, List.length_take]; rfl)) ?_; (with_reducible refine (impl_order.calls k _ _ l0 t180 _ ?side1 ?side2 A4.out).mono ?_); (case side1 => repeat (first | exact (Kd.C_below HR0.out HB.out) | (with_reducible refine Kd.C_alloc ?_ _) | (with_reducible refine Kd.C_drewN ?_ _) | (with_reducible refine Kd.C_drew ?_))); (case side2 => exact HC0.out); rintro e w7 ⟨v181, rfl, ho0, hb⟩; refine ⟨_, rfl, ?_⟩; have n0_ := Aside0.mk (Kd.R_elder' (by (with_reducible repeat (first | apply Kd.R_alloc | apply Kd.R_drewN | apply Kd.R_drew)); exact HO179.out) (Kd.R_base ho0) hb); have n1_ := Aside0.mk (Kd.R_lower (Kd.R_new' ho0 (Kd.R_lt (by (with_reducible repeat (first | apply Kd.R_alloc | apply Kd.R_drewN | apply Kd.R_drew)); exact HO179.out))) (below_size (by repeat (first | (with_reducible first | exact HB.out | apply below_alloc | apply pw_below_drewN | apply below_drew1) | exact HB.out)))); have n2_ := Aside0.mk (below_step (by repeat (first | (with_reducible first | exact HB.out | apply below_alloc | apply pw_below_drewN | apply below_drew1) | exact HB.out)) hb); clear HO179; clear HB; have HO179 := n0_; have HO182 := n1_; have HB := n2_; clear n0_ n1_ n2_; (try clear hb); (try clear hb2); (try clear hk); (try clear hi); (try clear ho0); obtain ⟨Ao8, co8, eo8⟩ := Kd.R_slice HO182.out; subst eo8))
   go_loopg [5, 16] k (fun kq v5 v16 w' => ∃ (x4_1 : List Int) (x5_1 : Int) (x16_1 : Int), v5 = .int .i64 x5_1 ∧ v16 = .int .i64 x16_1 ∧ Aside0 (impl_earliest.l0 kq l0 x4_1 x5_1 t180 (t180.length : Int) x16_1 = some (r1, r2)) ∧ Aside0 (kq ≤ k) ∧ Aside0 (Kd.R (Kd.int .i64) 3 w' w.heap.size (fun k_ => some k_ ≠ ((.slice Ao8 t180.length co8) : Value).ownBlock) v178 x4_1) ∧ Aside0 (Kd.R (Kd.int .i64) 3 w' w.heap.size (fun k_ => some k_ ≠ (v178 : Value).ownBlock) (.slice Ao8 t180.length co8) t180) ∧ Aside0 (Below w.heap.size w w'))
   case atStart => exact ⟨(y177), (0), (0), (by first | rfl | (simp; done) | (simp [*]; done)), (by first | rfl | (simp; done) | (simp [*]; done)), H', ⟨Nat.le_refl _⟩, ⟨by (with_reducible repeat (first | apply Kd.R_alloc | apply Kd.R_drewN | apply Kd.R_drew)); exact Kd.R_mono HO179.out (fun _ hk => hk.2)⟩, ⟨by (with_reducible repeat (first | apply Kd.R_alloc | apply Kd.R_drewN | apply Kd.R_drew)); exact Kd.R_mono HO182.out (fun _ hk => hk.2)⟩, ⟨by repeat (first | (with_reducible first | exact HB.out | apply below_alloc | apply pw_below_drewN | apply below_drew1) | exact HB.out)⟩⟩
   case round =>
    clear H'
    try clear c2
    try clear c2b0
    try clear c2b1
    try clear p2
    try clear c3
    try clear c3b0
    try clear c3b1
    try clear c5
    obtain ⟨x4_1, x5_1, x16_1, rfl, rfl, HA, HK1, HO_4, HO_14, HB⟩ := hrel
    cases gk with
    | zero => exact absurd HA.out (by simp [impl_earliest.l0])
    | succ k1 =>
     have H := HA.out
     clear HA
     simp only [impl_earliest.l0] at H
     by_cases c9 : x16_1 < (t180.length : Int)
     ·rw [if_pos c9] at H
      have c9b0 : decide (x16_1 < (t180.length : Int)) = true := decide_eq_true c9
      clear c9
      by_cases c10 : 0 ≤ x16_1
      ·rw [if_pos c10] at H
       have c10b0 : decide (0 ≤ x16_1) = true := decide_eq_true c10
       clear c10
       by_cases c11 : x16_1 < (t180.length : Int)
       ·rw [if_pos c11] at H
        have c11b0 : decide (x16_1 < (t180.length : Int)) = true := decide_eq_true c11
        clear c11
        by_cases c12 : 0 ≤ (rd t180 x16_1)
        ·rw [if_pos c12] at H
         have c12b0 : decide (0 ≤ (rd t180 x16_1)) = true := decide_eq_true c12
         clear c12
         by_cases c13 : (rd t180 x16_1) < (l0.length : Int)
         ·rw [if_pos c13] at H
          have c13b0 : decide ((rd t180 x16_1) < (l0.length : Int)) = true := decide_eq_true c13
          clear c13
          have H' := Aside0.mk H
          clear H
          have p183 : 0 ≤ (x16_1 : Int) := of_decide_eq_true (by first | (with_reducible assumption) | assumption)
          have q183 : x16_1 < (t180.length : Int) := of_decide_eq_true (by first | (with_reducible assumption) | assumption)
          obtain ⟨ad183, e183, hx183_0⟩ := Kd.at_int (Kd.R_reads' HO_14.out).2.2 x16_1 p183 q183
          cases e183
          replace p183 := eq_true p183
          replace q183 := eq_true q183
          have p184 : 0 ≤ ((rd t180 x16_1) : Int) := of_decide_eq_true (by first | (with_reducible assumption) | assumption)
          have q184 : (rd t180 x16_1) < (l0.length : Int) := of_decide_eq_true (by first | (with_reducible assumption) | assumption)
          obtain ⟨ad184, A184_1, c184_1, e184, hx184_0, hx184_1, hl184_1, hi184_1⟩ := at_T53 HR0.out (rd t180 x16_1) p184 q184
          cases e184
          try replace hx184_0 := (HB.out.cell (World.block_lt_of_cell? w _ hx184_0)).trans hx184_0
          try replace hx184_1 := (HB.out.cell (World.block_lt_of_cell? w _ hx184_1)).trans hx184_1
          have HR184_1 := Aside0.mk hi184_1
          have HC184_1 := Aside0.mk hl184_1
          clear hi184_1 hl184_1
          replace p184 := eq_true p184
          replace q184 := eq_true q184
          go_wp2
          go_loopg [26] k1 (fun kq v26 w' => ∃ (x4_2 : List Int) (x26_2 : Int), v26 = .int .i64 x26_2 ∧ Aside0 (impl_earliest.l1 kq l0 x4_2 x5_1 (rd t180 x16_1) t180 (t180.length : Int) x16_1 ((rd_T53 l0 (rd t180 x16_1)).f1) (((rd_T53 l0 (rd t180 x16_1)).f1).length : Int) x26_2 = some (r1, r2)) ∧ Aside0 (kq ≤ k1) ∧ Aside0 (Kd.R (Kd.int .i64) 3 w' w.heap.size (fun k_ => some k_ ≠ ((.slice (some ad183) t180.length co8) : Value).ownBlock) v178 x4_2) ∧ Aside0 (Kd.R (Kd.int .i64) 3 w' w.heap.size (fun k_ => some k_ ≠ (v178 : Value).ownBlock) (.slice (some ad183) t180.length co8) t180) ∧ Aside0 (Below w.heap.size w w'))
          case atStart => exact ⟨(x4_1), (0), (by first | rfl | (simp; done) | (simp [*]; done)), H', ⟨Nat.le_refl _⟩, ⟨by (with_reducible repeat (first | apply Kd.R_alloc | apply Kd.R_drewN | apply Kd.R_drew)); exact HO_4.out⟩, ⟨by (with_reducible repeat (first | apply Kd.R_alloc | apply Kd.R_drewN | apply Kd.R_drew)); exact HO_14.out⟩, ⟨by repeat (first | (with_reducible first | exact HB.out | apply below_alloc | apply pw_below_drewN | apply below_drew1) | exact HB.out)⟩⟩
          case round =>
           clear H'
           try clear c1
           try clear p1
           try clear q1
           try clear hx1
           try clear c2
           try clear c2b0
           try clear c2b1
           try clear p2
           try clear c3
           try clear c3b0
           try clear c3b1
           try clear c5
           try clear c9
           try clear c9b0
           try clear c10
           try clear c10b0
           try clear c11
           try clear c11b0
           try clear c12
           try clear c12b0
           try clear c13
           try clear c13b0
           try clear hx183_0
           try clear hx184_0
           try clear hx184_1
           try clear p183
           try clear p184
           try clear p2
           try clear q183
           try clear q184
           obtain ⟨x4_2, x26_2, rfl, HA, HK2, HO_4, HO_14, HB⟩ := hrel
           cases gk with
           | zero => exact absurd HA.out (by simp [impl_earliest.l1])
           | succ k2 =>
            have H := HA.out
            clear HA
            simp only [impl_earliest.l1] at H
            by_cases c14 : x26_2 < (((rd_T53 l0 (rd t180 x16_1)).f1).length : Int)
            ·rw [if_pos c14] at H
             have c14b0 : decide (x26_2 < (((rd_T53 l0 (rd t180 x16_1)).f1).length : Int)) = true := decide_eq_true c14
             clear c14
             by_cases c15 : 0 ≤ x26_2
             ·rw [if_pos c15] at H
              have c15b0 : decide (0 ≤ x26_2) = true := decide_eq_true c15
              clear c15
              by_cases c16 : x26_2 < (((rd_T53 l0 (rd t180 x16_1)).f1).length : Int)
              ·rw [if_pos c16] at H
               have c16b0 : decide (x26_2 < (((rd_T53 l0 (rd t180 x16_1)).f1).length : Int)) = true := decide_eq_true c16
               clear c16
               by_cases c17 : 0 ≤ (rd t180 x16_1)
               ·rw [if_pos c17] at H
                have c17b0 : decide (0 ≤ (rd t180 x16_1)) = true := decide_eq_true c17
                clear c17
                by_cases c18 : (rd t180 x16_1) < (x4_2.length : Int)
                ·rw [if_pos c18] at H
                 have c18b0 : decide ((rd t180 x16_1) < (x4_2.length : Int)) = true := decide_eq_true c18
                 clear c18
                 by_cases c19 : 0 ≤ (rd ((rd_T53 l0 (rd t180 x16_1)).f1) x26_2)
                 ·rw [if_pos c19] at H
                  have c19b0 : decide (0 ≤ (rd ((rd_T53 l0 (rd t180 x16_1)).f1) x26_2)) = true := decide_eq_true c19
                  clear c19
                  by_cases c20 : (rd ((rd_T53 l0 (rd t180 x16_1)).f1) x26_2) < (x4_2.length : Int)
                  ·rw [if_pos c20] at H
                   have c20b0 : decide ((rd ((rd_T53 l0 (rd t180 x16_1)).f1) x26_2) < (x4_2.length : Int)) = true := decide_eq_true c20
                   clear c20
                   by_cases c21 : (rd ((rd_T53 l0 (rd t180 x16_1)).f1) x26_2) < (l0.length : Int)
                   ·rw [if_pos c21] at H
                    have c21b0 : decide ((rd ((rd_T53 l0 (rd t180 x16_1)).f1) x26_2) < (l0.length : Int)) = true := decide_eq_true c21
                    clear c21
                    obtain ⟨ji22, hji22⟩ : ∃ j_ : Int, (mx (rd x4_2 (rd t180 x16_1)) (wrap64 ((rd x4_2 (rd ((rd_T53 l0 (rd t180 x16_1)).f1) x26_2)) + ((rd_T53 l0 (rd ((rd_T53 l0 (rd t180 x16_1)).f1) x26_2)).f0)))) = j_ := ⟨_, rfl⟩
                    replace H : (impl_earliest.l1 k2 l0 (x4_2.set ((rd t180 x16_1) : Int).toNat (ji22)) x5_1 (rd t180 x16_1) t180 (t180.length : Int) x16_1 ((rd_T53 l0 (rd t180 x16_1)).f1) (((rd_T53 l0 (rd t180 x16_1)).f1).length : Int) (wrap64 (x26_2 + 1))) = some (r1, r2) := by first | (rw [hji22] at H; exact H) | (simp only [hji22] at H ⊢; exact H)
                    have hji22_ : (if (rd x4_2 (rd t180 x16_1)) < (wrap64 ((rd x4_2 (rd ((rd_T53 l0 (rd t180 x16_1)).f1) x26_2)) + ((rd_T53 l0 (rd ((rd_T53 l0 (rd t180 x16_1)).f1) x26_2)).f0))) then (wrap64 ((rd x4_2 (rd ((rd_T53 l0 (rd t180 x16_1)).f1) x26_2)) + ((rd_T53 l0 (rd ((rd_T53 l0 (rd t180 x16_1)).f1) x26_2)).f0))) else (rd x4_2 (rd t180 x16_1))) = ji22 := hji22
                    obtain ⟨y189, hy189⟩ : ∃ y_ : List Int, y_ = (x4_2.set ((rd t180 x16_1) : Int).toNat (ji22)) := ⟨_, rfl⟩
                    replace H : (impl_earliest.l1 k2 l0 y189 x5_1 (rd t180 x16_1) t180 (t180.length : Int) x16_1 ((rd_T53 l0 (rd t180 x16_1)).f1) (((rd_T53 l0 (rd t180 x16_1)).f1).length : Int) (wrap64 (x26_2 + 1))) = some (r1, r2) := by first | (rw [hy189]; with_reducible exact H) | (have H2_ := (Option.bind_some _ _).symm.trans H; rw [hy189]; with_reducible exact H2_) | (have H2_ := (Option.bind_some _ _).symm.trans H; with_reducible exact H2_) | with_reducible exact H | (rw [hy189]; exact H) | exact H
                    have Ny189 := Aside0.mk hy189
                    clear hy189
                    have H' := Aside0.mk H
                    clear H
                    have p185 : 0 ≤ (x26_2 : Int) := of_decide_eq_true (by first | (with_reducible assumption) | assumption)
                    have q185 : x26_2 < (((rd_T53 l0 (rd t180 x16_1)).f1).length : Int) := of_decide_eq_true (by first | (with_reducible assumption) | assumption)
                    obtain ⟨ad185, e185, hx185_0⟩ := Kd.at_int HR184_1.out x26_2 p185 q185
                    cases e185
                    try replace hx185_0 := (HB.out.cell (World.block_lt_of_cell? w _ hx185_0)).trans hx185_0
                    replace p185 := eq_true p185
                    replace q185 := eq_true q185
                    try go_wp2
                    have n0_ := Aside0.mk (Kd.R_drew HO_4.out)
                    have n1_ := Aside0.mk (Kd.R_drew HO_14.out)
                    have n2_ := Aside0.mk (below_drew1 HB.out)
                    clear HO_4
                    clear HO_14
                    clear HB
                    have HO_4 := n0_
                    have HO_14 := n1_
                    have HB := n2_
                    clear n0_ n1_ n2_
                    obtain ⟨Ao25, co25, eo25⟩ := Kd.R_slice HO_4.out
                    (first | subst eo25 | (injection eo25 with f1_ f2_ f3_; have f4_ := f1_.symm; have f5_ := f3_.symm; clear f1_ f2_ f3_; subst f4_; subst f5_))
                    have p186 : 0 ≤ ((rd t180 x16_1) : Int) := of_decide_eq_true (by first | (with_reducible assumption) | assumption)
                    have q186 : (rd t180 x16_1) < (x4_2.length : Int) := of_decide_eq_true (by first | (with_reducible assumption) | assumption)
                    obtain ⟨ad186, e186, hx186_0⟩ := Kd.at_int (Kd.R_reads' HO_4.out).2.2 (rd t180 x16_1) p186 q186
                    cases e186
                    replace p186 := eq_true p186
                    replace q186 := eq_true q186
                    have p187 : 0 ≤ ((rd ((rd_T53 l0 (rd t180 x16_1)).f1) x26_2) : Int) := of_decide_eq_true (by first | (with_reducible assumption) | assumption)
                    have q187 : (rd ((rd_T53 l0 (rd t180 x16_1)).f1) x26_2) < (x4_2.length : Int) := of_decide_eq_true (by first | (with_reducible assumption) | assumption)
                    obtain ⟨ad187, e187, hx187_0⟩ := Kd.at_int (Kd.R_reads' HO_4.out).2.2 (rd ((rd_T53 l0 (rd t180 x16_1)).f1) x26_2) p187 q187
                    obtain rfl : ad186 = ad187 := (by injection e187)
                    replace p187 := eq_true p187
                    replace q187 := eq_true q187
                    have p188 : 0 ≤ ((rd ((rd_T53 l0 (rd t180 x16_1)).f1) x26_2) : Int) := of_decide_eq_true (by first | (with_reducible assumption) | assumption)
                    have q188 : (rd ((rd_T53 l0 (rd t180 x16_1)).f1) x26_2) < (l0.length : Int) := of_decide_eq_true (by first | (with_reducible assumption) | assumption)
                    obtain ⟨ad188, A188_1, c188_1, e188, hx188_0, hx188_1, hl188_1, hi188_1⟩ := at_T53 HR0.out (rd ((rd_T53 l0 (rd t180 x16_1)).f1) x26_2) p188 q188
                    have hw188_1 := hx188_1
                    have hw188_0 := hx188_0
                    obtain rfl : ad184 = ad188 := (by injection e188)
                    try replace hx188_0 := (HB.out.cell (World.block_lt_of_cell? w _ hx188_0)).trans hx188_0
                    try replace hx188_1 := (HB.out.cell (World.block_lt_of_cell? w _ hx188_1)).trans hx188_1
                    have HR188_1 := Aside0.mk hi188_1
                    have HC188_1 := Aside0.mk hl188_1
                    clear hi188_1 hl188_1
                    replace p188 := eq_true p188
                    replace q188 := eq_true q188
                    have p23 : 0 ≤ ((rd t180 x16_1) : Int) := of_decide_eq_true (by first | (with_reducible assumption) | assumption)
                    have q23 : ((rd t180 x16_1) : Int) < ((x4_2.length : Int) : Int) := of_decide_eq_true (by first | (with_reducible assumption) | assumption)
                    obtain ⟨go23, co23, eo23, gb23, gl23, cl23, HG23⟩ := Kd.R_form HO_4.out (by omega)
                    (first | cases eo23 | (injection eo23 with ea_ en_ ec_; (first | subst ea_ | (injection ea_ with ea_; subst ea_)); subst ec_; clear en_))
                    have GB23 := Aside0.mk gb23
                    have GG23 := Aside0.mk HG23
                    clear gb23 gl23 HG23
                    (first | simp only [add_plain] at hx186_0 | skip)
                    (first | simp only [add_plain] at hx187_0 | skip)
                    obtain ⟨hx23_0, hf23_0⟩ := Kd.R_celln 0 HO_4.out ((rd t180 x16_1) : Int) p23 q23
                    replace p23 := eq_true p23
                    replace q23 := eq_true q23
                    have HP26 := Kd.R_putn HO_4.out ((rd t180 x16_1) : Int) ji22
                    rw [← Ny189.out] at HP26
                    have HQ26 := Aside0.mk HP26
                    clear HP26
                    refine start_ (n := 19) (S := fun w' => w'.cell? ⟨go23, ((rd t180 x16_1)).toNat, none⟩ = some (.int .i64 (rd x4_2 (rd t180 x16_1))) ∧ w'.cell? ⟨go23, ((rd ((rd_T53 l0 (rd t180 x16_1)).f1) x26_2)).toNat, none⟩ = some (.int .i64 (rd x4_2 (rd ((rd_T53 l0 (rd t180 x16_1)).f1) x26_2))) ∧ w'.cell? (ad184.add (((rd ((rd_T53 l0 (rd t180 x16_1)).f1) x26_2)).toNat * 2)) = some (.int .i64 ((rd_T53 l0 (rd ((rd_T53 l0 (rd t180 x16_1)).f1) x26_2)).f0)) ∧ w'.cell? ⟨(ad184.add (((rd ((rd_T53 l0 (rd t180 x16_1)).f1) x26_2)).toNat * 2)).block, (ad184.add (((rd ((rd_T53 l0 (rd t180 x16_1)).f1) x26_2)).toNat * 2)).off + 1, none⟩ = some (.slice A188_1 ((rd_T53 l0 (rd ((rd_T53 l0 (rd t180 x16_1)).f1) x26_2)).f1).length c188_1)) (ds := [18]) #[false, false, false, false, false, false, false, false, false, false, false, false, false, false, false, false, false, false, false] (by kernel_rfl) rfl rfl ⟨hx186_0, hx187_0, ((HB.out.cell (World.block_lt_of_cell? w _ hw188_0)).trans hw188_0), ((HB.out.cell (World.block_lt_of_cell? w _ hw188_1)).trans hw188_1)⟩ (fun hHeld => ?_); refine with_tabW impl_earliest.tab8 impl_earliest.bits8 (fun HT_ HW_ => ?_)
                    generalize wr.drew = w24 at HO_4 HO_14 HB GG23 HQ26 HR188_1 hf23_0 hx186_0 hx187_0 hx188_0 hx188_1 hx23_0 hHeld ⊢
                    refine pure_ (i := 0) (N := some 30) (v := ?_) (a' := ?_) #[true, false, false, false, false, false, false, false, false, false, false, false, false, false, false, false, false, false, false] rfl rfl (any_of HT_.out (by kernel_rfl)) (fun _ _ _ h => h) (Or.inl ⟨by rfl, ?_⟩) ?_ ?_
                    rotate_left
                    ·intro w'
                     go_simp
                     with_reducible rfl
                    rotate_left
                    ·simp only [Act.put, List.setIfInBounds_toArray, List.set_cons_zero, List.set_cons_succ, i64_w, i32_w]
                     rfl
                    refine pure_ (i := 1) (N := some 31) (v := ?_) (a' := ?_) #[true, true, false, false, false, false, false, false, false, false, false, false, false, false, false, false, false, false, false] rfl rfl (any_of HT_.out (by kernel_rfl)) (fun _ _ _ h => h) (Or.inl ⟨by rfl, ?_⟩) ?_ ?_
                    rotate_left
                    ·intro w'
                     go_simp
                     with_reducible rfl
                    rotate_left
                    ·simp only [Act.put, List.setIfInBounds_toArray, List.set_cons_zero, List.set_cons_succ, i64_w, i32_w]
                     rfl
                    refine pure_ (i := 2) (N := some 32) (v := ?_) (a' := ?_) #[true, true, true, false, false, false, false, false, false, false, false, false, false, false, false, false, false, false, false] rfl rfl (any_of HT_.out (by kernel_rfl)) (fun _ _ _ h => h) (Or.inl ⟨by rfl, ?_⟩) ?_ ?_
                    rotate_left
                    ·intro w'
                     go_simp
                     with_reducible rfl
                    rotate_left
                    ·simp only [Act.put, List.setIfInBounds_toArray, List.set_cons_zero, List.set_cons_succ, i64_w, i32_w]
                     rfl
                    refine pure_ (i := 3) (N := some 33) (v := ?_) (a' := ?_) #[true, true, true, true, false, false, false, false, false, false, false, false, false, false, false, false, false, false, false] rfl rfl (any_of HT_.out (by kernel_rfl)) (fun _ _ _ h => h) (Or.inl ⟨by rfl, ?_⟩) ?_ ?_
                    rotate_left
                    ·intro w'
                     go_simp
                     with_reducible rfl
                    rotate_left
                    ·simp only [Act.put, List.setIfInBounds_toArray, List.set_cons_zero, List.set_cons_succ, i64_w, i32_w]
                     rfl
                    refine pure_ (i := 4) (N := some 34) (v := ?_) (a' := ?_) #[true, true, true, true, true, false, false, false, false, false, false, false, false, false, false, false, false, false, false] rfl rfl (any_of HT_.out (by kernel_rfl)) (fun _ _ _ h => h) (Or.inl ⟨by rfl, ?_⟩) ?_ ?_
                    rotate_left
                    ·intro w'
                     go_simp
                     with_reducible rfl
                    rotate_left
                    ·simp only [Act.put, List.setIfInBounds_toArray, List.set_cons_zero, List.set_cons_succ, i64_w, i32_w]
                     rfl
                    refine pure_ (i := 6) (N := some 36) (v := ?_) (a' := ?_) #[true, true, true, true, true, false, true, false, false, false, false, false, false, false, false, false, false, false, false] rfl rfl (any_of HT_.out (by kernel_rfl)) (fun _ _ _ h => h) (Or.inl ⟨by rfl, ?_⟩) ?_ ?_
                    rotate_left
                    ·intro w'
                     go_simp
                     with_reducible rfl
                    rotate_left
                    ·simp only [Act.put, List.setIfInBounds_toArray, List.set_cons_zero, List.set_cons_succ, i64_w, i32_w]
                     rfl
                    refine pure_ (i := 7) (N := some 37) (v := ?_) (a' := ?_) #[true, true, true, true, true, false, true, true, false, false, false, false, false, false, false, false, false, false, false] rfl rfl (any_of HT_.out (by kernel_rfl)) (fun _ _ _ h => h) (Or.inl ⟨by rfl, ?_⟩) ?_ ?_
                    rotate_left
                    ·intro w'
                     go_simp
                     with_reducible rfl
                    rotate_left
                    ·simp only [Act.put, List.setIfInBounds_toArray, List.set_cons_zero, List.set_cons_succ, i64_w, i32_w]
                     rfl
                    refine pure_ (i := 8) (N := some 38) (v := ?_) (a' := ?_) #[true, true, true, true, true, false, true, true, true, false, false, false, false, false, false, false, false, false, false] rfl rfl (any_of HT_.out (by kernel_rfl)) (fun _ _ _ h => h) (Or.inl ⟨by rfl, ?_⟩) ?_ ?_
                    rotate_left
                    ·intro w'
                     go_simp
                     with_reducible rfl
                    rotate_left
                    ·simp only [Act.put, List.setIfInBounds_toArray, List.set_cons_zero, List.set_cons_succ, i64_w, i32_w]
                     rfl
                    refine pure_ (i := 10) (N := some 40) (v := ?_) (a' := ?_) #[true, true, true, true, true, false, true, true, true, false, true, false, false, false, false, false, false, false, false] rfl rfl (any_of HT_.out (by kernel_rfl)) (fun _ _ _ h => h) (Or.inl ⟨by rfl, ?_⟩) ?_ ?_
                    rotate_left
                    ·intro w'
                     go_simp
                     with_reducible rfl
                    rotate_left
                    ·simp only [Act.put, List.setIfInBounds_toArray, List.set_cons_zero, List.set_cons_succ, i64_w, i32_w]
                     rfl
                    refine pure_ (i := 11) (N := some 41) (v := ?_) (a' := ?_) #[true, true, true, true, true, false, true, true, true, false, true, true, false, false, false, false, false, false, false] rfl rfl (any_of HT_.out (by kernel_rfl)) (fun _ _ _ h => h) (Or.inl ⟨by rfl, ?_⟩) ?_ ?_
                    rotate_left
                    ·intro w'
                     go_simp
                     with_reducible rfl
                    rotate_left
                    ·simp only [Act.put, List.setIfInBounds_toArray, List.set_cons_zero, List.set_cons_succ, i64_w, i32_w]
                     rfl
                    refine pure_ (i := 12) (N := some 42) (v := ?_) (a' := ?_) #[true, true, true, true, true, false, true, true, true, false, true, true, true, false, false, false, false, false, false] rfl rfl (any_of HT_.out (by kernel_rfl)) (fun _ _ _ h => h) (Or.inl ⟨by rfl, ?_⟩) ?_ ?_
                    rotate_left
                    ·intro w'
                     go_simp
                     with_reducible rfl
                    rotate_left
                    ·simp only [Act.put, List.setIfInBounds_toArray, List.set_cons_zero, List.set_cons_succ, i64_w, i32_w]
                     rfl
                    refine pure_ (i := 13) (N := some 43) (v := ?_) (a' := ?_) #[true, true, true, true, true, false, true, true, true, false, true, true, true, true, false, false, false, false, false] rfl rfl (any_of HT_.out (by kernel_rfl)) (fun _ _ _ h => h) (Or.inl ⟨by rfl, ?_⟩) ?_ ?_
                    rotate_left
                    ·intro w'
                     go_simp
                     with_reducible rfl
                    rotate_left
                    ·simp only [Act.put, List.setIfInBounds_toArray, List.set_cons_zero, List.set_cons_succ, i64_w, i32_w]
                     rfl
                    refine take_ (i := 5) (N := some 35) (v := ?_) (a' := ?_) #[true, true, true, true, true, true, true, true, true, false, true, true, true, true, false, false, false, false, false] rfl rfl (take_ofW HT_.out HW_.out (by kernel_rfl)) (fun _ _ _ h => h) (Or.inl ⟨by rfl, ?_⟩) hHeld ?_ ?_
                    rotate_left
                    ·rintro w' ⟨s0, s1, s2, s3⟩
                     go_simp
                     with_reducible rfl
                    rotate_left
                    ·simp only [Act.put, List.setIfInBounds_toArray, List.set_cons_zero, List.set_cons_succ, i64_w, i32_w]
                     rfl
                    refine take_ (i := 9) (N := some 39) (v := ?_) (a' := ?_) #[true, true, true, true, true, true, true, true, true, true, true, true, true, true, false, false, false, false, false] rfl rfl (take_ofW HT_.out HW_.out (by kernel_rfl)) (fun _ _ _ h => h) (Or.inl ⟨by rfl, ?_⟩) hHeld ?_ ?_
                    rotate_left
                    ·rintro w' ⟨s0, s1, s2, s3⟩
                     go_simp
                     with_reducible rfl
                    rotate_left
                    ·simp only [Act.put, List.setIfInBounds_toArray, List.set_cons_zero, List.set_cons_succ, i64_w, i32_w]
                     rfl
                    refine take_ (i := 14) (N := some 44) (v := ?_) (a' := ?_) #[true, true, true, true, true, true, true, true, true, true, true, true, true, true, true, false, false, false, false] rfl rfl (take_ofW HT_.out HW_.out (by kernel_rfl)) (fun _ _ _ h => h) (Or.inl ⟨by rfl, ?_⟩) hHeld ?_ ?_
                    rotate_left
                    ·rintro w' ⟨s0, s1, s2, s3⟩
                     go_simp
                     with_reducible rfl
                    rotate_left
                    ·simp only [Act.put, List.setIfInBounds_toArray, List.set_cons_zero, List.set_cons_succ, i64_w, i32_w]
                     rfl
                    refine pure_ (i := 15) (N := some 45) (v := ?_) (a' := ?_) #[true, true, true, true, true, true, true, true, true, true, true, true, true, true, true, true, false, false, false] rfl rfl (any_of HT_.out (by kernel_rfl)) (fun _ _ _ h => h) (Or.inl ⟨by rfl, ?_⟩) ?_ ?_
                    rotate_left
                    ·intro w'
                     go_simp
                     with_reducible rfl
                    rotate_left
                    ·simp only [Act.put, List.setIfInBounds_toArray, List.set_cons_zero, List.set_cons_succ, i64_w, i32_w]
                     rfl
                    refine pure_ (i := 16) (N := some 46) (v := ?_) (a' := ?_) #[true, true, true, true, true, true, true, true, true, true, true, true, true, true, true, true, true, false, false] rfl rfl (any_of HT_.out (by kernel_rfl)) (fun _ _ _ h => h) (Or.inl ⟨by rfl, ?_⟩) ?_ ?_
                    rotate_left
                    ·intro w'
                     go_simp
                     with_reducible rfl
                    rotate_left
                    ·simp only [Act.put, List.setIfInBounds_toArray, List.set_cons_zero, List.set_cons_succ, i64_w, i32_w]
                     rfl
                    refine pure_ (i := 17) (N := some 47) (v := ?_) (a' := ?_) #[true, true, true, true, true, true, true, true, true, true, true, true, true, true, true, true, true, true, false] rfl rfl (any_of HT_.out (by kernel_rfl)) (fun _ _ _ h => h) (Or.inl ⟨by rfl, ?_⟩) ?_ ?_
                    rotate_left
                    ·intro w'
                     go_simp
                     with_reducible rfl
                    rotate_left
                    ·simp only [Act.put, List.setIfInBounds_toArray, List.set_cons_zero, List.set_cons_succ, i64_w, i32_w]
                     rfl
                    refine last_ (i := 18) (N := none) #[true, true, true, true, true, true, true, true, true, true, true, true, true, true, true, true, true, true, true] rfl rfl (one_of HT_.out (by kernel_rfl)) (by decide) (fun K hK => ?_)
                    refine skip_ (w1 := ?_) (by rfl) rfl ?_ ?_
                    rotate_left
                    ·go_simp
                     rfl
                    refine hK.out _ _ ?_
                    clear hK K
                    refine done_ (done_of HT_.out (by kernel_rfl)) ?_
                    try go_wp2
                    go_roundg k2
                    case measure => have := HK1.out; have := HK2.out; omega
                    case rel => exact ⟨(y189), (wrap64 (x26_2 + 1)), (by first | rfl | (simp; done) | (simp [*]; done)), H', ⟨by have := HK1.out; have := HK2.out; omega⟩, ⟨by (with_reducible repeat (first | apply Kd.R_alloc | apply Kd.R_drewN | apply Kd.R_drew)); exact HQ26.out⟩, ⟨by (with_reducible repeat (first | apply Kd.R_alloc | apply Kd.R_drewN | apply Kd.R_drew)); exact Kd.R_mono (Kd.R_far (p := ⟨go23, ((rd t180 x16_1) : Int).toNat, none⟩) (Kd.R_mono HO_14.out (fun k_ hk => (⟨hk, fun e_ => hk (by rw [e_]; rfl)⟩ : _ ∧ k_ ≠ go23))) (fun _ hk => hk.2) (.int .i64 ji22)) (fun _ hk => hk.1)⟩, ⟨by repeat (first | (with_reducible first | exact HB.out | apply below_alloc | apply pw_below_drewN | apply below_drew1 | refine below_set ?_ GB23.out) | exact HB.out)⟩⟩
                   ·rw [if_neg c21] at H
                    exact absurd H (by simp)
                  ·rw [if_neg c20] at H
                   exact absurd H (by simp)
                 ·rw [if_neg c19] at H
                  exact absurd H (by simp)
                ·rw [if_neg c18] at H
                 exact absurd H (by simp)
               ·rw [if_neg c17] at H
                exact absurd H (by simp)
              ·rw [if_neg c16] at H
               exact absurd H (by simp)
             ·rw [if_neg c15] at H
              exact absurd H (by simp)
            ·rw [if_neg c14] at H
             have c14b0 : decide (x26_2 < (((rd_T53 l0 (rd t180 x16_1)).f1).length : Int)) = false := decide_eq_false c14
             clear c14
             by_cases c27 : 0 ≤ (rd t180 x16_1)
             ·rw [if_pos c27] at H
              have c27b0 : decide (0 ≤ (rd t180 x16_1)) = true := decide_eq_true c27
              clear c27
              by_cases c28 : (rd t180 x16_1) < (x4_2.length : Int)
              ·rw [if_pos c28] at H
               have c28b0 : decide ((rd t180 x16_1) < (x4_2.length : Int)) = true := decide_eq_true c28
               clear c28
               by_cases c29 : (rd t180 x16_1) < (l0.length : Int)
               ·rw [if_pos c29] at H
                have c29b0 : decide ((rd t180 x16_1) < (l0.length : Int)) = true := decide_eq_true c29
                clear c29
                obtain ⟨ji30, hji30⟩ : ∃ j_ : Int, (mx x5_1 (wrap64 ((rd x4_2 (rd t180 x16_1)) + ((rd_T53 l0 (rd t180 x16_1)).f0)))) = j_ := ⟨_, rfl⟩
                replace H : (impl_earliest.l0 k2 l0 x4_2 ji30 t180 (t180.length : Int) (wrap64 (x16_1 + 1))) = some (r1, r2) := by first | (rw [hji30] at H; exact H) | (simp only [hji30] at H ⊢; exact H)
                have hji30_ : (if x5_1 < (wrap64 ((rd x4_2 (rd t180 x16_1)) + ((rd_T53 l0 (rd t180 x16_1)).f0))) then (wrap64 ((rd x4_2 (rd t180 x16_1)) + ((rd_T53 l0 (rd t180 x16_1)).f0))) else x5_1) = ji30 := hji30
                have H' := Aside0.mk H
                clear H
                try go_wp2
                have n0_ := Aside0.mk (Kd.R_drew HO_4.out)
                have n1_ := Aside0.mk (Kd.R_drew HO_14.out)
                have n2_ := Aside0.mk (below_drew1 HB.out)
                clear HO_4
                clear HO_14
                clear HB
                have HO_4 := n0_
                have HO_14 := n1_
                have HB := n2_
                clear n0_ n1_ n2_
                obtain ⟨Ao32, co32, eo32⟩ := Kd.R_slice HO_4.out
                (first | subst eo32 | (injection eo32 with f1_ f2_ f3_; have f4_ := f1_.symm; have f5_ := f3_.symm; clear f1_ f2_ f3_; subst f4_; subst f5_))
                have p190 : 0 ≤ ((rd t180 x16_1) : Int) := of_decide_eq_true (by first | (with_reducible assumption) | assumption)
                have q190 : (rd t180 x16_1) < (x4_2.length : Int) := of_decide_eq_true (by first | (with_reducible assumption) | assumption)
                obtain ⟨ad190, e190, hx190_0⟩ := Kd.at_int (Kd.R_reads' HO_4.out).2.2 (rd t180 x16_1) p190 q190
                cases e190
                replace p190 := eq_true p190
                replace q190 := eq_true q190
                have p191 : 0 ≤ ((rd t180 x16_1) : Int) := of_decide_eq_true (by first | (with_reducible assumption) | assumption)
                have q191 : (rd t180 x16_1) < (l0.length : Int) := of_decide_eq_true (by first | (with_reducible assumption) | assumption)
                obtain ⟨ad191, A191_1, c191_1, e191, hx191_0, hx191_1, hl191_1, hi191_1⟩ := at_T53 HR0.out (rd t180 x16_1) p191 q191
                have hw191_1 := hx191_1
                have hw191_0 := hx191_0
                obtain rfl : ad184 = ad191 := (by injection e191)
                try replace hx191_0 := (HB.out.cell (World.block_lt_of_cell? w _ hx191_0)).trans hx191_0
                try replace hx191_1 := (HB.out.cell (World.block_lt_of_cell? w _ hx191_1)).trans hx191_1
                have HR191_1 := Aside0.mk hi191_1
                have HC191_1 := Aside0.mk hl191_1
                clear hi191_1 hl191_1
                replace p191 := eq_true p191
                replace q191 := eq_true q191
                refine start_ (n := 13) (S := fun w' => w'.cell? (ad190.add ((rd t180 x16_1)).toNat) = some (.int .i64 (rd x4_2 (rd t180 x16_1))) ∧ w'.cell? (ad184.add (((rd t180 x16_1)).toNat * 2)) = some (.int .i64 ((rd_T53 l0 (rd t180 x16_1)).f0)) ∧ w'.cell? ⟨(ad184.add (((rd t180 x16_1)).toNat * 2)).block, (ad184.add (((rd t180 x16_1)).toNat * 2)).off + 1, none⟩ = some (.slice A191_1 ((rd_T53 l0 (rd t180 x16_1)).f1).length c191_1)) (ds := []) #[false, false, false, false, false, false, false, false, false, false, false, false, false] (by kernel_rfl) rfl rfl ⟨hx190_0, ((HB.out.cell (World.block_lt_of_cell? w _ hw191_0)).trans hw191_0), ((HB.out.cell (World.block_lt_of_cell? w _ hw191_1)).trans hw191_1)⟩ (fun hHeld => ?_); refine with_tabW impl_earliest.tab10 impl_earliest.bits10 (fun HT_ HW_ => ?_)
                generalize wr.drew = w31 at HO_4 HO_14 HB HR191_1 hx190_0 hx191_0 hx191_1 hHeld ⊢
                refine pure_ (i := 0) (N := some 49) (v := ?_) (a' := ?_) #[true, false, false, false, false, false, false, false, false, false, false, false, false] rfl rfl (any_of HT_.out (by kernel_rfl)) (fun _ _ _ h => h) (Or.inl ⟨by rfl, ?_⟩) ?_ ?_
                rotate_left
                ·intro w'
                 go_simp
                 with_reducible rfl
                rotate_left
                ·simp only [Act.put, List.setIfInBounds_toArray, List.set_cons_zero, List.set_cons_succ, i64_w, i32_w]
                 rfl
                refine pure_ (i := 1) (N := some 50) (v := ?_) (a' := ?_) #[true, true, false, false, false, false, false, false, false, false, false, false, false] rfl rfl (any_of HT_.out (by kernel_rfl)) (fun _ _ _ h => h) (Or.inl ⟨by rfl, ?_⟩) ?_ ?_
                rotate_left
                ·intro w'
                 go_simp
                 with_reducible rfl
                rotate_left
                ·simp only [Act.put, List.setIfInBounds_toArray, List.set_cons_zero, List.set_cons_succ, i64_w, i32_w]
                 rfl
                refine pure_ (i := 2) (N := some 51) (v := ?_) (a' := ?_) #[true, true, true, false, false, false, false, false, false, false, false, false, false] rfl rfl (any_of HT_.out (by kernel_rfl)) (fun _ _ _ h => h) (Or.inl ⟨by rfl, ?_⟩) ?_ ?_
                rotate_left
                ·intro w'
                 go_simp
                 with_reducible rfl
                rotate_left
                ·simp only [Act.put, List.setIfInBounds_toArray, List.set_cons_zero, List.set_cons_succ, i64_w, i32_w]
                 rfl
                refine pure_ (i := 3) (N := some 52) (v := ?_) (a' := ?_) #[true, true, true, true, false, false, false, false, false, false, false, false, false] rfl rfl (any_of HT_.out (by kernel_rfl)) (fun _ _ _ h => h) (Or.inl ⟨by rfl, ?_⟩) ?_ ?_
                rotate_left
                ·intro w'
                 go_simp
                 with_reducible rfl
                rotate_left
                ·simp only [Act.put, List.setIfInBounds_toArray, List.set_cons_zero, List.set_cons_succ, i64_w, i32_w]
                 rfl
                refine pure_ (i := 5) (N := some 54) (v := ?_) (a' := ?_) #[true, true, true, true, false, true, false, false, false, false, false, false, false] rfl rfl (any_of HT_.out (by kernel_rfl)) (fun _ _ _ h => h) (Or.inl ⟨by rfl, ?_⟩) ?_ ?_
                rotate_left
                ·intro w'
                 go_simp
                 with_reducible rfl
                rotate_left
                ·simp only [Act.put, List.setIfInBounds_toArray, List.set_cons_zero, List.set_cons_succ, i64_w, i32_w]
                 rfl
                refine pure_ (i := 6) (N := some 55) (v := ?_) (a' := ?_) #[true, true, true, true, false, true, true, false, false, false, false, false, false] rfl rfl (any_of HT_.out (by kernel_rfl)) (fun _ _ _ h => h) (Or.inl ⟨by rfl, ?_⟩) ?_ ?_
                rotate_left
                ·intro w'
                 go_simp
                 with_reducible rfl
                rotate_left
                ·simp only [Act.put, List.setIfInBounds_toArray, List.set_cons_zero, List.set_cons_succ, i64_w, i32_w]
                 rfl
                refine pure_ (i := 7) (N := some 56) (v := ?_) (a' := ?_) #[true, true, true, true, false, true, true, true, false, false, false, false, false] rfl rfl (any_of HT_.out (by kernel_rfl)) (fun _ _ _ h => h) (Or.inl ⟨by rfl, ?_⟩) ?_ ?_
                rotate_left
                ·intro w'
                 go_simp
                 with_reducible rfl
                rotate_left
                ·simp only [Act.put, List.setIfInBounds_toArray, List.set_cons_zero, List.set_cons_succ, i64_w, i32_w]
                 rfl
                refine pure_ (i := 8) (N := some 57) (v := ?_) (a' := ?_) #[true, true, true, true, false, true, true, true, true, false, false, false, false] rfl rfl (any_of HT_.out (by kernel_rfl)) (fun _ _ _ h => h) (Or.inl ⟨by rfl, ?_⟩) ?_ ?_
                rotate_left
                ·intro w'
                 go_simp
                 with_reducible rfl
                rotate_left
                ·simp only [Act.put, List.setIfInBounds_toArray, List.set_cons_zero, List.set_cons_succ, i64_w, i32_w]
                 rfl
                refine take_ (i := 4) (N := some 53) (v := ?_) (a' := ?_) #[true, true, true, true, true, true, true, true, true, false, false, false, false] rfl rfl (take_ofW HT_.out HW_.out (by kernel_rfl)) (fun _ _ _ h => h) (Or.inl ⟨by rfl, ?_⟩) hHeld ?_ ?_
                rotate_left
                ·rintro w' ⟨s0, s1, s2⟩
                 go_simp
                 with_reducible rfl
                rotate_left
                ·simp only [Act.put, List.setIfInBounds_toArray, List.set_cons_zero, List.set_cons_succ, i64_w, i32_w]
                 rfl
                refine take_ (i := 9) (N := some 58) (v := ?_) (a' := ?_) #[true, true, true, true, true, true, true, true, true, true, false, false, false] rfl rfl (take_ofW HT_.out HW_.out (by kernel_rfl)) (fun _ _ _ h => h) (Or.inl ⟨by rfl, ?_⟩) hHeld ?_ ?_
                rotate_left
                ·rintro w' ⟨s0, s1, s2⟩
                 go_simp
                 with_reducible rfl
                rotate_left
                ·simp only [Act.put, List.setIfInBounds_toArray, List.set_cons_zero, List.set_cons_succ, i64_w, i32_w]
                 rfl
                refine pure_ (i := 10) (N := some 59) (v := ?_) (a' := ?_) #[true, true, true, true, true, true, true, true, true, true, true, false, false] rfl rfl (any_of HT_.out (by kernel_rfl)) (fun _ _ _ h => h) (Or.inl ⟨by rfl, ?_⟩) ?_ ?_
                rotate_left
                ·intro w'
                 go_simp
                 with_reducible rfl
                rotate_left
                ·simp only [Act.put, List.setIfInBounds_toArray, List.set_cons_zero, List.set_cons_succ, i64_w, i32_w]
                 rfl
                refine pure_ (i := 11) (N := some 60) (v := ?_) (a' := ?_) #[true, true, true, true, true, true, true, true, true, true, true, true, false] rfl rfl (any_of HT_.out (by kernel_rfl)) (fun _ _ _ h => h) (Or.inl ⟨by rfl, ?_⟩) ?_ ?_
                rotate_left
                ·intro w'
                 go_simp
                 with_reducible rfl
                rotate_left
                ·simp only [Act.put, List.setIfInBounds_toArray, List.set_cons_zero, List.set_cons_succ, i64_w, i32_w]
                 rfl
                refine pure_ (i := 12) (N := some 5) (v := ?_) (a' := ?_) #[true, true, true, true, true, true, true, true, true, true, true, true, true] rfl rfl (any_of HT_.out (by kernel_rfl)) (fun _ _ _ h => h) (Or.inl ⟨by rfl, ?_⟩) ?_ ?_
                rotate_left
                ·intro w'
                 go_simp
                 with_reducible rfl
                rotate_left
                ·simp only [Act.put, List.setIfInBounds_toArray, List.set_cons_zero, List.set_cons_succ, i64_w, i32_w]
                 rfl
                refine done_ (done_of HT_.out (by kernel_rfl)) ?_
                try go_wp2
                go_roundg k2
                case measure => have := HK1.out; have := HK2.out; omega
                case rel => exact ⟨(x4_2), (ji30), (wrap64 (x16_1 + 1)), (by first | rfl | (simp; done) | (simp only [← hji30] <;> (first | rfl | simp)) | (simp [*]; done)), (by first | rfl | (simp; done) | (simp [*]; done)), H', ⟨by have := HK1.out; have := HK2.out; omega⟩, ⟨by (with_reducible repeat (first | apply Kd.R_alloc | apply Kd.R_drewN | apply Kd.R_drew)); exact HO_4.out⟩, ⟨by (with_reducible repeat (first | apply Kd.R_alloc | apply Kd.R_drewN | apply Kd.R_drew)); exact HO_14.out⟩, ⟨by repeat (first | (with_reducible first | exact HB.out | apply below_alloc | apply pw_below_drewN | apply below_drew1) | exact HB.out)⟩⟩
               ·rw [if_neg c29] at H
                exact absurd H (by simp)
              ·rw [if_neg c28] at H
               exact absurd H (by simp)
             ·rw [if_neg c27] at H
              exact absurd H (by simp)
         ·rw [if_neg c13] at H
          exact absurd H (by simp)
        ·rw [if_neg c12] at H
         exact absurd H (by simp)
       ·rw [if_neg c11] at H
        exact absurd H (by simp)
      ·rw [if_neg c10] at H
       exact absurd H (by simp)
     ·rw [if_neg c9] at H
      have c9b0 : decide (x16_1 < (t180.length : Int)) = false := decide_eq_false c9
      clear c9
      simp only [Option.some.injEq, Prod.mk.injEq] at H
      obtain ⟨rfl, rfl⟩ := H
      go_wp2
      go_ret2
      exact ⟨_, by first | rfl | (simp [errW_none, errW_some] <;> rfl) | (simp [*, errW_none, errW_some] <;> rfl), by (with_reducible repeat (first | apply Kd.R_alloc | apply Kd.R_drewN | apply Kd.R_drew)); exact Kd.R_mono HO_4.out (fun _ hk => trivial), by repeat (first | (with_reducible first | exact HB.out | apply below_alloc | apply pw_below_drewN | apply below_drew1) | exact HB.out)⟩
  ·rw [if_neg c3] at H
   exact absurd H (by simp)
 ·rw [if_neg c2] at H
  exact absurd H (by simp)

/-! ### slices_Backward_int_int: function 55, by hand; a text alone -/
attribute [local go_sem] Oper.semAt_some
/-- what the body of a loop keeps: all blocks below N but g -/
def KpB (N g : Nat) (W W' : World) : Prop := W.heap.size ≤ W'.heap.size ∧ ∀ k, k < N → k ≠ g → W'.heap[k]? = W.heap[k]?
theorem bel2 {w W w1 : World} (h : Below w.heap.size w W) (hb : Below W.heap.size W w1) : Below w.heap.size w w1 := below_then h h.size hb
theorem KpB.refl (N g : Nat) (W : World) : KpB N g W W := ⟨Nat.le_refl _, fun _ _ _ => rfl⟩
theorem KpB.trans {N g : Nat} {A B C : World} (h : KpB N g A B) (h' : KpB N g B C) : KpB N g A C := ⟨Nat.le_trans h.1 h'.1, fun k h1 h2 => (h'.2 k h1 h2).trans (h.2 k h1 h2)⟩
theorem KpB.putObj {N g : Nat} (W : World) (l : Nat) (o' : Obj) (h : N ≤ l) : KpB N g W (W.putObj l o') :=
 ⟨by simp, fun k h1 _ => World.putObj_heap_other (by omega)⟩
theorem KpB.of_below {N g B : Nat} {W W' : World} (h : Below B W W') (hN : N ≤ B) : KpB N g W W' := ⟨h.size, fun k h1 _ => h.block k (by omega)⟩
set_option maxRecDepth 100000 in
set_option maxHeartbeats 2000000 in
theorem bw1_in {α : Type} (encs : α → Array Value) (ys : List α) (N g : Nat) (l Bs len c : Nat) (A : Option Addr) (zs : List Int) (hlen : zs.length = len) (hBs : Bs < N ∧ Bs ≠ g)
  (hys : ys.length = len)
  (hf : ∀ j (h : j < ys.length), encs (ys[j]'h) = #[.int .i64 ((len - 1 - j : Nat) : Int), .int .i64 (rd zs ((len - 1 - j : Nat) : Int))])
  (J Jx : List α → World → Prop)
  (hY : ∀ pre x W, J pre W → pre.length < len → YieldAt Fence.wide 1 Try.prog l (encs x) W fun e W' =>
   (e = .returned (.bool true) ∧ J (pre ++ [x]) W' ∧ KpB N g W W') ∨ (e = .returned (.bool false) ∧ Jx (pre ++ [x]) W'))
  (W : World) (base : Nat) (hb : W.heap[Bs]? = some (.cells #[.slice A len c] 29 (0, 0))) (hR : Kd.R (Kd.int .i64) 3 W base (fun k => k < N ∧ k ≠ g) (.slice A len c) zs) (h0 : J [] W) :
  CallsIn Fence.wide 2 Try.prog 69 #[.func (.yield l) #[] #[], .pointer (some ⟨Bs, 0, none⟩)] W fun e W' => (∃ v, e = .returned v) ∧
   ((∃ zs, zs = ys ∧ J zs W') ∨ (∃ pre, True ∧ Jx pre W')) := by
 have HB := Aside0.mk hb
 have HR := Aside0.mk hR
 have HL := Aside0.mk hlen
 have HF := Aside0.mk hf
 have hz : W.cell? ⟨Bs, 0, none⟩ = some (.slice A len c) := (blk_cell hb 0).trans rfl
 have hmax : len ≤ 9223372036854775807 := by have := (Kd.R_reads' hR).2.2.2.1; omega
 clear hb hR hlen hf
 refine callsIn_of_wp Try.func69 rfl trivial ?_ rfl
 simp only [Try.ntmps69, List.size_toArray, List.length_cons, List.length_nil, Nat.reduceAdd, Nat.reduceSub, Array.replicate_succ, Array.replicate_zero, List.push_toArray, List.append_toArray, List.nil_append, List.cons_append]
 gi_wp2
 gi_loopw [3] (fun i wr => ∃ k : Nat, k ≤ len ∧ i = .int .i64 ((len : Int) - 1 - (k : Int)) ∧ J (ys.take k) wr ∧ Aside0 (KpB N g W wr)) (fun i _ => (intOf i + 1).toNat)
 case atStart => exact ⟨0, Nat.zero_le _, by congr 1; first | rfl | omega | (unfold wrap64; omega), by simpa using h0, ⟨KpB.refl _ _ _⟩⟩
 case round =>
  obtain ⟨k, hk, rfl, hJs, HK⟩ := hrel
  have hzr : wr.cell? ⟨Bs, 0, none⟩ = some (.slice A len c) := (blk_cell ((HK.out.2 Bs hBs.1 hBs.2).trans HB.out) 0).trans rfl
  by_cases hlt : k < len
  ·have hRr := (Kd.R_reads' (Kd.R_move HR.out (fun k hk => HK.out.2 k hk.1 hk.2))).2.2
   obtain ⟨ad, e0, hcell⟩ := Kd.at_int hRr ((len - 1 - k : Nat) : Int) (by omega) (by have := HL.out; omega)
   subst e0
   rw [Int.toNat_natCast] at hcell
   obtain ⟨fn, tmps, assign, body, hy, hR⟩ := hY _ (ys[k]'(by omega)) wr hJs (by rw [List.length_take]; omega)
   rw [HF.out k (by omega)] at hy
   have hcast : ((len - 1 - k : Nat) : Int) = (len : Int) - 1 - (k : Int) := by omega
   have hnat : ((len : Int) - 1 - (k : Int)).toNat = len - 1 - k := by omega
   obtain ⟨v, hv⟩ : ∃ v, v = rd zs ((len - 1 - k : Nat) : Int) := ⟨_, rfl⟩
   rw [← hv] at hcell hy
   rw [hcast] at hy
   have p0 : 0 ≤ (len : Int) - 1 - (k : Int) := by omega
   have p1 : (len : Int) - 1 - (k : Int) < len := by omega
   clear hcast hnat hv hRr
   gi_wp2
   refine hR.mono ?_
   rintro e W3 (⟨rfl, hJ3, hk3⟩ | ⟨rfl, hJx3⟩)
   ·gi_wp2
    go_roundw
    case rel => exact ⟨k + 1, by omega, by congr 1; first | omega | (unfold wrap64; omega), by rw [List.take_succ_eq_append_getElem (by omega)]; exact hJ3, ⟨HK.out.trans hk3⟩⟩
    case measure => simp [intOf]; omega
   ·gi_wp2
    refine bodyPost_ret (results_none rfl _ _ _) rfl ?_
    exact ⟨⟨_, rfl⟩, .inr ⟨_, trivial, hJx3⟩⟩
  ·obtain rfl : k = len := by omega
   gi_wp2
   go_end0
   exact ⟨⟨_, rfl⟩, .inl ⟨_, rfl, by rw [List.take_of_length_le (by omega)] at hJs; exact hJs⟩⟩

theorem rows_in {l n : Nat} {P : Program} {row : String} {args : Array Value} {w : World} {R : Value → World → Prop} (h : Rows P row args w R) : RowsIn (Fence.wide.inRound l) n P row args w R :=
 fun c cs _ => let ⟨v, w', r, s⟩ := h c cs; ⟨v, w', r, stepsIn_wide.2 s⟩
theorem oper_in {l n : Nat} {P : Program} {o : Oper} {a : Act} {w : World} {K : Act → World → Prop} {Q : Exit → Act → World → Prop} (hd : ∀ c, o.op ≠ .defer c) (h : Oper.wp P o a w K Q) : Oper.wpIn (Fence.wide.inRound l) n P o a w K Q := by
 unfold Oper.wpIn
 refine ⟨fun _ _ => trivial, ?_⟩
 rw [Oper.semAt_eq _ _ _ hd]
 unfold Oper.wp at h
 generalize (execOp a.eval o).run P w = r at h
 cases r with
 | ok x w' =>
  cases x <;> simp only [Oper.upon, Oper.uponIn] at h ⊢ <;> first
   | exact h
   | exact ⟨(fun h => by cases h), callsIn_wide.2 h⟩
   | exact ⟨(fun h => by cases h), rows_in h⟩
   | exact h.elim
 | halt x w' => cases x <;> simp only [Oper.upon, Oper.uponIn] at h ⊢ <;> exact h
theorem wpOp_in {l n : Nat} {P : Program} {ops : Array Oper} {Q : Exit → Act → World → Prop} {i : Nat} {K : Act → World → Prop} {a : Act} {w : World} (hd : ∀ (o : Oper), ops[i]? = some o → ∀ c, o.op ≠ .defer c) (hQ : ¬ LetsOut Q) (h : wpOp P ops Q i K a w) : wpOpIn (Fence.wide.inRound l) n P ops Q i K a w := by
 unfold wpOp at h
 unfold wpOpIn
 cases ho : ops[i]? with
 | none => rw [ho] at h; exact h
 | some o =>
  rw [ho] at h
  simp only at h ⊢
  split
  ·rename_i hw
   rw [if_pos hw] at h
   rcases h with h | h
   ·exact oper_in (hd o ho) h
   ·exact absurd h.2 hQ
  ·rename_i hw
   rw [if_neg hw] at h
   exact ⟨fun _ _ => trivial, h⟩
theorem wpAny_in {l n : Nat} {P : Program} {md : Region.Mode} {ops : Array Oper} {Q : Exit → Act → World → Prop} (hd : ∀ (i : Nat) (o : Oper), ops[i]? = some o → ∀ c, o.op ≠ .defer c) (hQ : ¬ LetsOut Q) : ∀ (fuel : Nat) (listed : Array Bool) (a : Act) (w : World), wpAny P md ops Q fuel listed a w → wpAnyIn (Fence.wide.inRound l) n P md ops Q fuel listed a w
 | 0, _, _, _, h => h
 | fuel + 1, listed, a, w, h => ⟨h.1, fun i hi => wpOpIn_mono (fun a' w' h' => wpAny_in hd hQ fuel _ a' w' h') (wpOp_in (hd i) hQ (h.2 i hi))⟩
def noDefer (ops : Array Oper) : Bool := ops.toList.all fun o => match o.op with | .defer _ => false | _ => true
theorem noDefer_spec {ops : Array Oper} (h : noDefer ops = true) : ∀ (i : Nat) (o : Oper), ops[i]? = some o → ∀ c, o.op ≠ .defer c := fun i o ho c e => by
 have := List.all_eq_true.1 h o (by rw [Array.getElem?_eq_some_iff] at ho; obtain ⟨h1, rfl⟩ := ho; simp)
 rw [e] at this
 cases this
def OnlyN (Q : Exit → Act → World → Prop) : Exit → Act → World → Prop
 | .normal, a, w => Q .normal a w
 | _, _, _ => False
theorem OnlyN.imp {Q : Exit → Act → World → Prop} : ∀ (e : Exit) (a : Act) (w : World), OnlyN Q e a w → Q e a w := fun e a w h => by cases e <;> first | exact h | exact h.elim
theorem OnlyN.n {Q : Exit → Act → World → Prop} {a : Act} {w : World} (h : Q .normal a w) : OnlyN Q .normal a w := h
theorem OnlyN.out {Q : Exit → Act → World → Prop} : ¬ LetsOut (OnlyN Q) := fun ⟨_, _, h⟩ => h
/-- a region of a round: walked as everywhere -/
theorem startIn_ {P : Program} {ops : Array Oper} {Q : Exit → Act → World → Prop} {S : World → Prop} {ds : List Nat} {lp m : Nat} {id n : Nat} {a : Act} {w : World} (l : Array Bool) (hm : P.follows .mixedOrders = true) (hn : ops.size = n) (hl : Array.replicate n false = l) (hnd : noDefer ops = true) (hS : S w.drew)
  (h : S w.drew → wpAnyLast P .any ops (OnlyN Q) S ds n l a w.drew) : (Code.region id ops true).wpIn (Fence.wide.inRound lp) m P Q a w := by
 subst hn
 subst hl
 exact wpIn_mono (wpIn_region_any hm (wpAny_in (noDefer_spec hnd) OnlyN.out _ _ _ _ (wpAny_of_last _ _ _ _ (h hS)))) OnlyN.imp
structure TJ {α : Type} (d : Kd α) (e gL gb gd N B len : Nat) (oL oB : Obj) (w W W' : World) (t : List α) : Prop where
 b1 : W'.heap[gL]? = some oL
 b2 : W'.heap[gb]? = some oB
 b3 : d.R e W' w.heap.size (fun k => k = gd) (.slice (some ⟨gd, 0, none⟩) len len) t
 bel : Below w.heap.size w W'
 kp : KpB N gd W W'
 kf : KeepsFrom B W W'
theorem TJ.drew {α : Type} {d : Kd α} {e gL gb gd N B len : Nat} {oL oB : Obj} {w W W' : World} {t : List α} (h : TJ d e gL gb gd N B len oL oB w W W' t) : TJ d e gL gb gd N B len oL oB w W W'.drew t :=
 ⟨h.b1, h.b2, Kd.R_drew h.b3, below_drew h.bel, h.kp, h.kf.trans ((KeepsOthers.drew W').from B)⟩
theorem TJ.put {α : Type} {enc : α → Value} {h1 : ∀ x, (enc x).oneCell' = true} {e gL gb gd N B len : Nat} {oL oB : Obj} {w W W' : World} {t : List α} (h : TJ (Kd.scalar enc h1) e gL gb gd N B len oL oB w W W' t) (i : Nat) (x : α) (hg : w.heap.size ≤ gd) (hL : gL ≠ gd) (hb : gb ≠ gd) : TJ (Kd.scalar enc h1) e gL gb gd N B len oL oB w W (W'.setCell ⟨gd, i, none⟩ (enc x)) (t.set i x) :=
 ⟨(Below.heap_setCell W' ⟨gd, i, none⟩ _ gL hL).trans h.b1, (Below.heap_setCell W' ⟨gd, i, none⟩ _ gb hb).trans h.b2, by have := Kd.R_putn h.b3 (i : Int) x; rwa [Int.toNat_natCast] at this, h.bel.setCell (p := ⟨gd, i, none⟩) hg _,
  ⟨Nat.le_trans h.kp.1 (KeepsOthers.setCell W' ⟨gd, i, none⟩ (enc x)).size, fun k h1 h2 => (Below.heap_setCell W' ⟨gd, i, none⟩ _ k h2).trans (h.kp.2 k h1 h2)⟩, h.kf.trans ((KeepsOthers.setCell W' ⟨gd, i, none⟩ (enc x)).from B)⟩

end Go.Proofs.Ytpgegjbnnbkhiaa.PFnExactCriticalOf
