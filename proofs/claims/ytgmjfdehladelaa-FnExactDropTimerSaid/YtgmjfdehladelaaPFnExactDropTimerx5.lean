-- written by xprint.py (a program of this session's, over the kit's print): printed functions, and some by hand
import Derived.Test.YtgmjfdehladelaaPFnExactDropTimerx0
namespace Go.Proofs.Ytgmjfdehladelaa.PFnExactDropTimer
open Go.RowKit Go.Proofs.YtgmjfdehladelaaW.PrintWords Go.Proofs.YtgmjfdehladelaaW.PrintLast Go.Proofs.YtgmjfdehladelaaW.PrintMore
attribute [local go_sem] max2_int min2_int max_two min_two max_three min_three max_four min_four   -- for this text's walks alone
set_option linter.unusedVariables false
set_option linter.unusedSimpArgs false

/-! ### spec_l5Own: function 56 -/
def spec_l5Own.l0 : Nat → List (List (S45)) → List (List (S45)) → Int → Int → Int → List (List (S45)) → Option (Int × (List (List (S45))))
  | 0, _, _, _, _, _, _ => none
  | k + 1, x3, x7, x8, x9, x163000, x163001 => if x9 < x8 then (if 0 ≤ x9 then (if x9 < (x7.length : Int) then ((some (([] : List (S45)) : List (S45))).bind fun y165 => (if y165.length + (rd_L2 x7 x9).length < 8796093022208 then (if x3.length < 5864062014805 then (spec_l5Own.l0 k (x3 ++ [(y165 ++ (rd_L2 x7 x9))]) x7 x8 (wrap64 (x9 + 1)) x163000 x163001) else (none)) else (none))) else (none)) else (none)) else (some (x163000, x3))
def spec_l5Own.f (k : Nat) (a0_0 : Int) (l0_1 : List (List (S45))) : Option (Int × (List (List (S45)))) := spec_l5Own.l0 k ([] : List (List (S45))) l0_1 (l0_1.length : Int) 0 a0_0 l0_1
theorem spec_l5Own.mono_l : ∀ k, (∀ y0 y1 y2 y3 y4 y5, LeO (spec_l5Own.l0 k y0 y1 y2 y3 y4 y5) (spec_l5Own.l0 (k + 1) y0 y1 y2 y3 y4 y5))
  | 0 => fun _ _ _ _ _ _ r h => by simp [spec_l5Own.l0] at h
  | k + 1 => by
    have ih0 := spec_l5Own.mono_l k
    · intro y0 y1 y2 y3 y4 y5
      unfold spec_l5Own.l0
      repeat' first
      | (with_reducible exact ih0 _ _ _ _ _ _)
      | (with_reducible exact LeO.refl _)
      | (with_reducible exact LeO.none _)
      | (with_reducible refine LeO.ite ?_ ?_)
      | (with_reducible refine LeO.bind ?_ (fun _ => ?_))
      | exact ih0 _ _ _ _ _ _
      | exact LeO.none _
      | refine LeO.ite ?_ ?_
      | refine LeO.bind ?_ (fun _ => ?_)
theorem spec_l5Own.mono : ∀ a0 a1 k, LeO (spec_l5Own.f k a0 a1) (spec_l5Own.f (k + 1) a0 a1) := by
  intro a0 a1 k
  have ih0 := spec_l5Own.mono_l k
  unfold spec_l5Own.f
  repeat' first
      | (with_reducible exact ih0 _ _ _ _ _ _)
      | (with_reducible exact LeO.refl _)
      | (with_reducible exact LeO.none _)
      | (with_reducible refine LeO.ite ?_ ?_)
      | (with_reducible refine LeO.bind ?_ (fun _ => ?_))
      | exact ih0 _ _ _ _ _ _
      | exact LeO.none _
      | refine LeO.ite ?_ ?_
      | refine LeO.bind ?_ (fun _ => ?_)
set_option maxHeartbeats 8000000 in
set_option maxRecDepth 100000 in
theorem spec_l5Own.calls (k : Nat) (a0_0 : Int) (A0_1 : Option Addr) (c0_1 : Nat) (l0_1 : List (List (S45))) (r1 : Int) (r2 : List (List (S45))) (w : World) (hr0_1 : Kd.C (Kd.slice 45 k45) w A0_1 l0_1.length l0_1) (hc0_1 : l0_1.length ≤ c0_1) (h : spec_l5Own.f k a0_0 l0_1 = some (r1, r2)) :
    Calls Try.prog 56 #[.agg #[.int .i64 a0_0, .slice A0_1 l0_1.length c0_1]] w fun e w' => ∃ v1_ : Value, e = .returned (.agg #[.int .i64 r1, v1_]) ∧ Kd.S (Kd.slice 45 k45) 48 w' w.heap.size (fun _ => True) v1_ r2 ∧ Below w.heap.size w w' := by
  have hu27 := Try.underlying27
  have HR0_1 := Aside0.mk hr0_1
  have HC0_1 := Aside0.mk hc0_1
  clear hr0_1 hc0_1
  have HB := Aside0.mk (Below.refl w.heap.size w)
  have H : (spec_l5Own.l0 k ([] : List (List (S45))) l0_1 (l0_1.length : Int) 0 a0_0 l0_1) = some (r1, r2) := h
  clear h
  have H' := Aside0.mk H
  clear H
  go_enter Try.func56, Try.ntmps56
  go_wp2_with (first | ((with_reducible refine gate_dst (N := 1) rfl ?_); refine box_event ?hg (N := 1) ?hd (cs := #[.int .i64 a0_0, .slice A0_1 l0_1.length c0_1]) (t := 27) ?hr ?_; (case hd => rfl); (case hg => rfl); (case hr => first | (go_simp; done) | (go_simp; rfl)); intro gb162 hg w2 hbox hb; have n0_ := Aside0.mk (below_step (by repeat (first | (with_reducible first | exact HB.out | apply below_alloc | apply pw_below_drewN | apply below_drew1) | exact HB.out)) hb); have n1_ := Aside0.mk (hbox); have n2_ := Aside0.mk ((by rw [hg]; exact (below_size (by repeat (first | (with_reducible first | exact HB.out | apply below_alloc | apply pw_below_drewN | apply below_drew1) | exact HB.out))) : w.heap.size ≤ gb162)); have n3_ := Aside0.mk ((by rw [hg]; exact (below_size (by repeat (first | (with_reducible first | exact HB.out | apply below_alloc | apply pw_below_drewN | apply below_drew1) | exact HB.out))) : w.heap.size ≤ gb162)); clear HB; have HB := n0_; have BK162 := n1_; have GW162 := n2_; have GE162 := n3_; clear n0_ n1_ n2_ n3_; clear hb hbox hg) | ((with_reducible refine gate_dst (N := 2) rfl ?_); refine box_event ?hg (N := 2) ?hd (cs := #[.int .i64 0, .slice none 0 0]) (t := 27) ?hr ?_; (case hd => rfl); (case hg => rfl); (case hr => first | (go_simp; done) | (go_simp; rfl)); intro gb163 hg w3 hbox hb; have n0_ := Aside0.mk (blk_below (g := gb162) (o := .cells #[.int .i64 a0_0, .slice A0_1 l0_1.length c0_1] 27 (0, 0)) (by (with_reducible repeat (first | refine blk_drewN ?_ _ | refine blk_drew ?_ | refine blk_alloc ?_ _)); exact BK162.out) hb); have n1_ := Aside0.mk (below_step (by repeat (first | (with_reducible first | exact HB.out | apply below_alloc | apply pw_below_drewN | apply below_drew1 | refine below_set ?_ GE162.out) | exact HB.out)) hb); have n2_ := Aside0.mk (hbox); have n3_ := Aside0.mk ((by rw [hg]; exact (below_size (by repeat (first | (with_reducible first | exact HB.out | apply below_alloc | apply pw_below_drewN | apply below_drew1 | refine below_set ?_ GE162.out) | exact HB.out))) : w.heap.size ≤ gb163)); have n4_ := Aside0.mk ((by rw [hg]; exact (below_size (by repeat (first | (with_reducible first | exact HB.out | apply below_alloc | apply pw_below_drewN | apply below_drew1 | refine below_set ?_ GE162.out) | exact HB.out))) : w.heap.size ≤ gb163)); have n5_ := Aside0.mk ((by rw [hg]; exact Nat.ne_of_lt (blk_lt (g := gb162) (o := .cells #[.int .i64 a0_0, .slice A0_1 l0_1.length c0_1] 27 (0, 0)) (by (with_reducible repeat (first | refine blk_drewN ?_ _ | refine blk_drew ?_ | refine blk_alloc ?_ _)); exact BK162.out)) : gb162 ≠ gb163)); have n6_ := Aside0.mk ((by rw [hg]; exact Nat.ne_of_gt (blk_lt (g := gb162) (o := .cells #[.int .i64 a0_0, .slice A0_1 l0_1.length c0_1] 27 (0, 0)) (by (with_reducible repeat (first | refine blk_drewN ?_ _ | refine blk_drew ?_ | refine blk_alloc ?_ _)); exact BK162.out)) : gb163 ≠ gb162)); clear BK162; clear HB; have BK162 := n0_; have HB := n1_; have BK163 := n2_; have GW163 := n3_; have GE163 := n4_; have NB162_163 := n5_; have NB163_162 := n6_; clear n0_ n1_ n2_ n3_ n4_ n5_ n6_; clear hb hbox hg; have hnb4 := NB162_163.out; have hnc4 := NB163_162.out; have hcz5_0 : w3.cell? ⟨gb162, 0, none⟩ = some (.int .i64 a0_0) := (blk_cell BK162.out 0).trans rfl; have hcz5_1 : w3.cell? ⟨gb162, 1, none⟩ = some (.slice A0_1 l0_1.length c0_1) := (blk_cell BK162.out 1).trans rfl; have hfz5_0 := blk_frozen BK162.out 0; have hfz5_1 := blk_frozen BK162.out 1))
  go_loopg [3, 9] k (fun kq v3 v9 w' => ∃ (x3_1 : List (List (S45))) (x9_1 : Int), v9 = .int .i64 x9_1 ∧ Aside0 (spec_l5Own.l0 kq x3_1 l0_1 (l0_1.length : Int) x9_1 a0_0 l0_1 = some (r1, r2)) ∧ Aside0 (kq ≤ k) ∧ Aside0 (Kd.S (Kd.slice 45 k45) 48 w' w.heap.size (fun _ => True) v3 x3_1) ∧ Aside0 (w'.heap[gb162]? = some (.cells #[.int .i64 a0_0, (.slice A0_1 l0_1.length c0_1)] 27 (0, 0))) ∧ Aside0 (w'.heap[gb163]? = some (.cells #[.int .i64 0, (.slice none 0 0)] 27 (0, 0))) ∧ Aside0 (Below w.heap.size w w'))
  case atStart => exact ⟨(([] : List (List (S45)))), (0), (by first | rfl | (simp; done) | (simp [*]; done) | (simp; exact (fun l : List UInt8 => (by cases l <;> rfl : l.isEmpty = !(l != []))) _)), H', ⟨Nat.le_refl _⟩, ⟨by first | exact Kd.S_nil _ _ _ _ _ | exact Kd.N_nil _ _ _ _ _ | exact Kd.V_nil _ _ _ _ _ | exact Kd.Q_nil _ _ _ _ _ | exact Kd.R_nil _ _ _ _ _⟩, ⟨by (with_reducible repeat (first | refine blk_drewN ?_ _ | refine blk_drew ?_ | refine blk_alloc ?_ _)); exact BK162.out⟩, ⟨by (with_reducible repeat (first | refine blk_drewN ?_ _ | refine blk_drew ?_ | refine blk_alloc ?_ _)); exact BK163.out⟩, ⟨by repeat (first | (with_reducible first | exact HB.out | apply below_alloc | apply pw_below_drewN | apply below_drew1 | refine below_set ?_ GE162.out | refine below_set ?_ GE163.out) | exact HB.out)⟩⟩
  case round =>
    clear H'
    try clear p2
    try clear c4
    try clear c5
    try clear hcz5_0
    try clear hcz5_1
    try clear hfz5_0
    try clear hfz5_1
    obtain ⟨x3_1, x9_1, rfl, HA, HK1, HO_3, BK162, BK163, HB⟩ := hrel
    cases gk with
    | zero => exact absurd HA.out (by simp [spec_l5Own.l0])
    | succ k1 =>
      have H := HA.out
      clear HA
      simp only [spec_l5Own.l0] at H
      by_cases c6 : x9_1 < (l0_1.length : Int)
      · rw [if_pos c6] at H
        have c6b0 : decide (x9_1 < (l0_1.length : Int)) = true := decide_eq_true c6
        clear c6
        by_cases c7 : 0 ≤ x9_1
        · rw [if_pos c7] at H
          have c7b0 : decide (0 ≤ x9_1) = true := decide_eq_true c7
          clear c7
          by_cases c8 : x9_1 < (l0_1.length : Int)
          · rw [if_pos c8] at H
            have c8b0 : decide (x9_1 < (l0_1.length : Int)) = true := decide_eq_true c8
            clear c8
            obtain ⟨y165, hy165⟩ : ∃ y_ : List (S45), y_ = (([] : List (S45))) := ⟨_, rfl⟩
            replace H : (if y165.length + (rd_L2 l0_1 x9_1).length < 8796093022208 then (if x3_1.length < 5864062014805 then (spec_l5Own.l0 k1 (x3_1 ++ [(y165 ++ (rd_L2 l0_1 x9_1))]) l0_1 (l0_1.length : Int) (wrap64 (x9_1 + 1)) a0_0 l0_1) else (none)) else (none)) = some (r1, r2) := by first | (rw [hy165]; with_reducible exact H) | (have H2_ := (Option.bind_some _ _).symm.trans H; rw [hy165]; with_reducible exact H2_) | (have H2_ := (Option.bind_some _ _).symm.trans H; with_reducible exact H2_) | with_reducible exact H | (rw [hy165]; exact H) | exact H
            have Ny165 := Aside0.mk hy165
            clear hy165
            by_cases c9 : y165.length + (rd_L2 l0_1 x9_1).length < 8796093022208
            · rw [if_pos c9] at H
              have LMc9 := Aside0.mk c9
              clear c9
              obtain ⟨y168, hy168⟩ : ∃ y_ : List (S45), y_ = (y165 ++ (rd_L2 l0_1 x9_1)) := ⟨_, rfl⟩
              replace H : (if x3_1.length < 5864062014805 then (spec_l5Own.l0 k1 (x3_1 ++ [y168]) l0_1 (l0_1.length : Int) (wrap64 (x9_1 + 1)) a0_0 l0_1) else (none)) = some (r1, r2) := by first | (rw [hy168]; with_reducible exact H) | (have H2_ := (Option.bind_some _ _).symm.trans H; rw [hy168]; with_reducible exact H2_) | (have H2_ := (Option.bind_some _ _).symm.trans H; with_reducible exact H2_) | with_reducible exact H | (rw [hy168]; exact H) | exact H
              have Ny168 := Aside0.mk hy168
              clear hy168
              by_cases c10 : x3_1.length < 5864062014805
              · rw [if_pos c10] at H
                have LMc10 := Aside0.mk c10
                clear c10
                obtain ⟨y171, hy171⟩ : ∃ y_ : List (List (S45)), y_ = (x3_1 ++ [y168]) := ⟨_, rfl⟩
                replace H : (spec_l5Own.l0 k1 y171 l0_1 (l0_1.length : Int) (wrap64 (x9_1 + 1)) a0_0 l0_1) = some (r1, r2) := by first | (rw [hy171]; with_reducible exact H) | (have H2_ := (Option.bind_some _ _).symm.trans H; rw [hy171]; with_reducible exact H2_) | (have H2_ := (Option.bind_some _ _).symm.trans H; with_reducible exact H2_) | with_reducible exact H | (rw [hy171]; exact H) | exact H
                have Ny171 := Aside0.mk hy171
                clear hy171
                have H' := Aside0.mk H
                clear H
                have p164 : 0 ≤ (x9_1 : Int) := of_decide_eq_true (by first | (with_reducible assumption) | assumption)
                have q164 : x9_1 < (l0_1.length : Int) := of_decide_eq_true (by first | (with_reducible assumption) | assumption)
                obtain ⟨ad164, A164_0, c164_0, e164, hx164_0, hl164_0, hi164_0⟩ := at_L2 HR0_1.out x9_1 p164 q164
                cases e164
                try replace hx164_0 := (HB.out.cell (World.block_lt_of_cell? w _ hx164_0)).trans hx164_0
                have HR164_0 := Aside0.mk hi164_0
                have HC164_0 := Aside0.mk hl164_0
                clear hi164_0 hl164_0
                replace p164 := eq_true p164
                replace q164 := eq_true q164
                go_wp2_with (first | ((with_reducible refine gate_dst (N := 14) rfl ?_); refine Kd.R_lit k45 _ 45 ?hg (N := 14) ?hd (xs := ([] : List (S45))) (inner := []) (ok := fun _ => True) (okp := fun _ => True) ?hr ?hp (fun _ hk => hk) trivial (Below.refl _ _) (Nat.le_refl _) (by simp) ?_; (case hd => rfl); (case hg => rfl); (case hr => first | (go_simp; done) | (go_simp; rfl)); (case hp => exact (Reps.none _ _)); intro v166 w11 ho12 hb hg_ hnew_; clear hg_ hnew_; (first | rw [← Ny165.out] at ho12 | (simp only [Int.reduceToNat] at ho12; rw [← Ny165.out] at ho12)); have n0_ := Aside0.mk (Kd.S_elder' (by (with_reducible repeat (first | apply Kd.S_alloc | apply Kd.S_drewN | apply Kd.S_drew)); exact HO_3.out) (Kd.R_base ho12) hb); have n1_ := Aside0.mk (Kd.R_lower ho12 (below_size (by repeat (first | (with_reducible first | exact HB.out | apply below_alloc | apply pw_below_drewN | apply below_drew1 | refine below_set ?_ GE162.out | refine below_set ?_ GE163.out) | exact HB.out)))); have n2_ := Aside0.mk (blk_below (g := gb162) (o := .cells #[.int .i64 a0_0, .slice (some ad164) l0_1.length c0_1] 27 (0, 0)) (by (with_reducible repeat (first | refine blk_drewN ?_ _ | refine blk_drew ?_ | refine blk_alloc ?_ _)); exact BK162.out) hb); have n3_ := Aside0.mk (blk_below (g := gb163) (o := .cells #[.int .i64 0, .slice none 0 0] 27 (0, 0)) (by (with_reducible repeat (first | refine blk_drewN ?_ _ | refine blk_drew ?_ | refine blk_alloc ?_ _)); exact BK163.out) hb); have n4_ := Aside0.mk (below_step (by repeat (first | (with_reducible first | exact HB.out | apply below_alloc | apply pw_below_drewN | apply below_drew1 | refine below_set ?_ GE162.out | refine below_set ?_ GE163.out) | exact HB.out)) hb); clear HO_3; clear BK162; clear BK163; clear HB; have HO_3 := n0_; have HO167 := n1_; have BK162 := n2_; have BK163 := n3_; have HB := n4_; clear n0_ n1_ n2_ n3_ n4_; clear hb ho12) | ((with_reducible refine gate_builtin (b := .append) (xs := #[.tmp 14, .tmp 15]) rfl ?_); at_builtin; refine Kd.R_append_rows k45 (w0 := w) w.heap.size rfl (.tmp 14) (.tmp 15) 48 45 (.agg #[(.int .i64 0), (.int .i64 0)]) 16 rfl Try.underlying48 info45 rfl (by decide) (by omega) v166 y165 (rd_L2 l0_1 x9_1) _ _ _ (fun _ => True) (fun _ => False) rfl rfl ?aO ?aR (fun _ _ h => h) (fun _ h => h.elim) ?aF ?aB ?aS ?aL ?_; (case aR => repeat (first | exact (Kd.C_below HR164_0.out HB.out) | (with_reducible refine Kd.C_alloc ?_ _) | (with_reducible refine Kd.C_drewN ?_ _) | (with_reducible refine Kd.C_drew ?_))); (case aB => exact (by repeat (first | (with_reducible first | exact HB.out | apply below_alloc | apply pw_below_drewN | apply below_drew1 | refine below_set ?_ GE162.out | refine below_set ?_ GE163.out) | exact HB.out))); (case aF => exact (fun _ _ => trivial)); (case aO => exact (by (with_reducible repeat (first | apply Kd.R_alloc | apply Kd.R_drewN | apply Kd.R_drew)); exact HO167.out)); (case aS => exact (below_size (by repeat (first | (with_reducible first | exact HB.out | apply below_alloc | apply pw_below_drewN | apply below_drew1 | refine below_set ?_ GE162.out | refine below_set ?_ GE163.out) | exact HB.out)))); (case aL => have := LMc9.out; omega); intro v169 w13 ho hb hg hat; rw [← Ny168.out] at ho; have n0_ := Aside0.mk (Kd.S_after (ok := (fun _ => True)) (by (with_reducible repeat (first | apply Kd.S_alloc | apply Kd.S_drewN | apply Kd.S_drew)); exact HO_3.out) hg hat); have n1_ := Aside0.mk (blk_grown (g := gb162) (o := .cells #[.int .i64 a0_0, .slice (some ad164) l0_1.length c0_1] 27 (0, 0)) (by (with_reducible repeat (first | refine blk_drewN ?_ _ | refine blk_drew ?_ | refine blk_alloc ?_ _)); exact BK162.out) hg (Kd.R_ne HO167.out BK162.out (by decide))); have n2_ := Aside0.mk (blk_grown (g := gb163) (o := .cells #[.int .i64 0, .slice none 0 0] 27 (0, 0)) (by (with_reducible repeat (first | refine blk_drewN ?_ _ | refine blk_drew ?_ | refine blk_alloc ?_ _)); exact BK163.out) hg (Kd.R_ne HO167.out BK163.out (by decide))); have n3_ := Aside0.mk (hb); have n4_ := Aside0.mk (ho); clear HO_3; clear BK162; clear BK163; clear HB; clear HO167; have HO_3 := n0_; have BK162 := n1_; have BK163 := n2_; have HB := n3_; have HO170 := n4_; clear n0_ n1_ n2_ n3_ n4_; clear ho hb hg hat; obtain ⟨Ao15, co15, eo15⟩ := Kd.R_slice HO170.out; subst eo15) | ((with_reducible refine gate_builtin (b := .append) (xs := #[.tmp 13, .tmp 17]) rfl ?_); at_builtin; refine Kd.S_append (Kd.slice 45 k45) (w0 := w) w.heap.size rfl (.tmp 13) (.tmp 17) 25 48 (.slice none 0 0) 24 rfl Try.underlying25 info48 rfl (by decide) (by omega) u3 x3_1 y168 [.slice Ao15 y168.length co15] (fun _ => True) (fun k_ => some k_ = (.slice Ao15 y168.length co15 : Value).ownBlock) rfl rfl ?aP (fun k_ hk_ => ((Kd.R_mono (ok' := fun k_ => ((fun _ => True)) k_ ∧ some k_ ≠ (u3 : Value).ownBlock) (Kd.R_apart' (HO170.out) (Kd.S_typed HO_3.out) (by decide)) (fun k_ hk => ⟨trivial, hk.2⟩))).1 k_ hk_.symm) ?aF ?aO ?aB ?aS ?aL ?_; (case aP => exact Kd.M_row (Kd.R_mono (Kd.R_tight rfl (Kd.R_mono (ok' := fun k_ => ((fun _ => True)) k_ ∧ some k_ ≠ (u3 : Value).ownBlock) (Kd.R_apart' (HO170.out) (Kd.S_typed HO_3.out) (by decide)) (fun k_ hk => ⟨trivial, hk.2⟩))) (fun _ h_ => h_))); (case aB => exact (by repeat (first | (with_reducible first | exact HB.out | apply below_alloc | apply pw_below_drewN | apply below_drew1 | refine below_set ?_ GE162.out | refine below_set ?_ GE163.out) | exact HB.out))); (case aF => exact (fun _ _ => trivial)); (case aO => exact (by (with_reducible repeat (first | apply Kd.S_alloc | apply Kd.S_drewN | apply Kd.S_drew)); exact Kd.S_mono HO_3.out (fun k_ hk => ⟨trivial, fun e_ => hk.2 e_⟩))); (case aS => exact (below_size (by repeat (first | (with_reducible first | exact HB.out | apply below_alloc | apply pw_below_drewN | apply below_drew1 | refine below_set ?_ GE162.out | refine below_set ?_ GE163.out) | exact HB.out)))); (case aL => have := LMc10.out; omega); intro v172 w14 ho hb hg hat; rw [← Ny171.out] at ho; have n0_ := Aside0.mk (blk_grown (g := gb162) (o := .cells #[.int .i64 a0_0, .slice (some ad164) l0_1.length c0_1] 27 (0, 0)) (by (with_reducible repeat (first | refine blk_drewN ?_ _ | refine blk_drew ?_ | refine blk_alloc ?_ _)); exact BK162.out) hg (Kd.S_ne HO_3.out BK162.out (by decide))); have n1_ := Aside0.mk (blk_grown (g := gb163) (o := .cells #[.int .i64 0, .slice none 0 0] 27 (0, 0)) (by (with_reducible repeat (first | refine blk_drewN ?_ _ | refine blk_drew ?_ | refine blk_alloc ?_ _)); exact BK163.out) hg (Kd.S_ne HO_3.out BK163.out (by decide))); have n2_ := Aside0.mk (hb); have n3_ := Aside0.mk (ho); clear BK162; clear BK163; clear HB; clear HO_3; clear HO170; have BK162 := n0_; have BK163 := n1_; have HB := n2_; have HO173 := n3_; clear n0_ n1_ n2_ n3_; clear ho hb hg hat))
                go_roundg k1
                case measure => have := HK1.out; omega
                case rel => exact ⟨(y171), (wrap64 (x9_1 + 1)), (by first | rfl | (simp; done) | (simp [*]; done) | (simp; exact (fun l : List UInt8 => (by cases l <;> rfl : l.isEmpty = !(l != []))) _)), H', ⟨by have := HK1.out; omega⟩, ⟨by (with_reducible repeat (first | apply Kd.S_alloc | apply Kd.S_drewN | apply Kd.S_drew)); exact HO173.out⟩, ⟨by (with_reducible repeat (first | refine blk_drewN ?_ _ | refine blk_drew ?_ | refine blk_alloc ?_ _)); exact BK162.out⟩, ⟨by (with_reducible repeat (first | refine blk_drewN ?_ _ | refine blk_drew ?_ | refine blk_alloc ?_ _)); exact BK163.out⟩, ⟨by repeat (first | (with_reducible first | exact HB.out | apply below_alloc | apply pw_below_drewN | apply below_drew1 | refine below_set ?_ GE162.out | refine below_set ?_ GE163.out) | exact HB.out)⟩⟩
              · rw [if_neg c10] at H
                exact absurd H (by simp)
            · rw [if_neg c9] at H
              exact absurd H (by simp)
          · rw [if_neg c8] at H
            exact absurd H (by simp)
        · rw [if_neg c7] at H
          exact absurd H (by simp)
      · rw [if_neg c6] at H
        have c6b0 : decide (x9_1 < (l0_1.length : Int)) = false := decide_eq_false c6
        try (have c6b0q := c6b0; rw [hl164_0] at c6b0q)
        clear c6
        simp only [Option.some.injEq, Prod.mk.injEq] at H
        obtain ⟨rfl, rfl⟩ := H
        obtain ⟨Ao16, co16, eo16⟩ := Kd.S_slice HO_3.out
        subst eo16
        have hnb17 := NB162_163.out
        have hnc17 := NB163_162.out
        have hcz18_0 : wr.cell? ⟨gb162, 0, none⟩ = some (.int .i64 a0_0) := (blk_cell BK162.out 0).trans rfl
        have hcz18_1 : wr.cell? ⟨gb162, 1, none⟩ = some (.slice A0_1 l0_1.length c0_1) := (blk_cell BK162.out 1).trans rfl
        have hfz18_0 := blk_frozen BK162.out 0
        have hfz18_1 := blk_frozen BK162.out 1
        have hcz19_0 : wr.cell? ⟨gb163, 0, none⟩ = some (.int .i64 0) := (blk_cell BK163.out 0).trans rfl
        have hcz19_1 : wr.cell? ⟨gb163, 1, none⟩ = some (.slice none 0 0) := (blk_cell BK163.out 1).trans rfl
        have hfz19_0 := blk_frozen BK163.out 0
        have hfz19_1 := blk_frozen BK163.out 1
        go_wp2
        refine bodyPost_ret (results_cell_row rfl _ _ gb163 27 #[.int .i64 a0_0, .slice Ao16 x3_1.length co16] (0, 0) _ rfl (by (with_reducible repeat (first | refine blk_drewN ?_ _ | refine blk_drew ?_ | refine blk_alloc ?_ _)); refine blk_put (cs := #[.int .i64 a0_0, .slice none 0 0]) ?_ 1 _ rfl; (with_reducible repeat (first | refine blk_drewN ?_ _ | refine blk_drew ?_ | refine blk_alloc ?_ _)); refine blk_put (cs := #[.int .i64 0, .slice none 0 0]) ?_ 0 _ rfl; (with_reducible repeat (first | refine blk_drewN ?_ _ | refine blk_drew ?_ | refine blk_alloc ?_ _)); refine blk_far ?_ NB163_162.out _; (with_reducible repeat (first | refine blk_drewN ?_ _ | refine blk_drew ?_ | refine blk_alloc ?_ _)); exact BK163.out) Try.underlying27 rfl (by kernel_rfl)) rfl ?_
        exact ⟨_, by first | rfl | (simp [errW_none, errW_some] <;> rfl) | (simp [*, errW_none, errW_some] <;> rfl), by (with_reducible repeat (first | apply Kd.S_alloc | apply Kd.S_drewN | apply Kd.S_drew)); exact Kd.S_mono (Kd.S_far (p := ⟨gb163, 1, none⟩) (Kd.S_far (p := ⟨gb163, 0, none⟩) (Kd.S_far (p := ⟨gb162, 1, none⟩) (Kd.S_types (Kd.S_types HO_3.out BK162.out (by decide)) BK163.out (by decide)) (fun _ hk => hk.1.2) (.slice Ao16 x3_1.length co16)) (fun _ hk => hk.2) (.int .i64 a0_0)) (fun _ hk => hk.2) (.slice Ao16 x3_1.length co16)) (fun _ hk => trivial), by repeat (first | (with_reducible first | exact HB.out | apply below_alloc | apply pw_below_drewN | apply below_drew1 | refine below_set ?_ GE162.out | refine below_set ?_ GE163.out) | exact HB.out)⟩

/-! ### impl_Timer_59: function 59, by hand; a text alone -/
theorem row45_get {W : World} {base g n cap : Nat} {ok : Nat → Prop} {xs : List S45} (h : Kd.R k45 45 W base ok (.slice (some ⟨g, 0, none⟩) n cap) xs) :
    ∃ cur : Array Value, W.heap[g]? = some (.cells cur 45 (0, 0)) ∧ base ≤ g ∧ ok g ∧ n = xs.length ∧ n ≤ cap ∧ cap ≤ maxLen ∧ cur.size = cap * 2 ∧ ∀ j (hj : j < xs.length), cur[j * 2]? = some (.int .i64 xs[j].f0) ∧ cur[j * 2 + 1]? = some (.int .i64 xs[j].f1) := by
  have hn := (Kd.R_reads' h).1
  obtain ⟨hok, inner, ⟨h1, h2⟩, hr⟩ := h
  rcases h2 with ⟨hv, _⟩ | ⟨g', cap', cur, hv, hb, hh, hnc, hcm, hcs, hct⟩
  · cases hv
  · injection hv with ha hn2 hc2
    injection ha with ha
    injection ha with ha
    subst ha
    subst hc2
    refine ⟨cur, hh, hb, hok _ rfl, hn, by rw [← hn] at hnc; exact hnc, hcm, hcs, fun j hj => ?_⟩
    have hM := k45_openM (hr.2 j _ (List.getElem?_eq_getElem hj))
    have hil : inner.length = xs.length * 2 := h1
    have hd : ∀ i, i < 2 → inner[j * 2 + i]? = [Value.int .i64 xs[j].f0, .int .i64 xs[j].f1][i]? := by
      intro i hi
      rw [← hM]
      show _ = ((inner.drop (j * 2)).take 2)[i]?
      rw [List.getElem?_take, if_pos hi, List.getElem?_drop]
    have hc : ∀ i, i < 2 → cur[j * 2 + i]? = inner[j * 2 + i]? := by
      intro i hi
      rw [← hct, List.getElem?_take, if_pos (by show j * 2 + i < xs.length * 2; omega), Array.getElem?_toList]
    exact ⟨by have := hd 0 (by omega); rw [← hc 0 (by omega)] at this; simpa using this, by have := hd 1 (by omega); rw [← hc 1 (by omega)] at this; simpa using this⟩
theorem row45_of {W : World} {base g cap : Nat} {ok : Nat → Prop} {ys : List S45} {cur : Array Value} (hh : W.heap[g]? = some (.cells cur 45 (0, 0))) (hb : base ≤ g) (hok : ok g) (hnc : ys.length ≤ cap) (hcm : cap ≤ maxLen) (hcs : cur.size = cap * 2)
    (hc : ∀ j (hj : j < ys.length), cur[j * 2]? = some (.int .i64 ys[j].f0) ∧ cur[j * 2 + 1]? = some (.int .i64 ys[j].f1)) : Kd.R k45 45 W base ok (.slice (some ⟨g, 0, none⟩) ys.length cap) ys := by
  have hcl : cur.toList.length = cur.size := Array.length_toList
  have hl : (cur.toList.take (ys.length * 2)).length = ys.length * 2 := by rw [List.length_take, hcl]; omega
  refine ⟨fun k hk => ?_, cur.toList.take (ys.length * 2), ⟨hl, .inr ⟨g, cap, cur, rfl, hb, hh, hnc, hcm, hcs, rfl⟩⟩, hl, fun j p hj => ?_⟩
  · simp only [Value.ownBlock, Option.some.injEq] at hk
    subst hk
    exact hok
  · obtain ⟨hj1, rfl⟩ := List.getElem?_eq_some_iff.1 hj
    have h2 := hc j hj1
    show k45.M _ _ _ _ (((cur.toList.take (ys.length * 2)).drop (j * 2)).take 2)
    have e : ((cur.toList.take (ys.length * 2)).drop (j * 2)).take 2 = [Value.int .i64 ys[j].f0, .int .i64 ys[j].f1] := by
      apply List.ext_getElem?
      intro i
      rw [List.getElem?_take]
      rcases Nat.lt_or_ge i 2 with hi | hi
      · rw [if_pos hi, List.getElem?_drop, List.getElem?_take, if_pos (by omega), Array.getElem?_toList]
        rcases Nat.lt_or_ge i 1 with h0 | h0
        · obtain rfl : i = 0 := by omega
          exact h2.1
        · obtain rfl : i = 1 := by omega
          exact h2.2
      · rw [if_neg (by omega), List.getElem?_eq_none (by simpa using hi)]
    rw [e]
    exact k45_mkM _ _ _ _
/-- a row of timers in its block -/
def Row45 (W : World) (g cap : Nat) (row : List S45) : Prop := ∃ cur : Array Value, W.heap[g]? = some (.cells cur 45 (0, 0)) ∧ cur.size = cap * 2 ∧ row.length ≤ cap ∧ cap ≤ maxLen ∧ ∀ j (hj : j < row.length), cur[j * 2]? = some (.int .i64 row[j].f0) ∧ cur[j * 2 + 1]? = some (.int .i64 row[j].f1)
theorem Row45.of_R {W : World} {base g n cap : Nat} {ok : Nat → Prop} {xs : List S45} (h : Kd.R k45 45 W base ok (.slice (some ⟨g, 0, none⟩) n cap) xs) : Row45 W g cap xs ∧ base ≤ g ∧ ok g ∧ n = xs.length := by
  obtain ⟨cur, h1, h2, h3, h4, h5, h6, h7, h8⟩ := row45_get h
  exact ⟨⟨cur, h1, h7, by omega, h6, h8⟩, h2, h3, h4⟩
theorem Row45.to_R {W : World} {base g cap : Nat} {ok : Nat → Prop} {ys : List S45} (h : Row45 W g cap ys) (hb : base ≤ g) (hok : ok g) : Kd.R k45 45 W base ok (.slice (some ⟨g, 0, none⟩) ys.length cap) ys := by
  obtain ⟨cur, h1, h2, h3, h4, h5⟩ := h
  exact row45_of h1 hb hok h3 h4 h2 h5
theorem Row45.cell {W : World} {g cap : Nat} {row : List S45} (h : Row45 W g cap row) (j : Nat) (hj : j < row.length) : W.cell? ⟨g, j * 2, none⟩ = some (.int .i64 (row.getD j z45).f0) ∧ W.cell? ⟨g, j * 2 + 1, none⟩ = some (.int .i64 (row.getD j z45).f1) ∧ W.frozen? ⟨g, j * 2, none⟩ = false ∧ W.frozen? ⟨g, j * 2 + 1, none⟩ = false := by
  obtain ⟨cur, h1, h2, h3, h4, h5⟩ := h
  rw [blk_cell h1, blk_cell h1, List.getD_eq_getElem?_getD, List.getElem?_eq_getElem hj]
  exact ⟨(h5 j hj).1, (h5 j hj).2, blk_frozen h1 _, blk_frozen h1 _⟩
theorem Row45.lt {W : World} {g cap : Nat} {row : List S45} (h : Row45 W g cap row) : g < W.heap.size := by
  obtain ⟨cur, h1, _⟩ := h
  exact blk_lt h1
theorem Row45.below {W W' : World} {g cap : Nat} {row : List S45} (h : Row45 W g cap row) (hb : Below W.heap.size W W') : Row45 W' g cap row := by
  obtain ⟨cur, h1, h2⟩ := h
  exact ⟨cur, blk_below h1 hb, h2⟩
theorem Row45.set {W : World} {g cap : Nat} {row : List S45} (h : Row45 W g cap row) (i : Nat) (hi : i < row.length) (a b : Int) : Row45 ((W.setCell ⟨g, i * 2, none⟩ (.int .i64 a)).setCell ⟨g, i * 2 + 1, none⟩ (.int .i64 b)) g cap (row.set i ⟨a, b⟩) := by
  obtain ⟨cur, h1, h2, h3, h4, h5⟩ := h
  refine ⟨_, blk_set (blk_set h1 (i * 2) (.int .i64 a)) (i * 2 + 1) (.int .i64 b), by simpa using h2, by simpa using h3, h4, fun j hj => ?_⟩
  rw [List.length_set] at hj
  rw [Array.getElem?_setIfInBounds, Array.getElem?_setIfInBounds, Array.getElem?_setIfInBounds, Array.getElem?_setIfInBounds]
  by_cases e : i = j
  · subst e
    rw [List.getElem_set_self, if_neg (by omega), if_pos rfl, if_pos (by omega), if_pos rfl, if_pos (by rw [Array.size_setIfInBounds]; omega)]
    exact ⟨rfl, rfl⟩
  · rw [List.getElem_set_ne e, if_neg (by omega), if_neg (by omega), if_neg (by omega), if_neg (by omega)]
    exact h5 j hj
theorem setCells_heap (W : World) (g : Nat) : ∀ (vs : List Value) (o : Nat) (cur : Array Value), W.heap[g]? = some (.cells cur 45 (0, 0)) → ∃ cur', (W.setCells g o vs).heap[g]? = some (.cells cur' 45 (0, 0)) ∧ cur'.size = cur.size ∧ ∀ j, j < o → cur'[j]? = cur[j]?
  | [], o, cur, h => ⟨cur, h, rfl, fun _ _ => rfl⟩
  | v :: vs, o, cur, h => by
    obtain ⟨cur', h1, h2, h3⟩ := setCells_heap (W.setCell ⟨g, o, none⟩ v) g vs (o + 1) _ (blk_set h o v)
    refine ⟨cur', h1, by simpa using h2, fun j hj => ?_⟩
    rw [h3 j (by omega), Array.getElem?_setIfInBounds, if_neg (by omega)]
theorem setCells_far (g : Nat) : ∀ (vs : List Value) (o : Nat) (W : World), (W.setCells g o vs).heap.size = W.heap.size ∧ (∀ k, k ≠ g → (W.setCells g o vs).heap[k]? = W.heap[k]?) ∧ (W.setCells g o vs).os = W.os ∧ (W.setCells g o vs).tape = W.tape ∧ (W.setCells g o vs).output = W.output
  | [], _, _ => ⟨rfl, fun _ _ => rfl, rfl, rfl, rfl⟩
  | v :: vs, o, W => by
    obtain ⟨h1, h2, h3, h4, h5⟩ := setCells_far g vs (o + 1) (W.setCell ⟨g, o, none⟩ v)
    exact ⟨h1.trans (by simp), fun k hk => (h2 k hk).trans (Below.heap_setCell W ⟨g, o, none⟩ v k hk), h3, h4, h5⟩
theorem Row45.cut {W : World} {g cap : Nat} {row : List S45} (h : Row45 W g cap row) (i : Nat) (hi : i ≤ row.length) (vs : List Value) : Row45 (W.setCells g (i * 2) vs) g cap (row.take i) := by
  obtain ⟨cur, h1, h2, h3, h4, h5⟩ := h
  obtain ⟨cur', c1, c2, c3⟩ := setCells_heap W g vs (i * 2) cur h1
  refine ⟨cur', c1, by omega, by rw [List.length_take]; omega, h4, fun j hj => ?_⟩
  rw [List.length_take] at hj
  rw [List.getElem_take, c3 _ (by omega), c3 _ (by omega)]
  exact h5 j (by omega)
theorem Row45.kept {W : World} {g : Nat} (o : Nat) (vs : List Value) : Kept W (W.setCells g o vs) (fun k => k = g) :=
  ⟨Nat.le_of_eq (setCells_far g vs o W).1.symm, fun i _ hi => (setCells_far g vs o W).2.1 i hi⟩
theorem below_setCells {w0 W : World} {B : Nat} (h : Below B w0 W) {g : Nat} (hg : B ≤ g) (o : Nat) (vs : List Value) : Below B w0 (W.setCells g o vs) := by
  obtain ⟨h1, h2, h3, h4, h5⟩ := setCells_far g vs o W
  exact ⟨h3.trans h.os, h4.trans h.tape, h5.trans h.output, by rw [h1]; exact h.size, fun k hk => (h2 k (by omega)).trans (h.block k hk)⟩
/-- a row of a wheel: its timers, its place, and the wheel with another row there -/
theorem ws_row {W : World} {base g n cap : Nat} {ok : Nat → Prop} {xs : List (List S45)} (h : Kd.S (Kd.slice 45 k45) 48 W base ok (.slice (some ⟨g, 0, none⟩) n cap) xs) (j : Nat) (hj : j < n) :
    ∃ (oki : Nat → Prop) (A : Option Addr) (c : Nat), Kd.R k45 45 W base oki (.slice A (xs.getD j []).length c) (xs.getD j []) ∧ W.cell? ⟨g, j, none⟩ = some (.slice A (xs.getD j []).length c) ∧ W.frozen? ⟨g, j, none⟩ = false ∧ (∀ k, oki k → ok k ∧ k ≠ g ∧ k < W.heap.size) ∧
      ∀ {W' : World} {ok' okn : Nat → Prop} {v' : Value} {ys : List S45}, Kept W W' oki → (∀ k, ok k → ok' k) → (∀ k, okn k → W.heap.size ≤ k → ok' k) → Kd.R k45 45 W' base okn v' ys → (∀ k, okn k → oki k ∨ W.heap.size ≤ k) →
        Kd.S (Kd.slice 45 k45) 48 (W'.setCell ⟨g, j, none⟩ v') base ok' (.slice (some ⟨g, 0, none⟩) n cap) (xs.set j ys) := by
  have hgl : g < W.heap.size := Kd.S_lt h g rfl
  obtain ⟨oki, c, hcl, hM, hcc, hfr, hok, hH⟩ := Kd.S_elem (Kd.S_bound h) [] (j : Int) (by omega) (by omega)
  rw [Int.toNat_natCast] at hM hcc hfr
  obtain ⟨v, rfl, hR⟩ := hM
  obtain ⟨A, c, rfl⟩ := Kd.R_slice hR
  refine ⟨oki, A, c, hR, by have h2 := hcc 0 _ rfl; simpa [Kd.slice] using h2, by have h2 := hfr 0; simpa [Kd.slice] using h2, fun k hk => ⟨(hok k hk).1.1, (hok k hk).2, (hok k hk).1.2.2.1⟩, fun {W' ok' okn v' ys} hk ho hn hR' hnew => ?_⟩
  have h3 := Kd.H_kept hH hk (fun _ _ hn => hn)
  have h4 := Kd.H_mono h3 (ok' := fun k => ok' k ∧ ¬ (okn k ∧ W.heap.size ≤ k)) (fun k hk => ⟨ho k hk.1, fun h2 => by have := hk.2.2.1; omega⟩)
  have h5 := (Kd.S_seg (okg := fun k => okn k ∧ W.heap.size ≤ k) (okp := okn) (seg := [v']) (j := 0) (x' := ys) h4 (by omega) (by omega) (by simp [Kd.slice]) ⟨v', by simp, hR'⟩ (fun k hk => (hnew k hk).imp (fun h => h) (fun h => ⟨hk, h⟩)) (fun k hk => ⟨hn k hk.1 hk.2, by have := hk.2; omega⟩)).1
  rw [Int.toNat_natCast] at h5
  simpa [Kd.slice, World.setCells] using h5
set_option maxHeartbeats 8000000 in
set_option maxRecDepth 100000 in
theorem slices_IndexFunc_Timer.idx (g : Nat) (eg : ∀ args W, (callFunc g args).run Try.prog W = .ok (.enter g args) W) (lb : Array Value) (p : S45 → Bool) (A0 : Option Addr) (c0 : Nat) (l0 : List S45) (w : World) (hr0 : Kd.C k45 w A0 l0.length l0)
    (hp : ∀ (W : World) (x : S45), Below w.heap.size w W → Calls Try.prog g (#[.agg #[.int .i64 x.f0, .int .i64 x.f1]] ++ lb) W fun e w' => e = .returned (.bool (p x)) ∧ Below W.heap.size W w') :
    Calls Try.prog 76 #[.slice A0 l0.length c0, .func (.func g) #[] lb] w fun e w' => ∃ n : Int, e = .returned (.int .i64 n) ∧ ((n = -1 ∧ ∀ x ∈ l0, p x = false) ∨ ∃ i : Nat, n = i ∧ i < l0.length ∧ p (l0.getD i z45) = true ∧ ∀ x ∈ l0.take i, p x = false) ∧ Below w.heap.size w w' := by
  have HR0 := Aside0.mk hr0
  have hl := hr0.2.1
  have HP := Aside0.mk hp
  clear hr0 hp
  go_enter Try.func76, Try.ntmps76
  go_wp2_with fail
  go_loopg [8] l0.length (fun kq v8 w' => ∃ x8 : Int, v8 = .int .i64 x8 ∧ Aside0 (0 ≤ x8 ∧ x8.toNat + kq = l0.length) ∧ Aside0 (∀ x ∈ l0.take x8.toNat, p x = false) ∧ Aside0 (Below w.heap.size w w'))
  case atStart => exact ⟨0, rfl, ⟨by omega, by simp⟩, ⟨by simp⟩, ⟨Below.refl _ _⟩⟩
  case round =>
    obtain ⟨x8, rfl, HJ, HA, HB⟩ := hrel
    by_cases hlt : x8 < (l0.length : Int)
    · have p8 : 0 ≤ x8 := HJ.out.1
      obtain ⟨ad, e0, hx0, hx1⟩ := at_T45 (Kd.C_below HR0.out HB.out) x8 p8 hlt
      cases e0
      have HC := Aside0.mk (HP.out wr (rd_T45 l0 x8) HB.out)
      obtain ⟨b, hb⟩ : ∃ b, b = p (rd_T45 l0 x8) := ⟨_, rfl⟩
      rw [← hb] at HC
      have HPB := Aside0.mk hb
      clear hb
      have hltb : decide (x8 < (l0.length : Int)) = true := decide_eq_true hlt
      have HJ2 := Aside0.mk hlt
      replace p8 := eq_true p8
      have q8 := eq_true hlt
      clear hlt
      go_wp2_with fail
      refine HC.out.mono ?_
      rintro e w1 ⟨rfl, hb1⟩
      have HB1 := Aside0.mk (below_then HB.out HB.out.size hb1)
      clear hb1 HC
      cases b with
      | true =>
        go_wp2
        go_ret
        refine ⟨x8, rfl, .inr ⟨x8.toNat, ?_, ?_, HPB.out.symm, HA.out⟩, HB1.out⟩
        · have := HJ.out.1; omega
        · have := HJ2.out; have := HJ.out.1; omega
      | false =>
        cases gk with
        | zero => exact absurd HJ.out.2 (by have := HJ2.out; have := HJ.out.1; omega)
        | succ k1 =>
          have HW := Aside0.mk (show wrap64 (x8 + 1) = x8 + 1 by unfold wrap64; have := HJ2.out; have := HJ.out.1; omega)
          go_wp2
          go_roundg k1
          case measure => omega
          case rel =>
            refine ⟨wrap64 (x8 + 1), rfl, ⟨?_, ?_⟩, ⟨?_⟩, ⟨HB1.out⟩⟩
            · rw [HW.out]; have := HJ.out.1; omega
            · rw [HW.out]; have := HJ.out; omega
            · rw [HW.out, show (x8 + 1).toNat = x8.toNat + 1 by have := HJ.out.1; omega]
              intro x hx
              have hl2 : x8.toNat < l0.length := by have := HJ2.out; have := HJ.out.1; omega
              rw [List.take_succ_eq_append_getElem hl2, List.mem_append, List.mem_singleton] at hx
              rcases hx with hx | rfl
              · exact HA.out x hx
              · have := HPB.out
                unfold rd_T45 at this
                rw [List.getD_eq_getElem?_getD, List.getElem?_eq_getElem hl2] at this
                exact this.symm
    · have hltb : decide (x8 < (l0.length : Int)) = false := decide_eq_false hlt
      have HJ2 := Aside0.mk hlt
      clear hlt
      go_wp2
      go_ret
      refine ⟨-1, rfl, .inl ⟨rfl, ?_⟩, HB.out⟩
      have h1 := HA.out
      rwa [List.take_of_length_le (by have := HJ2.out; have := HJ.out.1; omega)] at h1
set_option maxHeartbeats 8000000 in
set_option maxRecDepth 100000 in
theorem wheel_drop1.at (ib : Nat) (a1 : Int) (x : S45) (w : World) (hb : w.cell? ⟨ib, 0, none⟩ = some (.int .i64 a1)) :
    Calls Try.prog 60 #[.agg #[.int .i64 x.f0, .int .i64 x.f1], .pointer (some ⟨ib, 0, none⟩)] w fun e w' => e = .returned (.bool (x.f1 == a1)) ∧ Below w.heap.size w w' := by
  have HB := Aside0.mk (Below.refl w.heap.size w)
  have hlt := World.block_lt_of_cell? w _ hb
  have hb2 : ∀ o, (w.alloc o).cell? ⟨ib, 0, none⟩ = some (.int .i64 a1) := fun o => ((below_alloc (Below.refl w.heap.size w) o).cell hlt).trans hb
  clear hlt
  go_enter Try.func60, Try.ntmps60
  go_wp2
  go_ret
  exact ⟨rfl, by repeat (first | (with_reducible first | exact HB.out | apply below_alloc | apply pw_below_drewN | apply below_drew1) | exact HB.out)⟩
theorem run_clear_45 (w : World) (ty : TypeId) (b o n c : Nat) (hn : 0 < n) (hc : ∀ j, j < n * 2 → (w.cell? ⟨b, o + j, none⟩).isSome = true) (hf : ∀ j, j < n * 2 → w.frozen? ⟨b, o + j, none⟩ = false) :
    (Builtin.clear_ #[48] ty #[.slice (some ⟨b, o, none⟩) n c]).run Try.prog w = .ok (.tuple #[]) (w.setCells b o (List.replicate (n * 2) (.int .i64 0))) := by
  have hzc : (Builtin.zeroCells (#[.int .i64 0, .int .i64 0] : Array Value) n).toList = List.replicate (n * 2) (.int .i64 0) := by
    apply List.ext_getElem
    · simp [Builtin.zeroCells]
    · intro i h1 h2
      simp only [List.getElem_replicate]
      simp only [Builtin.zeroCells, Array.getElem_toList, Array.getElem_map, Array.getElem_range, Array.size_map, Array.size_range]
      rcases Nat.mod_two_eq_zero_or_one i with h | h <;> simp [h]
  have hst := run_storeCells_cells (P := Try.prog) b o (List.replicate (n * 2) (.int .i64 0)) 0 w (by simpa using hc) (by simpa using hf) (by intro v hv'; rw [List.eq_of_mem_replicate hv']; rfl)
  simp only [Nat.add_zero] at hst
  obtain ⟨m, rfl⟩ : ∃ m, n = m + 1 := ⟨n - 1, by omega⟩
  have hv := fun W => Try.zeroValue45 (w := W)
  simp [Builtin.clear_, run_underlying Try.underlying48, hv, Value.cells, hzc, hst]
set_option maxHeartbeats 8000000 in
set_option maxRecDepth 100000 in
theorem slices_DeleteFunc_Timer.own (ib : Nat) (id : Int) (A : Option Addr) (c : Nat) (xs : List S45) (ok : Nat → Prop) (w0 w : World) (hB : Below w0.heap.size w0 w) (hR : Kd.R k45 45 w w0.heap.size ok (.slice A xs.length c) xs) (hib : w.cell? ⟨ib, 0, none⟩ = some (.int .i64 id)) (hne : ∀ k, ok k → k ≠ ib) :
    Calls Try.prog 59 #[.slice A xs.length c, .func (.func 60) #[] #[.pointer (some ⟨ib, 0, none⟩)]] w fun e w' => e = .returned (.slice A (xs.filter fun x => !(x.f1 == id)).length c) ∧ Kd.R k45 45 w' w0.heap.size ok (.slice A (xs.filter fun x => !(x.f1 == id)).length c) (xs.filter fun x => !(x.f1 == id)) ∧ Below w0.heap.size w0 w' ∧ Kept w w' ok := by
  have eg60 : ∀ args W, (callFunc 60 args).run Try.prog W = .ok (.enter 60 args) W := enters_of Try.func60 (by kernel_rfl) rfl
  have HI := Aside0.mk (slices_IndexFunc_Timer.idx 60 eg60 #[.pointer (some ⟨ib, 0, none⟩)] (fun x => x.f1 == id) A c xs w (Kd.R_reads' hR).2.2 (fun W x hb => wheel_drop1.at ib id x W (pw_cell_below hb hib)))
  have HB := Aside0.mk hB
  have HR := Aside0.mk hR
  have HIB := Aside0.mk hib
  have HNE := Aside0.mk hne
  obtain ⟨n, hn⟩ : ∃ n, n = xs.length := ⟨_, rfl⟩
  have HN := Aside0.mk hn
  clear hB hR hib hne
  rw [← hn]
  rw [← hn] at HI HR
  clear hn
  go_enter Try.func59, Try.ntmps59
  go_wp2_with fail
  refine HI.out.mono ?_
  rintro e w1 ⟨i, rfl, hi, hb⟩
  clear HI
  have HB1 := Aside0.mk hb
  clear hb
  rcases hi with ⟨rfl, hall⟩ | ⟨i0, rfl, hi0, hp0, hall⟩
  · have HA := Aside0.mk hall
    clear hall
    go_wp2
    go_ret
    have hf : (xs.filter fun x => !(x.f1 == id)) = xs := List.filter_eq_self.2 (fun x hx => by rw [HA.out x hx]; rfl)
    rw [hf, ← HN.out]
    exact ⟨rfl, Kd.R_below HR.out HB1.out, below_then HB.out HB.out.size HB1.out, Kept.of_below HB1.out _⟩
  · have HA := Aside0.mk hall
    have HI0 := Aside0.mk (show i0 < n from hi0)
    have HP0 := Aside0.mk hp0
    clear hall hp0
    obtain ⟨g, cap, hv, hbg, hgl, _⟩ := Kd.R_form HR.out (by rw [← HN.out]; have := HI0.out; omega)
    injection hv with ha he_ hc
    subst ha
    subst hc
    clear he_
    clear hi0
    obtain ⟨hrow, he3_, hokg, he2_⟩ := Row45.of_R HR.out
    clear he2_ he3_
    have HROW := Aside0.mk (hrow.below HB1.out)
    have HBG := Aside0.mk hbg
    have HOKG := Aside0.mk hokg
    have HGIB := Aside0.mk (HNE.out g hokg)
    have HIB1 := Aside0.mk (pw_cell_below HB1.out HIB.out)
    have HBB := Aside0.mk (below_then HB.out HB.out.size HB1.out)
    have HNC := Aside0.mk (show n ≤ c by obtain ⟨cur, _, _, h3, _⟩ := hrow; rw [HN.out]; exact h3)
    have HNM := Aside0.mk (show n ≤ 9223372036854775807 by obtain ⟨cur, _, _, h3, h4, _⟩ := hrow; have h5 : maxLen = 9223372036854775807 := rfl; rw [HN.out]; omega)
    have hd0 : ((i0 : Int) == -1) = false := beq_eq_false_iff_ne.2 (by omega)
    clear hrow hbg hokg HR HB
    go_wp2
    go_loopg [5, 6] n (fun kq v5 v6 w' => ∃ (i j : Nat) (row : List S45), v5 = .int .i64 (i : Int) ∧ v6 = .int .i64 (j : Int) ∧ Aside0 (i < j ∧ j ≤ n ∧ j + kq = n + i0 + 1) ∧ Aside0 (row.length = n ∧ row.take i = (xs.take j).filter (fun x => !(x.f1 == id)) ∧ row.drop j = xs.drop j) ∧ Aside0 (Row45 w' g c row) ∧ Aside0 (Below w0.heap.size w0 w') ∧ Aside0 (Kept w w' ok) ∧ Aside0 (w'.cell? ⟨ib, 0, none⟩ = some (.int .i64 id)))
    case atStart =>
      refine ⟨i0, i0 + 1, xs, rfl, ?_, ⟨by omega, by have := HI0.out; omega, by omega⟩, ⟨HN.out.symm, ?_, rfl⟩, HROW, HBB, ⟨Kept.of_below HB1.out _⟩, HIB1⟩
      · congr 1; unfold wrap64; have := HI0.out; have := HNM.out; omega
      · have hl : i0 < xs.length := by rw [← HN.out]; exact HI0.out
        rw [List.take_succ_eq_append_getElem hl, List.filter_append]
        have h1 : (xs.take i0).filter (fun x => !(x.f1 == id)) = xs.take i0 := List.filter_eq_self.2 (fun x hx => by rw [HA.out x hx]; rfl)
        have h2 := HP0.out
        rw [List.getD_eq_getElem?_getD, List.getElem?_eq_getElem hl] at h2
        have h2' : (xs[i0].f1 == id) = true := h2
        rw [h1, List.filter_cons_of_neg (by rw [h2']; decide), List.filter_nil, List.append_nil]
    case round =>
      clear HROW HBB HIB1
      obtain ⟨i, j, row, rfl, rfl, HJ, HW, HROW, HBB, HK, HIB1⟩ := hrel
      by_cases hlt : j < n
      · obtain ⟨x, hx⟩ : ∃ x, x = row.getD j z45 := ⟨_, rfl⟩
        obtain ⟨hx0, hx1, _, _⟩ := HROW.out.cell j (by rw [HW.out.1]; exact hlt)
        rw [← hx] at hx0 hx1
        have HX := Aside0.mk hx
        have HLT := Aside0.mk hlt
        clear hx
        have hd : decide (j < n) = true := decide_eq_true hlt
        have hq : (j < n) = True := eq_true hlt
        have hd0 : decide (0 ≤ (j : Int)) = true := decide_eq_true (by omega)
        clear hlt
        have HAL := Aside0.mk (below_alloc (Below.refl wr.heap.size wr) (.cells #[.int .i64 x.f0, .int .i64 x.f1] 45))
        have HC := Aside0.mk (wheel_drop1.at ib id x (wr.alloc (.cells #[.int .i64 x.f0, .int .i64 x.f1] 45)) (pw_cell_below HAL.out HIB1.out))
        have HBX : Aside0 ((wr.alloc (.cells #[.int .i64 x.f0, .int .i64 x.f1] 45)).heap[wr.heap.size]? = some (.cells #[.int .i64 x.f0, .int .i64 x.f1] 45 (0, 0))) := ⟨heap_alloc_new _ _⟩
        obtain ⟨b, hb⟩ : ∃ b, b = (x.f1 == id) := ⟨_, rfl⟩
        rw [← hb] at HC
        have HPB := Aside0.mk hb
        clear hb
        go_wp2_with fail
        refine HC.out.mono ?_
        rintro e w2 ⟨rfl, hb2⟩
        have HB2 := Aside0.mk hb2
        have HROW2 := Aside0.mk ((HROW.out.below HAL.out).below hb2)
        have HBB2 := Aside0.mk (below_then (below_then HBB.out HBB.out.size HAL.out) (Nat.le_trans HBB.out.size HAL.out.size) hb2)
        have HK2 := Aside0.mk ((HK.out.alloc (.cells #[.int .i64 x.f0, .int .i64 x.f1] 45)).below hb2)
        have HIB2 := Aside0.mk (pw_cell_below hb2 (pw_cell_below HAL.out HIB1.out))
        have HBX2 := Aside0.mk (blk_below HBX.out hb2)
        clear hb2 HC hx0 hx1
        cases gk with
        | zero => exact absurd HJ.out.2.2 (by have := HLT.out; have := HJ.out; omega)
        | succ k1 =>
          have hjl : j < xs.length := by rw [← HN.out]; exact HLT.out
          have HGX := Aside0.mk (show xs[j] = x by
            rw [HX.out]
            have h3 := HW.out.2.2
            have h4 : row[j]? = xs[j]? := by
              have h5 := congrArg (fun l => l[0]?) h3
              simpa using h5
            rw [List.getD_eq_getElem?_getD, h4, List.getElem?_eq_getElem hjl]; rfl)
          have HTK := Aside0.mk (show (xs.take (j + 1)).filter (fun x => !(x.f1 == id)) = row.take i ++ [x].filter (fun x => !(x.f1 == id)) by
            rw [List.take_succ_eq_append_getElem hjl, List.filter_append, HW.out.2.1, HGX.out])
          have HDR := Aside0.mk (show row.drop (j + 1) = xs.drop (j + 1) by
            have h3 := congrArg (fun l => l.drop 1) HW.out.2.2
            simpa using h3)
          cases b with
          | true =>
            go_wp2
            go_roundg k1
            case measure => omega
            case rel =>
              refine ⟨i, j + 1, row, rfl, ?_, ⟨by have := HJ.out; omega, by have := HLT.out; omega, by have := HJ.out; omega⟩, ⟨HW.out.1, ?_, HDR.out⟩, HROW2, HBB2, HK2, HIB2⟩
              · congr 1; unfold wrap64; have := HLT.out; have := HNM.out; omega
              · rw [HTK.out, List.filter_cons_of_neg (by rw [← HPB.out]; decide), List.filter_nil, List.append_nil]
          | false =>
            have HIN := Aside0.mk (show i < n by have := HJ.out; have := HLT.out; omega)
            obtain ⟨hy0, hy1, hf0, hf1⟩ := HROW2.out.cell i (by rw [HW.out.1]; exact HIN.out)
            have hv0 : w2.cell? ⟨wr.heap.size, 0, none⟩ = some (.int .i64 x.f0) := (blk_cell HBX2.out 0).trans rfl
            have hv1 : w2.cell? ⟨wr.heap.size, 1, none⟩ = some (.int .i64 x.f1) := (blk_cell HBX2.out 1).trans rfl
            have hqi : (i < n) = True := eq_true HIN.out
            have hdi : decide (i < n) = true := decide_eq_true HIN.out
            have hdi0 : decide (0 ≤ (i : Int)) = true := decide_eq_true (by omega)
            go_wp2
            go_roundg k1
            case measure => omega
            case rel =>
              have hil : i < row.length := by rw [HW.out.1]; exact HIN.out
              refine ⟨i + 1, j + 1, row.set i ⟨x.f0, x.f1⟩, ?_, ?_, ⟨by have := HJ.out; omega, by have := HLT.out; omega, by have := HJ.out; omega⟩, ⟨by rw [List.length_set]; exact HW.out.1, ?_, ?_⟩, ⟨HROW2.out.set i hil x.f0 x.f1⟩, ⟨?_⟩, ⟨?_⟩, ⟨?_⟩⟩
              · congr 1; unfold wrap64; have := HIN.out; have := HNM.out; omega
              · congr 1; unfold wrap64; have := HLT.out; have := HNM.out; omega
              · rw [List.take_succ_eq_append_getElem (by rw [List.length_set]; exact hil), List.getElem_set_self, List.take_set_of_le (Nat.le_refl _), HTK.out, List.filter_cons_of_pos (by rw [← HPB.out]; rfl), List.filter_nil]
              · rw [List.drop_set_of_lt (by have := HJ.out; omega)]; exact HDR.out
              · exact (HBB2.out.setCell (p := ⟨g, i * 2, none⟩) HBG.out _).setCell (p := ⟨g, i * 2 + 1, none⟩) HBG.out _
              · exact (HK2.out.setCell (p := ⟨g, i * 2, none⟩) (.inl HOKG.out) _).setCell (p := ⟨g, i * 2 + 1, none⟩) (.inl HOKG.out) _
              · rw [World.cell?_setCell_other _ _ _ _ (by intro he; injection he with he _ _; exact HGIB.out he), World.cell?_setCell_other _ _ _ _ (by intro he; injection he with he _ _; exact HGIB.out he)]
                exact HIB2.out
      · have hd : decide (j < n) = false := decide_eq_false hlt
        have HLT := Aside0.mk hlt
        clear hlt
        have HIN := Aside0.mk (show i < n by have := HJ.out; have := HLT.out; omega)
        have hin : (i ≤ n) = True := eq_true (by have := HIN.out; omega)
        have hic : (i ≤ c) = True := eq_true (by have := HIN.out; have := HNC.out; omega)
        have hci : (c = i) = False := eq_false (by have := HIN.out; have := HNC.out; omega)
        have hdi0 : decide (0 ≤ (i : Int)) = true := decide_eq_true (by omega)
        have hcl : (Builtin.clear_ #[48] 0 #[.slice (some ⟨g, i * 2, none⟩) (n - i) (c - i)]).run Try.prog wr = .ok (.tuple #[]) (wr.setCells g (i * 2) (List.replicate ((n - i) * 2) (.int .i64 0))) := by
          refine run_clear_45 wr 0 g (i * 2) (n - i) (c - i) (by have := HIN.out; omega) (fun q hq => ?_) (fun q hq => ?_)
          · obtain ⟨h0, h1, _, _⟩ := HROW.out.cell ((i * 2 + q) / 2) (by rw [HW.out.1]; omega)
            rcases Nat.mod_two_eq_zero_or_one (i * 2 + q) with h | h
            · rw [show i * 2 + q = (i * 2 + q) / 2 * 2 by omega, h0]; rfl
            · rw [show i * 2 + q = (i * 2 + q) / 2 * 2 + 1 by omega, h1]; rfl
          · obtain ⟨cur, h1, _⟩ := HROW.out
            exact blk_frozen h1 _
        go_wp2
        go_ret
        have hln : (xs.filter fun x => !(x.f1 == id)) = row.take i := by
          rw [HW.out.2.1, List.take_of_length_le (by rw [← HN.out]; have := HLT.out; omega)]
        have hll : (row.take i).length = i := by rw [List.length_take, HW.out.1]; have := HIN.out; omega
        have hcut := HROW.out.cut i (by rw [HW.out.1]; have := HIN.out; omega) (List.replicate ((n - i) * 2) (.int .i64 0))
        refine ⟨?_, ?_, below_setCells HBB.out HBG.out _ _, HK.out.then_ (Row45.kept _ _) (fun k hk => .inl (by rw [hk]; exact HOKG.out))⟩
        · rw [hln, hll]; rfl
        · rw [hln]
          exact hcut.to_R HBG.out HOKG.out

end Go.Proofs.Ytgmjfdehladelaa.PFnExactDropTimer
