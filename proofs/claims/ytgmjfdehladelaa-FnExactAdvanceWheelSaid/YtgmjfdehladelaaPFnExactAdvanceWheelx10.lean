-- written by xprint.py (a program of this session's, over the kit's print): printed functions, and some by hand
import Derived.Test.YtgmjfdehladelaaPFnExactAdvanceWheelx0
import Derived.Test.YtgmjfdehladelaaPFnExactAdvanceWheelx6
import Derived.Test.YtgmjfdehladelaaPFnExactAdvanceWheelx7
import Derived.Test.YtgmjfdehladelaaPFnExactAdvanceWheelx8
import Derived.Test.YtgmjfdehladelaaPFnExactAdvanceWheelx9
namespace Go.Proofs.Ytgmjfdehladelaa.PFnExactAdvanceWheel
open Go.RowKit Go.Proofs.YtgmjfdehladelaaW.PrintWords Go.Proofs.YtgmjfdehladelaaW.PrintLast Go.Proofs.YtgmjfdehladelaaW.PrintMore
attribute [local go_sem] max2_int min2_int max_two min_two max_three min_three max_four min_four   -- for this text's walks alone
set_option linter.unusedVariables false
set_option linter.unusedSimpArgs false

/-! ### impl_AdvanceWheel: function 38, by hand -/
def impl_AdvanceWheel.f (k : Nat) (a0_0 : Int) (l0_1 : List (List S45)) (a1 : Int) : Option (Int × List (List S45) × List Int × Int × Bool) := (impl_GoodWheel.f k a0_0 l0_1).bind fun b => if b = true then ((impl_in.f a1 a0_0 (wrap64 (a0_0 + 1000))).bind fun b2 => if b2 = true then ((impl_isNow.f a1).bind fun b3 => if b3 = true then ((impl_cloneWheel.f k a0_0 l0_1).bind fun x => if 0 < x.2.length then ((advG (impl_tick.f k) true a1 k x.1 x.2 [] 0).bind fun y => some (y.1, y.2.1, y.2.2.1, y.2.2.2, true)) else none) else some (0, [], [], 0, false)) else some (0, [], [], 0, false)) else some (0, [], [], 0, false)
theorem impl_AdvanceWheel.mono : ∀ a0 a1 a2 k, LeO (impl_AdvanceWheel.f k a0 a1 a2) (impl_AdvanceWheel.f (k + 1) a0 a1 a2) := fun a0 a1 a2 k => LeO.bind (impl_GoodWheel.mono a0 a1 k) (fun _ => LeO.ite (LeO.bind (LeO.refl _) (fun _ => LeO.ite (LeO.bind (LeO.refl _) (fun _ => LeO.ite (LeO.bind (impl_cloneWheel.mono a0 a1 k) (fun x => LeO.ite (LeO.bind (advG_le (fun n L => impl_tick.mono n L k) _ _ k _ _ _ _) (fun _ => LeO.refl _)) (LeO.refl _))) (LeO.refl _))) (LeO.refl _))) (LeO.refl _))
set_option maxHeartbeats 8000000 in
set_option maxRecDepth 100000 in
theorem impl_AdvanceWheel.calls (k : Nat) (a0_0 : Int) (A0_1 : Option Addr) (c0_1 : Nat) (l0_1 : List (List S45)) (a1 : Int) (r1 : Int) (r2 : List (List S45)) (r3 : List Int) (r4 : Int) (r5 : Bool) (w : World) (hr0_1 : Kd.C (Kd.slice 45 k45) w A0_1 l0_1.length l0_1) (hc0_1 : l0_1.length ≤ c0_1) (h : impl_AdvanceWheel.f k a0_0 l0_1 a1 = some (r1, r2, r3, r4, r5)) :
  Calls Try.prog 38 #[.agg #[.int .i64 a0_0, .slice A0_1 l0_1.length c0_1], .int .i64 a1] w fun e w' => ∃ v u : Value, e = .returned (.tuple #[.agg #[.int .i64 r1, v], u, .int .i64 r4, .bool r5]) ∧ Kd.S (Kd.slice 45 k45) 48 w' w.heap.size (fun _ => True) v r2 ∧ Kd.R (Kd.int .i64) 3 w' w.heap.size (fun _ => True) u r3 ∧ Below w.heap.size w w' := by
 have hu27 := Try.underlying27
 have HR0_1 := Aside0.mk hr0_1
 have HC0_1 := Aside0.mk hc0_1
 clear hr0_1 hc0_1
 unfold impl_AdvanceWheel.f at h
 replace h := Option.bind_eq_some_iff.1 h
 obtain ⟨b, hb0, h⟩ := h
 have HGW := Aside0.mk hb0
 clear hb0
 cases b with
 | false =>
  have h2 : some ((0 : Int), ([] : List (List S45)), ([] : List Int), (0 : Int), false) = some (r1, r2, r3, r4, r5) := h
  simp only [Option.some.injEq, Prod.mk.injEq] at h2
  obtain ⟨rfl, rfl, rfl, rfl, rfl⟩ := h2
  clear h
  go_enter Try.func38, Try.ntmps38
  go_wp2_with (go_at_call 21; refine (impl_GoodWheel.calls k a0_0 _ _ l0_1 false _ (Kd.C_below HR0_1.out (below_alloc (below_alloc (Below.refl w.heap.size w) _) _)) HC0_1.out HGW.out).mono ?_; rintro e w1 ⟨rfl, hb⟩; have HB1 : Aside0 (Below w.heap.size w w1) := ⟨below_then (below_alloc (below_alloc (Below.refl w.heap.size w) _) _) (below_alloc (below_alloc (Below.refl w.heap.size w) _) _).size hb⟩; have BK0 : Aside0 (w1.heap[w.heap.size]? = some (.cells #[.int .i64 a0_0, .slice A0_1 l0_1.length c0_1] 27 (0, 0))) := ⟨blk_below (by refine blk_alloc ?_ _; exact heap_alloc_new _ _) hb⟩; have BK1 : Aside0 (w1.heap[w.heap.size + 1]? = some (.cells #[.int .i64 0, .slice none 0 0] 27 (0, 0))) := ⟨blk_below (by have h_ := heap_alloc_new (w.alloc (.cells #[.int .i64 a0_0, .slice A0_1 l0_1.length c0_1] 27)) (.cells #[.int .i64 0, .slice none 0 0] 27); simpa using h_) hb⟩; clear hb; have hza0 : w1.cell? ⟨w.heap.size, 0, none⟩ = some (.int .i64 a0_0) := (blk_cell BK0.out 0).trans rfl; have hza1 : w1.cell? ⟨w.heap.size, 1, none⟩ = some (.slice A0_1 l0_1.length c0_1) := (blk_cell BK0.out 1).trans rfl; have hza3 : w1.cell? ⟨w.heap.size + 1, 0, none⟩ = some (.int .i64 0) := (blk_cell BK1.out 0).trans rfl; have hza4 : w1.cell? ⟨w.heap.size + 1, 1, none⟩ = some (.slice none 0 0) := (blk_cell BK1.out 1).trans rfl; have hfa3 := blk_frozen BK1.out 0; have hfa4 := blk_frozen BK1.out 1)
  refine bodyPost_ret (results_cttt rfl _ _ (w.heap.size + 1) 27 #[.int .i64 0, .slice none 0 0] (0, 0) _ rfl (by refine blk_put (cs := #[.int .i64 0, .slice none 0 0]) ?_ 1 _ rfl; refine blk_put (cs := #[.int .i64 0, .slice none 0 0]) ?_ 0 _ rfl; exact BK1.out) Try.underlying27 rfl (by kernel_rfl)) rfl ?_
  exact ⟨_, _, rfl, Kd.S_nil _ _ _ _ _, Kd.R_nil _ _ _ _ _, (HB1.out.setCell (p := ⟨w.heap.size + 1, 0, none⟩) (Nat.le_add_right _ _) _).setCell (p := ⟨w.heap.size + 1, 1, none⟩) (Nat.le_add_right _ _) _⟩
 | true =>
  replace h : ((impl_in.f a1 a0_0 (wrap64 (a0_0 + 1000))).bind fun b2 => if b2 = true then ((impl_isNow.f a1).bind fun b3 => if b3 = true then ((impl_cloneWheel.f k a0_0 l0_1).bind fun x => if 0 < x.2.length then ((advG (impl_tick.f k) true a1 k x.1 x.2 [] 0).bind fun y => some (y.1, y.2.1, y.2.2.1, y.2.2.2, true)) else none) else some (0, [], [], 0, false)) else some (0, [], [], 0, false)) = some (r1, r2, r3, r4, r5) := h
  replace h := Option.bind_eq_some_iff.1 h
  obtain ⟨b2, hb0, h⟩ := h
  have HIN := Aside0.mk hb0
  clear hb0
  cases b2 with
  | false =>
   have h2 : some ((0 : Int), ([] : List (List S45)), ([] : List Int), (0 : Int), false) = some (r1, r2, r3, r4, r5) := h
   simp only [Option.some.injEq, Prod.mk.injEq] at h2
   obtain ⟨rfl, rfl, rfl, rfl, rfl⟩ := h2
   clear h
   go_enter Try.func38, Try.ntmps38
   go_wp2_with (first | (go_at_call 21; refine (impl_GoodWheel.calls k a0_0 _ _ l0_1 true _ (Kd.C_below HR0_1.out (below_alloc (below_alloc (Below.refl w.heap.size w) _) _)) HC0_1.out HGW.out).mono ?_; rintro e w1 ⟨rfl, hb⟩; have HB1 : Aside0 (Below w.heap.size w w1) := ⟨below_then (below_alloc (below_alloc (Below.refl w.heap.size w) _) _) (below_alloc (below_alloc (Below.refl w.heap.size w) _) _).size hb⟩; have BK0 : Aside0 (w1.heap[w.heap.size]? = some (.cells #[.int .i64 a0_0, .slice A0_1 l0_1.length c0_1] 27 (0, 0))) := ⟨blk_below (by refine blk_alloc ?_ _; exact heap_alloc_new _ _) hb⟩; have BK1 : Aside0 (w1.heap[w.heap.size + 1]? = some (.cells #[.int .i64 0, .slice none 0 0] 27 (0, 0))) := ⟨blk_below (by have h_ := heap_alloc_new (w.alloc (.cells #[.int .i64 a0_0, .slice A0_1 l0_1.length c0_1] 27)) (.cells #[.int .i64 0, .slice none 0 0] 27); simpa using h_) hb⟩; clear hb; have hza0 : w1.cell? ⟨w.heap.size, 0, none⟩ = some (.int .i64 a0_0) := (blk_cell BK0.out 0).trans rfl; have hza1 : w1.cell? ⟨w.heap.size, 1, none⟩ = some (.slice A0_1 l0_1.length c0_1) := (blk_cell BK0.out 1).trans rfl; have hza3 : w1.cell? ⟨w.heap.size + 1, 0, none⟩ = some (.int .i64 0) := (blk_cell BK1.out 0).trans rfl; have hza4 : w1.cell? ⟨w.heap.size + 1, 1, none⟩ = some (.slice none 0 0) := (blk_cell BK1.out 1).trans rfl; have hfa3 := blk_frozen BK1.out 0; have hfa4 := blk_frozen BK1.out 1) | (go_at_call 55; refine (impl_in.calls a1 a0_0 (wrap64 (a0_0 + 1000)) false _ HIN.out).mono ?_; rintro e w_ ⟨rfl, ⟨nd, rfl⟩⟩; have nHB1 := Aside0.mk (below_then HB1.out HB1.out.size (pw_below_drewN (Below.refl _ _) nd)); have nBK0 := Aside0.mk (blk_drewN BK0.out nd); have nBK1 := Aside0.mk (blk_drewN BK1.out nd); clear HB1 BK0 BK1 hza0 hza1 hza3 hza4 hfa3 hfa4; generalize World.drewN w1 nd = w1 at nHB1 nBK0 nBK1 ⊢; have HB1 := nHB1; have BK0 := nBK0; have BK1 := nBK1; clear nHB1 nBK0 nBK1; have hzb0 : w1.cell? ⟨w.heap.size, 0, none⟩ = some (.int .i64 a0_0) := (blk_cell BK0.out 0).trans rfl; have hzb1 : w1.cell? ⟨w.heap.size, 1, none⟩ = some (.slice A0_1 l0_1.length c0_1) := (blk_cell BK0.out 1).trans rfl; have hzb3 : w1.cell? ⟨w.heap.size + 1, 0, none⟩ = some (.int .i64 0) := (blk_cell BK1.out 0).trans rfl; have hzb4 : w1.cell? ⟨w.heap.size + 1, 1, none⟩ = some (.slice none 0 0) := (blk_cell BK1.out 1).trans rfl; have hfb3 := blk_frozen BK1.out 0; have hfb4 := blk_frozen BK1.out 1))
   refine bodyPost_ret (results_cttt rfl _ _ (w.heap.size + 1) 27 #[.int .i64 0, .slice none 0 0] (0, 0) _ rfl (by refine blk_put (cs := #[.int .i64 0, .slice none 0 0]) ?_ 1 _ rfl; refine blk_put (cs := #[.int .i64 0, .slice none 0 0]) ?_ 0 _ rfl; exact BK1.out) Try.underlying27 rfl (by kernel_rfl)) rfl ?_
   exact ⟨_, _, rfl, Kd.S_nil _ _ _ _ _, Kd.R_nil _ _ _ _ _, (HB1.out.setCell (p := ⟨w.heap.size + 1, 0, none⟩) (Nat.le_add_right _ _) _).setCell (p := ⟨w.heap.size + 1, 1, none⟩) (Nat.le_add_right _ _) _⟩
  | true =>
   replace h : ((impl_isNow.f a1).bind fun b3 => if b3 = true then ((impl_cloneWheel.f k a0_0 l0_1).bind fun x => if 0 < x.2.length then ((advG (impl_tick.f k) true a1 k x.1 x.2 [] 0).bind fun y => some (y.1, y.2.1, y.2.2.1, y.2.2.2, true)) else none) else some (0, [], [], 0, false)) = some (r1, r2, r3, r4, r5) := h
   replace h := Option.bind_eq_some_iff.1 h
   obtain ⟨b3, hb0, h⟩ := h
   have HNW := Aside0.mk hb0
   clear hb0
   cases b3 with
   | false =>
    have h2 : some ((0 : Int), ([] : List (List S45)), ([] : List Int), (0 : Int), false) = some (r1, r2, r3, r4, r5) := h
    simp only [Option.some.injEq, Prod.mk.injEq] at h2
    obtain ⟨rfl, rfl, rfl, rfl, rfl⟩ := h2
    clear h
    go_enter Try.func38, Try.ntmps38
    go_wp2_with (first | (go_at_call 21; refine (impl_GoodWheel.calls k a0_0 _ _ l0_1 true _ (Kd.C_below HR0_1.out (below_alloc (below_alloc (Below.refl w.heap.size w) _) _)) HC0_1.out HGW.out).mono ?_; rintro e w1 ⟨rfl, hb⟩; have HB1 : Aside0 (Below w.heap.size w w1) := ⟨below_then (below_alloc (below_alloc (Below.refl w.heap.size w) _) _) (below_alloc (below_alloc (Below.refl w.heap.size w) _) _).size hb⟩; have BK0 : Aside0 (w1.heap[w.heap.size]? = some (.cells #[.int .i64 a0_0, .slice A0_1 l0_1.length c0_1] 27 (0, 0))) := ⟨blk_below (by refine blk_alloc ?_ _; exact heap_alloc_new _ _) hb⟩; have BK1 : Aside0 (w1.heap[w.heap.size + 1]? = some (.cells #[.int .i64 0, .slice none 0 0] 27 (0, 0))) := ⟨blk_below (by have h_ := heap_alloc_new (w.alloc (.cells #[.int .i64 a0_0, .slice A0_1 l0_1.length c0_1] 27)) (.cells #[.int .i64 0, .slice none 0 0] 27); simpa using h_) hb⟩; clear hb; have hza0 : w1.cell? ⟨w.heap.size, 0, none⟩ = some (.int .i64 a0_0) := (blk_cell BK0.out 0).trans rfl; have hza1 : w1.cell? ⟨w.heap.size, 1, none⟩ = some (.slice A0_1 l0_1.length c0_1) := (blk_cell BK0.out 1).trans rfl; have hza3 : w1.cell? ⟨w.heap.size + 1, 0, none⟩ = some (.int .i64 0) := (blk_cell BK1.out 0).trans rfl; have hza4 : w1.cell? ⟨w.heap.size + 1, 1, none⟩ = some (.slice none 0 0) := (blk_cell BK1.out 1).trans rfl; have hfa3 := blk_frozen BK1.out 0; have hfa4 := blk_frozen BK1.out 1) | (go_at_call 55; refine (impl_in.calls a1 a0_0 (wrap64 (a0_0 + 1000)) true _ HIN.out).mono ?_; rintro e w_ ⟨rfl, ⟨nd, rfl⟩⟩; have nHB1 := Aside0.mk (below_then HB1.out HB1.out.size (pw_below_drewN (Below.refl _ _) nd)); have nBK0 := Aside0.mk (blk_drewN BK0.out nd); have nBK1 := Aside0.mk (blk_drewN BK1.out nd); clear HB1 BK0 BK1 hza0 hza1 hza3 hza4 hfa3 hfa4; generalize World.drewN w1 nd = w1 at nHB1 nBK0 nBK1 ⊢; have HB1 := nHB1; have BK0 := nBK0; have BK1 := nBK1; clear nHB1 nBK0 nBK1; have hzb0 : w1.cell? ⟨w.heap.size, 0, none⟩ = some (.int .i64 a0_0) := (blk_cell BK0.out 0).trans rfl; have hzb1 : w1.cell? ⟨w.heap.size, 1, none⟩ = some (.slice A0_1 l0_1.length c0_1) := (blk_cell BK0.out 1).trans rfl; have hzb3 : w1.cell? ⟨w.heap.size + 1, 0, none⟩ = some (.int .i64 0) := (blk_cell BK1.out 0).trans rfl; have hzb4 : w1.cell? ⟨w.heap.size + 1, 1, none⟩ = some (.slice none 0 0) := (blk_cell BK1.out 1).trans rfl; have hfb3 := blk_frozen BK1.out 0; have hfb4 := blk_frozen BK1.out 1) | (go_at_call 42; refine (impl_isNow.calls a1 false _ HNW.out).mono ?_; rintro e w_ ⟨rfl, ⟨nd, rfl⟩⟩; have nHB1 := Aside0.mk (below_then HB1.out HB1.out.size (pw_below_drewN (Below.refl _ _) nd)); have nBK0 := Aside0.mk (blk_drewN BK0.out nd); have nBK1 := Aside0.mk (blk_drewN BK1.out nd); clear HB1 BK0 BK1 hzb0 hzb1 hzb3 hzb4 hfb3 hfb4; generalize World.drewN w1 nd = w1 at nHB1 nBK0 nBK1 ⊢; have HB1 := nHB1; have BK0 := nBK0; have BK1 := nBK1; clear nHB1 nBK0 nBK1; have hzc0 : w1.cell? ⟨w.heap.size, 0, none⟩ = some (.int .i64 a0_0) := (blk_cell BK0.out 0).trans rfl; have hzc1 : w1.cell? ⟨w.heap.size, 1, none⟩ = some (.slice A0_1 l0_1.length c0_1) := (blk_cell BK0.out 1).trans rfl; have hzc3 : w1.cell? ⟨w.heap.size + 1, 0, none⟩ = some (.int .i64 0) := (blk_cell BK1.out 0).trans rfl; have hzc4 : w1.cell? ⟨w.heap.size + 1, 1, none⟩ = some (.slice none 0 0) := (blk_cell BK1.out 1).trans rfl; have hfc3 := blk_frozen BK1.out 0; have hfc4 := blk_frozen BK1.out 1))
    refine bodyPost_ret (results_cttt rfl _ _ (w.heap.size + 1) 27 #[.int .i64 0, .slice none 0 0] (0, 0) _ rfl (by refine blk_put (cs := #[.int .i64 0, .slice none 0 0]) ?_ 1 _ rfl; refine blk_put (cs := #[.int .i64 0, .slice none 0 0]) ?_ 0 _ rfl; exact BK1.out) Try.underlying27 rfl (by kernel_rfl)) rfl ?_
    exact ⟨_, _, rfl, Kd.S_nil _ _ _ _ _, Kd.R_nil _ _ _ _ _, (HB1.out.setCell (p := ⟨w.heap.size + 1, 0, none⟩) (Nat.le_add_right _ _) _).setCell (p := ⟨w.heap.size + 1, 1, none⟩) (Nat.le_add_right _ _) _⟩
   | true =>
    replace h := Option.bind_eq_some_iff.1 h
    obtain ⟨⟨x1, L⟩, hcw, h⟩ := h
    have HCW := Aside0.mk hcw
    clear hcw
    by_cases hlp : 0 < L.length
    case neg => simp only [if_neg hlp] at h; cases h
    simp only [if_pos hlp] at h
    have HLP := Aside0.mk hlp
    replace h := Option.bind_eq_some_iff.1 h
    obtain ⟨⟨y1, y2, y3, y4⟩, hti, h⟩ := h
    have HTI := Aside0.mk hti
    simp only [Option.some.injEq, Prod.mk.injEq] at h
    obtain ⟨rfl, rfl, rfl, rfl, rfl⟩ := h
    clear hti hlp
    go_enter Try.func38, Try.ntmps38
    go_wp2_with (first | (go_at_call 21; refine (impl_GoodWheel.calls k a0_0 _ _ l0_1 true _ (Kd.C_below HR0_1.out (below_alloc (below_alloc (Below.refl w.heap.size w) _) _)) HC0_1.out HGW.out).mono ?_; rintro e w1 ⟨rfl, hb⟩; have HB1 : Aside0 (Below w.heap.size w w1) := ⟨below_then (below_alloc (below_alloc (Below.refl w.heap.size w) _) _) (below_alloc (below_alloc (Below.refl w.heap.size w) _) _).size hb⟩; have BK0 : Aside0 (w1.heap[w.heap.size]? = some (.cells #[.int .i64 a0_0, .slice A0_1 l0_1.length c0_1] 27 (0, 0))) := ⟨blk_below (by refine blk_alloc ?_ _; exact heap_alloc_new _ _) hb⟩; have BK1 : Aside0 (w1.heap[w.heap.size + 1]? = some (.cells #[.int .i64 0, .slice none 0 0] 27 (0, 0))) := ⟨blk_below (by have h_ := heap_alloc_new (w.alloc (.cells #[.int .i64 a0_0, .slice A0_1 l0_1.length c0_1] 27)) (.cells #[.int .i64 0, .slice none 0 0] 27); simpa using h_) hb⟩; clear hb; have hza0 : w1.cell? ⟨w.heap.size, 0, none⟩ = some (.int .i64 a0_0) := (blk_cell BK0.out 0).trans rfl; have hza1 : w1.cell? ⟨w.heap.size, 1, none⟩ = some (.slice A0_1 l0_1.length c0_1) := (blk_cell BK0.out 1).trans rfl; have hza3 : w1.cell? ⟨w.heap.size + 1, 0, none⟩ = some (.int .i64 0) := (blk_cell BK1.out 0).trans rfl; have hza4 : w1.cell? ⟨w.heap.size + 1, 1, none⟩ = some (.slice none 0 0) := (blk_cell BK1.out 1).trans rfl; have hfa3 := blk_frozen BK1.out 0; have hfa4 := blk_frozen BK1.out 1) | (go_at_call 55; refine (impl_in.calls a1 a0_0 (wrap64 (a0_0 + 1000)) true _ HIN.out).mono ?_; rintro e w_ ⟨rfl, ⟨nd, rfl⟩⟩; have nHB1 := Aside0.mk (below_then HB1.out HB1.out.size (pw_below_drewN (Below.refl _ _) nd)); have nBK0 := Aside0.mk (blk_drewN BK0.out nd); have nBK1 := Aside0.mk (blk_drewN BK1.out nd); clear HB1 BK0 BK1 hza0 hza1 hza3 hza4 hfa3 hfa4; generalize World.drewN w1 nd = w1 at nHB1 nBK0 nBK1 ⊢; have HB1 := nHB1; have BK0 := nBK0; have BK1 := nBK1; clear nHB1 nBK0 nBK1; have hzb0 : w1.cell? ⟨w.heap.size, 0, none⟩ = some (.int .i64 a0_0) := (blk_cell BK0.out 0).trans rfl; have hzb1 : w1.cell? ⟨w.heap.size, 1, none⟩ = some (.slice A0_1 l0_1.length c0_1) := (blk_cell BK0.out 1).trans rfl; have hzb3 : w1.cell? ⟨w.heap.size + 1, 0, none⟩ = some (.int .i64 0) := (blk_cell BK1.out 0).trans rfl; have hzb4 : w1.cell? ⟨w.heap.size + 1, 1, none⟩ = some (.slice none 0 0) := (blk_cell BK1.out 1).trans rfl; have hfb3 := blk_frozen BK1.out 0; have hfb4 := blk_frozen BK1.out 1) | (go_at_call 42; refine (impl_isNow.calls a1 true _ HNW.out).mono ?_; rintro e w_ ⟨rfl, ⟨nd, rfl⟩⟩; have nHB1 := Aside0.mk (below_then HB1.out HB1.out.size (pw_below_drewN (Below.refl _ _) nd)); have nBK0 := Aside0.mk (blk_drewN BK0.out nd); have nBK1 := Aside0.mk (blk_drewN BK1.out nd); clear HB1 BK0 BK1 hzb0 hzb1 hzb3 hzb4 hfb3 hfb4; generalize World.drewN w1 nd = w1 at nHB1 nBK0 nBK1 ⊢; have HB1 := nHB1; have BK0 := nBK0; have BK1 := nBK1; clear nHB1 nBK0 nBK1; have hzc0 : w1.cell? ⟨w.heap.size, 0, none⟩ = some (.int .i64 a0_0) := (blk_cell BK0.out 0).trans rfl; have hzc1 : w1.cell? ⟨w.heap.size, 1, none⟩ = some (.slice A0_1 l0_1.length c0_1) := (blk_cell BK0.out 1).trans rfl; have hzc3 : w1.cell? ⟨w.heap.size + 1, 0, none⟩ = some (.int .i64 0) := (blk_cell BK1.out 0).trans rfl; have hzc4 : w1.cell? ⟨w.heap.size + 1, 1, none⟩ = some (.slice none 0 0) := (blk_cell BK1.out 1).trans rfl; have hfc3 := blk_frozen BK1.out 0; have hfc4 := blk_frozen BK1.out 1) | (go_at_call 58; refine (impl_cloneWheel.calls k a0_0 _ _ l0_1 x1 L _ (Kd.C_below HR0_1.out HB1.out) HC0_1.out HCW.out).mono ?_; rintro e w2 ⟨v3, rfl, ho, hb⟩; have HB2 := Aside0.mk (below_then HB1.out HB1.out.size hb); have nBK1 := Aside0.mk (blk_below BK1.out hb); have HOC := Aside0.mk (Kd.S_lower ho HB1.out.size); clear BK0 BK1 hb ho hzc0 hzc1 hzc3 hzc4 hfc3 hfc4; have BK1 := nBK1; clear nBK1; obtain ⟨g, cC, hv3, _, _, _⟩ := Kd.S_form HOC.out HLP.out; subst hv3) | ((with_reducible refine gate_dst (N := 34) rfl ?_); refine Kd.R_lit (Kd.int .i64) (w0 := w2) w2.heap.size 3 ?hg (N := 34) ?hd (xs := ([] : List Int)) (inner := []) (ok := fun _ => True) (okp := fun _ => True) ?hr (Reps.none _ _) (fun _ hk => hk) trivial (Below.refl _ _) (Nat.le_refl _) (by simp) ?_; (case hd => rfl); (case hg => rfl); (case hr => first | (go_simp; done) | (go_simp; rfl)); intro v34 w34 ho34 hb34 hg34 hn34; have HO34 := Aside0.mk (Kd.R_lower ho34 HB2.out.size); have HB34 := Aside0.mk hb34; clear ho34 hb34 hg34 hn34))
    obtain ⟨n, hn⟩ : ∃ n, n = L.length := ⟨_, rfl⟩
    have HBA := Aside0.mk (below_then HB34.out HB34.out.size (below_alloc (Below.refl w34.heap.size w34) (.cells #[.int .i64 x1, .slice (some ⟨g, 0, none⟩) L.length cC] 27)))
    have BX := Aside0.mk (heap_alloc_new w34 (.cells #[.int .i64 x1, .slice (some ⟨g, 0, none⟩) L.length cC] 27))
    have HGE := Aside0.mk (show w.heap.size ≤ w34.heap.size by have := HB2.out.size; have := HB34.out.size; omega)
    have HNE := Aside0.mk (show w.heap.size + 1 ≠ w34.heap.size by have := blk_lt (blk_below BK1.out HB34.out); omega)
    have HTK : Aside0 (TK (fun _ => True) w w g n cC [(w34.heap.size, #[.int .i64 x1, .slice (some ⟨g, 0, none⟩) n cC]), (w.heap.size + 1, #[.int .i64 0, .slice none 0 0])] (fun _ => False) (.slice none 0 0) [] (w34.alloc (.cells #[.int .i64 x1, .slice (some ⟨g, 0, none⟩) n cC] 27)) L v34 []) := ⟨by
     have h1 := HOC.out
     have h2 := BX.out
     have h3 := HBA.out
     rw [← hn] at h1 h2 h3
     exact ⟨Kd.S_mono (Kd.S_below h1 h3) (fun k hk => ⟨.inl trivial, fun h => h⟩), Kd.R_nil _ _ _ _ _, Kd.R_alloc HO34.out _, below_then HB2.out HB2.out.size h3, ⟨(below_then HB2.out HB2.out.size h3).size, fun _ _ h => absurd trivial h⟩, fun p hp => by
      simp only [List.mem_cons, List.not_mem_nil, or_false] at hp
      rcases hp with rfl | rfl
      ·exact h2
      ·exact blk_below BK1.out h3, fun _ hk => hk.elim⟩⟩
    have HNL := Aside0.mk hn
    clear hn
    rw [← HNL.out]
    clear HOC HO34 HB34 HBA BX BK1 HB2
    go_loopg [9, 10] k (fun kq v9 v10 w' => ∃ (now cnt : Int) (vd : Value) (L1 : List (List S45)) (all : List Int), v9 = vd ∧ v10 = .int .i64 cnt ∧ Aside0 (TK (fun _ => True) w w g n cC [(w34.heap.size, #[.int .i64 now, .slice (some ⟨g, 0, none⟩) n cC]), (w.heap.size + 1, #[.int .i64 0, .slice none 0 0])] (fun _ => False) (.slice none 0 0) [] w' L1 vd all) ∧ Aside0 (advG (impl_tick.f k) true a1 kq now L1 all cnt = some (y1, y2, y3, y4)))
    case atStart => exact ⟨x1, 0, _, L, [], rfl, rfl, HTK, HTI⟩
    case round =>
     clear HTK HTI
     obtain ⟨now, cnt, vd, L1, all, rfl, rfl, HTK, HTI⟩ := hrel
     have hz0 : wr.cell? ⟨w34.heap.size, 0, none⟩ = some (.int .i64 now) := (blk_cell (HTK.out.box (List.mem_cons_self)) 0).trans rfl
     have hz1 : wr.cell? ⟨w34.heap.size, 1, none⟩ = some (.slice (some ⟨g, 0, none⟩) n cC) := (blk_cell (HTK.out.box (List.mem_cons_self)) 1).trans rfl
     cases gk with
     | zero => have h := HTI.out; simp only [advG] at h; cases h
     | succ k1 =>
      have hF := HTI.out
      simp only [advG] at hF
      by_cases hlt : now < a1
      ·rw [if_pos hlt] at hF
       have hltb : decide (now < a1) = true := decide_eq_true hlt
       replace hF := Option.bind_eq_some_iff.1 hF
       obtain ⟨⟨t1, t2, t3, t4⟩, hT, hF⟩ := hF
       by_cases hal : all.length + t3.length < 4000000
       case neg => simp only [if_neg hal] at hF; cases hF
       simp only [if_pos hal, if_true] at hF
       have HT1 := Aside0.mk hT
       have HTN := Aside0.mk hF
       have HAL := Aside0.mk hal
       clear hT hF hal hlt HTI
       have hlen := HTK.out.len
       have HBX := Aside0.mk (HTK.out.box (b := w34.heap.size) (cs := #[.int .i64 now, .slice (some ⟨g, 0, none⟩) n cC]) List.mem_cons_self)
       have HRB := Aside0.mk (HTK.out.box (b := w.heap.size + 1) (cs := #[.int .i64 0, .slice none 0 0]) (by simp))
       obtain ⟨Av, cv, rfl⟩ := Kd.R_slice HTK.out.D
       have hcon := impl_tick.own k now (some ⟨g, 0, none⟩) cC L1 t1 t2 t3 t4 (fun k => ((w.heap.size ≤ k ∧ some k ≠ (Value.slice Av all.length cv).ownBlock) ∧ k ≠ w34.heap.size) ∧ k ≠ w.heap.size + 1) w wr w34.heap.size HGE.out (by rw [← hlen]; exact HBX.out) HTK.out.B (fun k hk => hk.1.1.1) (by rw [← hlen]; exact Kd.S_types (Kd.S_types HTK.out.apart HBX.out (by decide)) HRB.out (by decide)) HT1.out
       rw [← hlen] at hcon
       have HCON := Aside0.mk hcon
       clear hcon hlen
       go_wp2_with (first | (go_at_call 69; refine HCON.out.mono ?_; rintro e w3 ⟨vd3, rfl, hbo, hs3, hd3, hb3, hk3⟩; have HTK3 : Aside0 (TK (fun _ => True) w w g n cC [(w34.heap.size, #[.int .i64 t1, .slice (some ⟨g, 0, none⟩) n cC]), (w.heap.size + 1, #[.int .i64 0, .slice none 0 0])] (fun _ => False) (.slice none 0 0) [] w3 t2 (.slice Av all.length cv) all) := ⟨⟨Kd.S_mono hs3 (fun k _ => ⟨.inl trivial, fun h => h⟩), Kd.R_nil _ _ _ _ _, Kd.R_mono (Kd.R_kept (Kd.R_tight rfl HTK.out.D) hk3 (fun q h1 h2 => by
        rcases h2 with h2 | h2
        ·exact h2.1.1.2 h1
        ·obtain ⟨cells, hc⟩ := Kd.R_typed HTK.out.D q h1.symm
         rw [h2, HBX.out] at hc
         injection hc with hc
         injection hc with _ hc
         exact absurd hc (by decide))) (fun _ _ => trivial), hb3, ⟨hb3.size, fun _ _ h => absurd trivial h⟩, fun p hp => by
        simp only [List.mem_cons, List.not_mem_nil, or_false] at hp
        rcases hp with rfl | rfl
        ·exact hbo
        ·exact blk_kept HRB.out hk3 (by rintro (h | h); exact h.2 rfl; exact HNE.out h), fun _ hk => hk.elim⟩⟩; obtain ⟨Ad, cd, rfl, hcd, hCd⟩ := Kd.R_reads hd3; have HCD := Aside0.mk hCd; clear hcd hCd hd3 hs3 hbo hb3 hk3 hz0 hz1) | ((with_reducible refine gate_builtin (b := .append) (xs := #[.tmp 43, .tmp 44]) rfl ?_); (try (refine gate_guard (by rfl) ?_; dsimp only)); at_builtin; refine Kd.R_append_rows (Kd.int .i64) (w0 := w3) w.heap.size rfl (.tmp 43) (.tmp 44) 53 3 (.int .i64 0) 8 rfl Try.underlying53 info3 rfl (by decide) (by omega) (.slice Av all.length cv) all t3 Ad t3.length cd (fun _ => True) (fun _ => False) rfl rfl HTK3.out.D HCD.out (fun _ _ h => h) (fun _ h => h.elim) (fun _ _ => trivial) (Below.refl _ _) HTK3.out.K.1 (by have := HAL.out; omega) ?_; intro v5 w5 ho5 hb5 hg5 hat5; have HTB := Aside0.mk (HTK3.out.grow (Nat.le_refl _) hg5 ho5); clear ho5 hb5 hg5 hat5))
       go_roundg k1
       case measure => omega
       case rel => exact ⟨t1, _, _, t2, all ++ t3, rfl, rfl, HTB, HTN⟩
      ·rw [if_neg hlt] at hF
       have hltb : decide (now < a1) = false := decide_eq_false hlt
       simp only [Option.some.injEq, Prod.mk.injEq] at hF
       obtain ⟨rfl, rfl, rfl, rfl⟩ := hF
       have B1 := Aside0.mk (HTK.out.box (b := w.heap.size + 1) (cs := #[.int .i64 0, .slice none 0 0]) (by simp))
       have HTE := Aside0.mk (HTK.out.fin (b := w.heap.size + 1) (cs := #[.int .i64 0, .slice none 0 0]) (by simp) (Nat.le_refl _) (Nat.le_succ _) (.int .i64 now) (.slice (some ⟨g, 0, none⟩) n cC))
       have hz2 : wr.cell? ⟨w.heap.size + 1, 0, none⟩ = some (.int .i64 0) := (blk_cell B1.out 0).trans rfl
       have hz3 : wr.cell? ⟨w.heap.size + 1, 1, none⟩ = some (.slice none 0 0) := (blk_cell B1.out 1).trans rfl
       have hz4 := blk_frozen B1.out 0
       have hz5 := blk_frozen B1.out 1
       have HLN := Aside0.mk HTK.out.len
       clear hlt
       go_wp2
       refine bodyPost_ret (results_cttt rfl _ _ (w.heap.size + 1) 27 #[.int .i64 now, .slice (some ⟨g, 0, none⟩) n cC] (0, 0) _ rfl (by refine blk_put (cs := #[.int .i64 now, .slice none 0 0]) ?_ 1 _ rfl; refine blk_put (cs := #[.int .i64 0, .slice none 0 0]) ?_ 0 _ rfl; exact B1.out) Try.underlying27 rfl (by kernel_rfl)) rfl ?_
       exact ⟨_, _, rfl, Kd.S_mono HTE.out.S (fun _ _ => trivial), HTE.out.D, HTE.out.B⟩

end Go.Proofs.Ytgmjfdehladelaa.PFnExactAdvanceWheel
