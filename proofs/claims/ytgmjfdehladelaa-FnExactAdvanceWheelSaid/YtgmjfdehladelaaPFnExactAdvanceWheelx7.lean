-- written by xprint.py (a program of this session's, over the kit's print): printed functions, and some by hand
import Derived.Test.YtgmjfdehladelaaPFnExactAdvanceWheelx0
import Derived.Test.YtgmjfdehladelaaPFnExactAdvanceWheelx3
import Derived.Test.YtgmjfdehladelaaPFnExactAdvanceWheelx4
import Derived.Test.YtgmjfdehladelaaPFnExactAdvanceWheelx5
import Derived.Test.YtgmjfdehladelaaPFnExactAdvanceWheelx6
namespace Go.Proofs.Ytgmjfdehladelaa.PFnExactAdvanceWheel
open Go.RowKit Go.Proofs.YtgmjfdehladelaaW.PrintWords Go.Proofs.YtgmjfdehladelaaW.PrintLast Go.Proofs.YtgmjfdehladelaaW.PrintMore
attribute [local go_sem] max2_int min2_int max_two min_two max_three min_three max_four min_four   -- for this text's walks alone
set_option linter.unusedVariables false
set_option linter.unusedSimpArgs false

/-! ### spec_AdvanceWheel: function 37, by hand -/
theorem results_cttt {P : Program} {fn : Func} {p u v x : Tmp} {ty : TypeId} (h : fn.results = #[.cell p ty, .tmp u, .tmp v, .tmp x]) (tmps : Array Value) (w : World) (g : Nat) (t : TypeId) (cs : Array Value) (fr : Nat × Nat) (d : TypeDesc)
  (hp : tmps.getD p undef = .pointer (some ⟨g, 0, none⟩)) (hg : w.heap[g]? = some (.cells cs t fr))
  (hu : P.underlying ty = some d) (hd : (match d with | .struct _ | .array _ _ => true | _ => false) = true) (hi : (P.info? ty).map (·.size) = some cs.size) :
  (results fn tmps).run P w = .ok (.tuple #[.agg cs, tmps.getD u undef, tmps.getD v undef, tmps.getD x undef]) w := by
 have hp' : tmps[p]?.getD undef = .pointer (some ⟨g, 0, none⟩) := by simpa using hp
 simp [results, h, hp', asAddr, run_loadVar_row w g t ty cs fr d hg hu hd hi]
/-- the ticks up to a time: all that is due, and how many were moved -/
def advG (tick : Int → List (List S45) → Option (Int × List (List S45) × List Int × Int)) (plus : Bool) (till : Int) : Nat → Int → List (List S45) → List Int → Int → Option (Int × List (List S45) × List Int × Int)
 | 0, _, _, _, _ => none
 | k + 1, now, L, all, c => if now < till then ((tick now L).bind fun y => if all.length + y.2.2.1.length < 4000000 then advG tick plus till k y.1 y.2.1 (all ++ y.2.2.1) (if plus = true then wrap64 (wrap64 (c + y.2.2.2) + (y.2.2.1.length : Int)) else wrap64 (c + y.2.2.2)) else none) else some (now, L, all, c)
theorem advG_le {t t' : Int → List (List S45) → Option (Int × List (List S45) × List Int × Int)} (h : ∀ n L, LeO (t n L) (t' n L)) (plus : Bool) (till : Int) : ∀ k n L a c, LeO (advG t plus till k n L a c) (advG t' plus till (k + 1) n L a c)
 | 0, _, _, _, _ => LeO.none _
 | k + 1, _, _, _, _ => LeO.ite (LeO.bind (h _ _) (fun _ => LeO.ite (advG_le h plus till k _ _ _ _) (LeO.refl _))) (LeO.refl _)
theorem TK.apart {P Q : Nat → Prop} {w0 w : World} {g n c : Nat} {bs : List (Nat × Array Value)} {vr : Value} {row : List S45} {W : World} {L : List (List S45)} {vd : Value} {d : List Int} (h : TK P w0 w g n c bs Q vr row W L vd d) : Kd.S (Kd.slice 45 k45) 48 W w0.heap.size (fun k => w0.heap.size ≤ k ∧ some k ≠ vd.ownBlock) (.slice (some ⟨g, 0, none⟩) n c) L := by
 cases hvo : vd.ownBlock with
 | none => exact Kd.S_mono (Kd.S_bound h.S) (fun k hk => ⟨hk.2.1, by simp⟩)
 | some b =>
  obtain ⟨cells, hc⟩ := Kd.R_typed h.D b hvo
  exact Kd.S_mono (Kd.S_types (Kd.S_bound h.S) hc (by decide)) (fun k hk => ⟨hk.1.2.1, by simpa using hk.2⟩)
theorem TK.upd {P : Nat → Prop} {w0 w : World} {g n c b b2 : Nat} {u0 u1 : Value} {cs2 : Array Value} {W : World} {L : List (List S45)} {vd : Value} {d : List Int} (h : TK P w0 w g n c [(b, #[u0, u1]), (b2, cs2)] (fun _ => False) (.slice none 0 0) [] W L vd d) (hw : w0.heap.size ≤ w.heap.size) (hbw : w.heap.size ≤ b) (hne : b2 ≠ b) (v0 v1 : Value) : TK P w0 w g n c [(b, #[v0, v1]), (b2, cs2)] (fun _ => False) (.slice none 0 0) [] ((W.setCell ⟨b, 0, none⟩ v0).setCell ⟨b, 1, none⟩ v1) L vd d := by
 have hf := h.fin (b := b) (cs := #[u0, u1]) (by simp) hw hbw v0 v1
 refine ⟨hf.S, hf.R, hf.D, hf.B, hf.K, fun p hp => ?_, hf.N⟩
 simp only [List.mem_cons, List.not_mem_nil, or_false] at hp
 rcases hp with rfl | rfl
 ·exact blk_put (cs := #[v0, u1]) (blk_put (cs := #[u0, u1]) (h.X (b, #[u0, u1]) (by simp)) 0 _ rfl) 1 _ rfl
 ·exact blk_far (blk_far (h.X (b2, cs2) (by simp)) (p := ⟨b, 0, none⟩) hne _) (p := ⟨b, 1, none⟩) hne _
def spec_AdvanceWheel.f (k : Nat) (a0_0 : Int) (l0_1 : List (List S45)) (a1 : Int) : Option (Int × List (List S45) × List Int × Int × Bool) := (spec_GoodWheel.f k a0_0 l0_1).bind fun b => if b = true then ((spec_l1In.f a1 a0_0 (wrap64 (a0_0 + 1000))).bind fun b2 => if b2 = true then (if a1 > 100000 then some (0, [], [], 0, false) else ((spec_l5Own.f k a0_0 l0_1).bind fun x => if 0 < x.2.length then ((advG (spec_l5Tick.f k) false a1 k x.1 x.2 [] 0).bind fun y => some (y.1, y.2.1, y.2.2.1, y.2.2.2, true)) else none)) else some (0, [], [], 0, false)) else some (0, [], [], 0, false)
theorem spec_AdvanceWheel.mono : ∀ a0 a1 a2 k, LeO (spec_AdvanceWheel.f k a0 a1 a2) (spec_AdvanceWheel.f (k + 1) a0 a1 a2) := fun a0 a1 a2 k => LeO.bind (spec_GoodWheel.mono a0 a1 k) (fun _ => LeO.ite (LeO.bind (LeO.refl _) (fun _ => LeO.ite (LeO.ite (LeO.refl _) (LeO.bind (spec_l5Own.mono a0 a1 k) (fun x => LeO.ite (LeO.bind (advG_le (fun n L => spec_l5Tick.mono n L k) _ _ k _ _ _ _) (fun _ => LeO.refl _)) (LeO.refl _)))) (LeO.refl _))) (LeO.refl _))
set_option maxHeartbeats 8000000 in
set_option maxRecDepth 100000 in
theorem spec_AdvanceWheel.calls (k : Nat) (a0_0 : Int) (A0_1 : Option Addr) (c0_1 : Nat) (l0_1 : List (List S45)) (a1 : Int) (r1 : Int) (r2 : List (List S45)) (r3 : List Int) (r4 : Int) (r5 : Bool) (w : World) (hr0_1 : Kd.C (Kd.slice 45 k45) w A0_1 l0_1.length l0_1) (hc0_1 : l0_1.length ≤ c0_1) (h : spec_AdvanceWheel.f k a0_0 l0_1 a1 = some (r1, r2, r3, r4, r5)) :
  Calls Try.prog 37 #[.agg #[.int .i64 a0_0, .slice A0_1 l0_1.length c0_1], .int .i64 a1] w fun e w' => ∃ v u : Value, e = .returned (.tuple #[.agg #[.int .i64 r1, v], u, .int .i64 r4, .bool r5]) ∧ Kd.S (Kd.slice 45 k45) 48 w' w.heap.size (fun _ => True) v r2 ∧ Kd.R (Kd.int .i64) 3 w' w.heap.size (fun _ => True) u r3 ∧ Below w.heap.size w w' := by
 have hu27 := Try.underlying27
 have HR0_1 := Aside0.mk hr0_1
 have HC0_1 := Aside0.mk hc0_1
 clear hr0_1 hc0_1
 unfold spec_AdvanceWheel.f at h
 replace h := Option.bind_eq_some_iff.1 h
 obtain ⟨b, hb0, h⟩ := h
 have HGW := Aside0.mk hb0
 clear hb0
 cases b with
 | false =>
  have h2 : some ((0 : Int), ([] : List (List S45)), ([] : List Int), (0 : Int), false) = some (r1, r2, r3, r4, r5) := h
  simp only [Option.some.injEq, Prod.mk.injEq] at h2
  obtain ⟨rfl, rfl, rfl, rfl, rfl⟩ := h2
  clear h
  go_enter Try.func37, Try.ntmps37
  go_wp2_with (go_at_call 19; refine (spec_GoodWheel.calls k a0_0 _ _ l0_1 false _ (Kd.C_below HR0_1.out (below_alloc (below_alloc (Below.refl w.heap.size w) _) _)) HC0_1.out HGW.out).mono ?_; rintro e w1 ⟨rfl, hb⟩; have HB1 : Aside0 (Below w.heap.size w w1) := ⟨below_then (below_alloc (below_alloc (Below.refl w.heap.size w) _) _) (below_alloc (below_alloc (Below.refl w.heap.size w) _) _).size hb⟩; have BK0 : Aside0 (w1.heap[w.heap.size]? = some (.cells #[.int .i64 a0_0, .slice A0_1 l0_1.length c0_1] 27 (0, 0))) := ⟨blk_below (by refine blk_alloc ?_ _; exact heap_alloc_new _ _) hb⟩; have BK1 : Aside0 (w1.heap[w.heap.size + 1]? = some (.cells #[.int .i64 0, .slice none 0 0] 27 (0, 0))) := ⟨blk_below (by have h_ := heap_alloc_new (w.alloc (.cells #[.int .i64 a0_0, .slice A0_1 l0_1.length c0_1] 27)) (.cells #[.int .i64 0, .slice none 0 0] 27); simpa using h_) hb⟩; clear hb; have hza0 : w1.cell? ⟨w.heap.size, 0, none⟩ = some (.int .i64 a0_0) := (blk_cell BK0.out 0).trans rfl; have hza1 : w1.cell? ⟨w.heap.size, 1, none⟩ = some (.slice A0_1 l0_1.length c0_1) := (blk_cell BK0.out 1).trans rfl; have hza3 : w1.cell? ⟨w.heap.size + 1, 0, none⟩ = some (.int .i64 0) := (blk_cell BK1.out 0).trans rfl; have hza4 : w1.cell? ⟨w.heap.size + 1, 1, none⟩ = some (.slice none 0 0) := (blk_cell BK1.out 1).trans rfl; have hfa3 := blk_frozen BK1.out 0; have hfa4 := blk_frozen BK1.out 1)
  refine bodyPost_ret (results_cttt rfl _ _ (w.heap.size + 1) 27 #[.int .i64 0, .slice none 0 0] (0, 0) _ rfl (by refine blk_put (cs := #[.int .i64 0, .slice none 0 0]) ?_ 1 _ rfl; refine blk_put (cs := #[.int .i64 0, .slice none 0 0]) ?_ 0 _ rfl; exact BK1.out) Try.underlying27 rfl (by kernel_rfl)) rfl ?_
  exact ⟨_, _, rfl, Kd.S_nil _ _ _ _ _, Kd.R_nil _ _ _ _ _, (HB1.out.setCell (p := ⟨w.heap.size + 1, 0, none⟩) (Nat.le_add_right _ _) _).setCell (p := ⟨w.heap.size + 1, 1, none⟩) (Nat.le_add_right _ _) _⟩
 | true =>
  replace h : ((spec_l1In.f a1 a0_0 (wrap64 (a0_0 + 1000))).bind fun b2 => if b2 = true then (if a1 > 100000 then some (0, [], [], 0, false) else ((spec_l5Own.f k a0_0 l0_1).bind fun x => if 0 < x.2.length then ((advG (spec_l5Tick.f k) false a1 k x.1 x.2 [] 0).bind fun y => some (y.1, y.2.1, y.2.2.1, y.2.2.2, true)) else none)) else some (0, [], [], 0, false)) = some (r1, r2, r3, r4, r5) := h
  replace h := Option.bind_eq_some_iff.1 h
  obtain ⟨b2, hb0, h⟩ := h
  have HIN := Aside0.mk hb0
  clear hb0
  cases b2 with
  | false =>
   have h2 : some ((0 : Int), ([] : List (List S45)), ([] : List Int), (0 : Int), false) = some (r1, r2, r3, r4, r5) := h
   simp only [Option.some.injEq, Prod.mk.injEq] at h2
   obtain ⟨rfl, rfl, rfl, rfl, rfl⟩ := h2
   clear h
   go_enter Try.func37, Try.ntmps37
   go_wp2_with (first | (go_at_call 19; refine (spec_GoodWheel.calls k a0_0 _ _ l0_1 true _ (Kd.C_below HR0_1.out (below_alloc (below_alloc (Below.refl w.heap.size w) _) _)) HC0_1.out HGW.out).mono ?_; rintro e w1 ⟨rfl, hb⟩; have HB1 : Aside0 (Below w.heap.size w w1) := ⟨below_then (below_alloc (below_alloc (Below.refl w.heap.size w) _) _) (below_alloc (below_alloc (Below.refl w.heap.size w) _) _).size hb⟩; have BK0 : Aside0 (w1.heap[w.heap.size]? = some (.cells #[.int .i64 a0_0, .slice A0_1 l0_1.length c0_1] 27 (0, 0))) := ⟨blk_below (by refine blk_alloc ?_ _; exact heap_alloc_new _ _) hb⟩; have BK1 : Aside0 (w1.heap[w.heap.size + 1]? = some (.cells #[.int .i64 0, .slice none 0 0] 27 (0, 0))) := ⟨blk_below (by have h_ := heap_alloc_new (w.alloc (.cells #[.int .i64 a0_0, .slice A0_1 l0_1.length c0_1] 27)) (.cells #[.int .i64 0, .slice none 0 0] 27); simpa using h_) hb⟩; clear hb; have hza0 : w1.cell? ⟨w.heap.size, 0, none⟩ = some (.int .i64 a0_0) := (blk_cell BK0.out 0).trans rfl; have hza1 : w1.cell? ⟨w.heap.size, 1, none⟩ = some (.slice A0_1 l0_1.length c0_1) := (blk_cell BK0.out 1).trans rfl; have hza3 : w1.cell? ⟨w.heap.size + 1, 0, none⟩ = some (.int .i64 0) := (blk_cell BK1.out 0).trans rfl; have hza4 : w1.cell? ⟨w.heap.size + 1, 1, none⟩ = some (.slice none 0 0) := (blk_cell BK1.out 1).trans rfl; have hfa3 := blk_frozen BK1.out 0; have hfa4 := blk_frozen BK1.out 1) | (go_at_call 39; refine (spec_l1In.calls a1 a0_0 (wrap64 (a0_0 + 1000)) false _ HIN.out).mono ?_; rintro e w_ ⟨rfl, ⟨nd, rfl⟩⟩; have nHB1 := Aside0.mk (below_then HB1.out HB1.out.size (pw_below_drewN (Below.refl _ _) nd)); have nBK0 := Aside0.mk (blk_drewN BK0.out nd); have nBK1 := Aside0.mk (blk_drewN BK1.out nd); clear HB1 BK0 BK1 hza0 hza1 hza3 hza4 hfa3 hfa4; generalize World.drewN w1 nd = w1 at nHB1 nBK0 nBK1 ⊢; have HB1 := nHB1; have BK0 := nBK0; have BK1 := nBK1; clear nHB1 nBK0 nBK1; have hzb0 : w1.cell? ⟨w.heap.size, 0, none⟩ = some (.int .i64 a0_0) := (blk_cell BK0.out 0).trans rfl; have hzb1 : w1.cell? ⟨w.heap.size, 1, none⟩ = some (.slice A0_1 l0_1.length c0_1) := (blk_cell BK0.out 1).trans rfl; have hzb3 : w1.cell? ⟨w.heap.size + 1, 0, none⟩ = some (.int .i64 0) := (blk_cell BK1.out 0).trans rfl; have hzb4 : w1.cell? ⟨w.heap.size + 1, 1, none⟩ = some (.slice none 0 0) := (blk_cell BK1.out 1).trans rfl; have hfb3 := blk_frozen BK1.out 0; have hfb4 := blk_frozen BK1.out 1))
   refine bodyPost_ret (results_cttt rfl _ _ (w.heap.size + 1) 27 #[.int .i64 0, .slice none 0 0] (0, 0) _ rfl (by refine blk_put (cs := #[.int .i64 0, .slice none 0 0]) ?_ 1 _ rfl; refine blk_put (cs := #[.int .i64 0, .slice none 0 0]) ?_ 0 _ rfl; exact BK1.out) Try.underlying27 rfl (by kernel_rfl)) rfl ?_
   exact ⟨_, _, rfl, Kd.S_nil _ _ _ _ _, Kd.R_nil _ _ _ _ _, (HB1.out.setCell (p := ⟨w.heap.size + 1, 0, none⟩) (Nat.le_add_right _ _) _).setCell (p := ⟨w.heap.size + 1, 1, none⟩) (Nat.le_add_right _ _) _⟩
  | true =>
   replace h : (if a1 > 100000 then some (0, [], [], 0, false) else ((spec_l5Own.f k a0_0 l0_1).bind fun x => if 0 < x.2.length then ((advG (spec_l5Tick.f k) false a1 k x.1 x.2 [] 0).bind fun y => some (y.1, y.2.1, y.2.2.1, y.2.2.2, true)) else none)) = some (r1, r2, r3, r4, r5) := h
   by_cases hm : a1 > 100000
   case pos =>
    rw [if_pos hm] at h
    have hmb : decide (100000 < a1) = true := decide_eq_true hm
    have hmc : decide (a1 > 100000) = true := decide_eq_true hm
    clear hm
    have h2 : some ((0 : Int), ([] : List (List S45)), ([] : List Int), (0 : Int), false) = some (r1, r2, r3, r4, r5) := h
    simp only [Option.some.injEq, Prod.mk.injEq] at h2
    obtain ⟨rfl, rfl, rfl, rfl, rfl⟩ := h2
    clear h
    go_enter Try.func37, Try.ntmps37
    go_wp2_with (first | (go_at_call 19; refine (spec_GoodWheel.calls k a0_0 _ _ l0_1 true _ (Kd.C_below HR0_1.out (below_alloc (below_alloc (Below.refl w.heap.size w) _) _)) HC0_1.out HGW.out).mono ?_; rintro e w1 ⟨rfl, hb⟩; have HB1 : Aside0 (Below w.heap.size w w1) := ⟨below_then (below_alloc (below_alloc (Below.refl w.heap.size w) _) _) (below_alloc (below_alloc (Below.refl w.heap.size w) _) _).size hb⟩; have BK0 : Aside0 (w1.heap[w.heap.size]? = some (.cells #[.int .i64 a0_0, .slice A0_1 l0_1.length c0_1] 27 (0, 0))) := ⟨blk_below (by refine blk_alloc ?_ _; exact heap_alloc_new _ _) hb⟩; have BK1 : Aside0 (w1.heap[w.heap.size + 1]? = some (.cells #[.int .i64 0, .slice none 0 0] 27 (0, 0))) := ⟨blk_below (by have h_ := heap_alloc_new (w.alloc (.cells #[.int .i64 a0_0, .slice A0_1 l0_1.length c0_1] 27)) (.cells #[.int .i64 0, .slice none 0 0] 27); simpa using h_) hb⟩; clear hb; have hza0 : w1.cell? ⟨w.heap.size, 0, none⟩ = some (.int .i64 a0_0) := (blk_cell BK0.out 0).trans rfl; have hza1 : w1.cell? ⟨w.heap.size, 1, none⟩ = some (.slice A0_1 l0_1.length c0_1) := (blk_cell BK0.out 1).trans rfl; have hza3 : w1.cell? ⟨w.heap.size + 1, 0, none⟩ = some (.int .i64 0) := (blk_cell BK1.out 0).trans rfl; have hza4 : w1.cell? ⟨w.heap.size + 1, 1, none⟩ = some (.slice none 0 0) := (blk_cell BK1.out 1).trans rfl; have hfa3 := blk_frozen BK1.out 0; have hfa4 := blk_frozen BK1.out 1) | (go_at_call 39; refine (spec_l1In.calls a1 a0_0 (wrap64 (a0_0 + 1000)) true _ HIN.out).mono ?_; rintro e w_ ⟨rfl, ⟨nd, rfl⟩⟩; have nHB1 := Aside0.mk (below_then HB1.out HB1.out.size (pw_below_drewN (Below.refl _ _) nd)); have nBK0 := Aside0.mk (blk_drewN BK0.out nd); have nBK1 := Aside0.mk (blk_drewN BK1.out nd); clear HB1 BK0 BK1 hza0 hza1 hza3 hza4 hfa3 hfa4; generalize World.drewN w1 nd = w1 at nHB1 nBK0 nBK1 ⊢; have HB1 := nHB1; have BK0 := nBK0; have BK1 := nBK1; clear nHB1 nBK0 nBK1; have hzb0 : w1.cell? ⟨w.heap.size, 0, none⟩ = some (.int .i64 a0_0) := (blk_cell BK0.out 0).trans rfl; have hzb1 : w1.cell? ⟨w.heap.size, 1, none⟩ = some (.slice A0_1 l0_1.length c0_1) := (blk_cell BK0.out 1).trans rfl; have hzb3 : w1.cell? ⟨w.heap.size + 1, 0, none⟩ = some (.int .i64 0) := (blk_cell BK1.out 0).trans rfl; have hzb4 : w1.cell? ⟨w.heap.size + 1, 1, none⟩ = some (.slice none 0 0) := (blk_cell BK1.out 1).trans rfl; have hfb3 := blk_frozen BK1.out 0; have hfb4 := blk_frozen BK1.out 1))
    refine bodyPost_ret (results_cttt rfl _ _ (w.heap.size + 1) 27 #[.int .i64 0, .slice none 0 0] (0, 0) _ rfl (by refine blk_put (cs := #[.int .i64 0, .slice none 0 0]) ?_ 1 _ rfl; refine blk_put (cs := #[.int .i64 0, .slice none 0 0]) ?_ 0 _ rfl; exact BK1.out) Try.underlying27 rfl (by kernel_rfl)) rfl ?_
    exact ⟨_, _, rfl, Kd.S_nil _ _ _ _ _, Kd.R_nil _ _ _ _ _, (HB1.out.setCell (p := ⟨w.heap.size + 1, 0, none⟩) (Nat.le_add_right _ _) _).setCell (p := ⟨w.heap.size + 1, 1, none⟩) (Nat.le_add_right _ _) _⟩
   case neg =>
    rw [if_neg hm] at h
    have hmb : decide (100000 < a1) = false := decide_eq_false hm
    have hmc : decide (a1 > 100000) = false := decide_eq_false hm
    clear hm
    replace h := Option.bind_eq_some_iff.1 h
    obtain ⟨⟨x1, L⟩, hcw, h⟩ := h
    have HCW := Aside0.mk hcw
    clear hcw
    by_cases hlp : 0 < L.length
    case neg => simp only [if_neg hlp] at h; cases h
    simp only [if_pos hlp] at h
    have HLP := Aside0.mk hlp
    replace h := Option.bind_eq_some_iff.1 h
    obtain ⟨⟨y1, y2, y3, y4⟩, hti, h⟩ := h
    have HTI := Aside0.mk hti
    simp only [Option.some.injEq, Prod.mk.injEq] at h
    obtain ⟨rfl, rfl, rfl, rfl, rfl⟩ := h
    clear hti hlp
    go_enter Try.func37, Try.ntmps37
    go_wp2_with (first | (go_at_call 19; refine (spec_GoodWheel.calls k a0_0 _ _ l0_1 true _ (Kd.C_below HR0_1.out (below_alloc (below_alloc (Below.refl w.heap.size w) _) _)) HC0_1.out HGW.out).mono ?_; rintro e w1 ⟨rfl, hb⟩; have HB1 : Aside0 (Below w.heap.size w w1) := ⟨below_then (below_alloc (below_alloc (Below.refl w.heap.size w) _) _) (below_alloc (below_alloc (Below.refl w.heap.size w) _) _).size hb⟩; have BK0 : Aside0 (w1.heap[w.heap.size]? = some (.cells #[.int .i64 a0_0, .slice A0_1 l0_1.length c0_1] 27 (0, 0))) := ⟨blk_below (by refine blk_alloc ?_ _; exact heap_alloc_new _ _) hb⟩; have BK1 : Aside0 (w1.heap[w.heap.size + 1]? = some (.cells #[.int .i64 0, .slice none 0 0] 27 (0, 0))) := ⟨blk_below (by have h_ := heap_alloc_new (w.alloc (.cells #[.int .i64 a0_0, .slice A0_1 l0_1.length c0_1] 27)) (.cells #[.int .i64 0, .slice none 0 0] 27); simpa using h_) hb⟩; clear hb; have hza0 : w1.cell? ⟨w.heap.size, 0, none⟩ = some (.int .i64 a0_0) := (blk_cell BK0.out 0).trans rfl; have hza1 : w1.cell? ⟨w.heap.size, 1, none⟩ = some (.slice A0_1 l0_1.length c0_1) := (blk_cell BK0.out 1).trans rfl; have hza3 : w1.cell? ⟨w.heap.size + 1, 0, none⟩ = some (.int .i64 0) := (blk_cell BK1.out 0).trans rfl; have hza4 : w1.cell? ⟨w.heap.size + 1, 1, none⟩ = some (.slice none 0 0) := (blk_cell BK1.out 1).trans rfl; have hfa3 := blk_frozen BK1.out 0; have hfa4 := blk_frozen BK1.out 1) | (go_at_call 39; refine (spec_l1In.calls a1 a0_0 (wrap64 (a0_0 + 1000)) true _ HIN.out).mono ?_; rintro e w_ ⟨rfl, ⟨nd, rfl⟩⟩; have nHB1 := Aside0.mk (below_then HB1.out HB1.out.size (pw_below_drewN (Below.refl _ _) nd)); have nBK0 := Aside0.mk (blk_drewN BK0.out nd); have nBK1 := Aside0.mk (blk_drewN BK1.out nd); clear HB1 BK0 BK1 hza0 hza1 hza3 hza4 hfa3 hfa4; generalize World.drewN w1 nd = w1 at nHB1 nBK0 nBK1 ⊢; have HB1 := nHB1; have BK0 := nBK0; have BK1 := nBK1; clear nHB1 nBK0 nBK1; have hzb0 : w1.cell? ⟨w.heap.size, 0, none⟩ = some (.int .i64 a0_0) := (blk_cell BK0.out 0).trans rfl; have hzb1 : w1.cell? ⟨w.heap.size, 1, none⟩ = some (.slice A0_1 l0_1.length c0_1) := (blk_cell BK0.out 1).trans rfl; have hzb3 : w1.cell? ⟨w.heap.size + 1, 0, none⟩ = some (.int .i64 0) := (blk_cell BK1.out 0).trans rfl; have hzb4 : w1.cell? ⟨w.heap.size + 1, 1, none⟩ = some (.slice none 0 0) := (blk_cell BK1.out 1).trans rfl; have hfb3 := blk_frozen BK1.out 0; have hfb4 := blk_frozen BK1.out 1) | (go_at_call 56; refine (spec_l5Own.calls k a0_0 _ _ l0_1 x1 L _ (Kd.C_below HR0_1.out HB1.out) HC0_1.out HCW.out).mono ?_; rintro e w2 ⟨v3, rfl, ho, hb⟩; have HB2 := Aside0.mk (below_then HB1.out HB1.out.size hb); have nBK0 := Aside0.mk (blk_below BK0.out hb); have nBK1 := Aside0.mk (blk_below BK1.out hb); have HOC := Aside0.mk (Kd.S_lower ho HB1.out.size); clear BK0 BK1 hb ho hzb0 hzb1 hzb3 hzb4 hfb3 hfb4; have BK0 := nBK0; have BK1 := nBK1; clear nBK0 nBK1; obtain ⟨g, cC, hv3, _, _, _⟩ := Kd.S_form HOC.out HLP.out; subst hv3; have hzd0 : w2.cell? ⟨w.heap.size, 0, none⟩ = some (.int .i64 a0_0) := (blk_cell BK0.out 0).trans rfl; have hzd1 : w2.cell? ⟨w.heap.size, 1, none⟩ = some (.slice A0_1 l0_1.length c0_1) := (blk_cell BK0.out 1).trans rfl; have hzd3 : w2.cell? ⟨w.heap.size + 1, 0, none⟩ = some (.int .i64 0) := (blk_cell BK1.out 0).trans rfl; have hzd4 : w2.cell? ⟨w.heap.size + 1, 1, none⟩ = some (.slice none 0 0) := (blk_cell BK1.out 1).trans rfl; have hfd3 := blk_frozen BK1.out 0; have hfd4 := blk_frozen BK1.out 1; have hg0_ := blk_frozen BK0.out 0; have hg1_ := blk_frozen BK0.out 1))
    obtain ⟨n, hn⟩ : ∃ n, n = L.length := ⟨_, rfl⟩
    have HTK : Aside0 (TK (fun _ => True) w w g n cC [(w.heap.size, #[.int .i64 x1, (.slice (some ⟨g, 0, none⟩) n cC)]), (w.heap.size + 1, #[.int .i64 0, .slice none 0 0])] (fun _ => False) (.slice none 0 0) [] ((w2.setCell ⟨w.heap.size, 0, none⟩ (.int .i64 x1)).setCell ⟨w.heap.size, 1, none⟩ (.slice (some ⟨g, 0, none⟩) n cC)) L (.slice none 0 0) []) := ⟨by
     have h1 := HOC.out
     rw [← hn] at h1
     refine TK.upd (u0 := .int .i64 a0_0) (u1 := .slice A0_1 l0_1.length c0_1) ?_ (Nat.le_refl _) (Nat.le_refl _) (by omega) _ _
     exact ⟨Kd.S_mono h1 (fun k hk => ⟨.inl trivial, fun h => h⟩), Kd.R_nil _ _ _ _ _, Kd.R_nil _ _ _ _ _, HB2.out, ⟨HB2.out.size, fun _ _ h => absurd trivial h⟩, fun p hp => by
      simp only [List.mem_cons, List.not_mem_nil, or_false] at hp
      rcases hp with rfl | rfl
      ·exact BK0.out
      ·exact BK1.out, fun _ hk => hk.elim⟩⟩
    have HNL := Aside0.mk hn
    clear hn
    rw [← HNL.out]
    clear HOC BK0 BK1 HB2 hzd0 hzd1 hzd3 hzd4 hfd3 hfd4 hg0_ hg1_
    go_loopg [8, 9] k (fun kq v9 v10 w' => ∃ (now cnt : Int) (vd : Value) (L1 : List (List S45)) (all : List Int), v9 = vd ∧ v10 = .int .i64 cnt ∧ Aside0 (TK (fun _ => True) w w g n cC [(w.heap.size, #[.int .i64 now, (.slice (some ⟨g, 0, none⟩) n cC)]), (w.heap.size + 1, #[.int .i64 0, .slice none 0 0])] (fun _ => False) (.slice none 0 0) [] w' L1 vd all) ∧ Aside0 (advG (spec_l5Tick.f k) false a1 kq now L1 all cnt = some (y1, y2, y3, y4)))
    case atStart => exact ⟨x1, 0, _, L, [], rfl, rfl, HTK, HTI⟩
    case round =>
     clear HTK HTI
     obtain ⟨now, cnt, vd, L1, all, rfl, rfl, HTK, HTI⟩ := hrel
     have hz0 : wr.cell? ⟨w.heap.size, 0, none⟩ = some (.int .i64 now) := (blk_cell (HTK.out.box (List.mem_cons_self)) 0).trans rfl
     have hz1 : wr.cell? ⟨w.heap.size, 1, none⟩ = some (.slice (some ⟨g, 0, none⟩) n cC) := (blk_cell (HTK.out.box (List.mem_cons_self)) 1).trans rfl
     cases gk with
     | zero => have h := HTI.out; simp only [advG] at h; cases h
     | succ k1 =>
      have hF := HTI.out
      simp only [advG] at hF
      by_cases hlt : now < a1
      ·rw [if_pos hlt] at hF
       have hltb : decide (now < a1) = true := decide_eq_true hlt
       replace hF := Option.bind_eq_some_iff.1 hF
       obtain ⟨⟨t1, t2, t3, t4⟩, hT, hF⟩ := hF
       by_cases hal : all.length + t3.length < 4000000
       case neg => simp only [if_neg hal] at hF; cases hF
       simp only [if_pos hal, Bool.false_eq_true, if_false] at hF
       have HT1 := Aside0.mk hT
       have HTN := Aside0.mk hF
       have HAL := Aside0.mk hal
       clear hT hF hal hlt HTI
       have hlen := HTK.out.len
       have HBX := Aside0.mk (HTK.out.box (b := w.heap.size) (cs := #[.int .i64 now, .slice (some ⟨g, 0, none⟩) n cC]) List.mem_cons_self)
       have HRB := Aside0.mk (HTK.out.box (b := w.heap.size + 1) (cs := #[.int .i64 0, .slice none 0 0]) (by simp))
       obtain ⟨Av, cv, rfl⟩ := Kd.R_slice HTK.out.D
       have hcon := spec_l5Tick.own k now (some ⟨g, 0, none⟩) cC L1 t1 t2 t3 t4 (fun k => ((w.heap.size ≤ k ∧ some k ≠ (Value.slice Av all.length cv).ownBlock) ∧ k ≠ w.heap.size) ∧ k ≠ w.heap.size + 1) w wr HTK.out.B (fun k hk => hk.1.1.1) (by rw [← hlen]; exact Kd.S_types (Kd.S_types HTK.out.apart HBX.out (by decide)) HRB.out (by decide)) HT1.out
       rw [← hlen] at hcon
       have HCON := Aside0.mk hcon
       clear hcon hlen
       go_wp2_with (first | (go_at_call 68; refine HCON.out.mono ?_; rintro e w3 ⟨vd3, rfl, hs3, hd3, hb3, hk3⟩; have HTK3 : Aside0 (TK (fun _ => True) w w g n cC [(w.heap.size, #[.int .i64 now, (.slice (some ⟨g, 0, none⟩) n cC)]), (w.heap.size + 1, #[.int .i64 0, .slice none 0 0])] (fun _ => False) (.slice none 0 0) [] w3 t2 (.slice Av all.length cv) all) := ⟨⟨Kd.S_mono hs3 (fun k _ => ⟨.inl trivial, fun h => h⟩), Kd.R_nil _ _ _ _ _, Kd.R_mono (Kd.R_kept (Kd.R_tight rfl HTK.out.D) hk3 (fun q h1 h2 => h2.1.1.2 h1)) (fun _ _ => trivial), hb3, ⟨hb3.size, fun _ _ h => absurd trivial h⟩, fun p hp => by
        simp only [List.mem_cons, List.not_mem_nil, or_false] at hp
        rcases hp with rfl | rfl
        ·exact blk_kept HBX.out hk3 (fun h => h.1.2 rfl)
        ·exact blk_kept HRB.out hk3 (fun h => h.2 rfl), fun _ hk => hk.elim⟩⟩; obtain ⟨Ad, cd, rfl, hcd, hCd⟩ := Kd.R_reads hd3; have HD3 := Aside0.mk (show Kd.R (Kd.int .i64) 3 w3 wr.heap.size (fun k => wr.heap.size ≤ k) (.slice Ad t3.length cd) t3 from Kd.R_mono (Kd.R_bound hd3) (fun k hk => hk.2.1)); have HWR := Aside0.mk (blk_lt HBX.out); clear hcd hCd hd3 hs3 hb3 hk3 hz0 hz1; obtain ⟨ob, hob⟩ : ∃ ob : Obj, ob = .cells #[.int .i64 t1, .slice (some ⟨g, 0, none⟩) n cC] 27 := ⟨_, rfl⟩; have HBA := Aside0.mk (below_alloc (Below.refl w3.heap.size w3) ob); have HTK4 := Aside0.mk (HTK3.out.below HBA.out); rw [hob] at HTK4 HBA; clear hob; have X4 := Aside0.mk (HTK4.out.box (b := w.heap.size) (cs := #[.int .i64 now, .slice (some ⟨g, 0, none⟩) n cC]) List.mem_cons_self); have hw0 : (w3.alloc (.cells #[.int .i64 t1, .slice (some ⟨g, 0, none⟩) n cC] 27)).cell? ⟨w.heap.size, 0, none⟩ = some (.int .i64 now) := (blk_cell X4.out 0).trans rfl; have hw1 : (w3.alloc (.cells #[.int .i64 t1, .slice (some ⟨g, 0, none⟩) n cC] 27)).cell? ⟨w.heap.size, 1, none⟩ = some (.slice (some ⟨g, 0, none⟩) n cC) := (blk_cell X4.out 1).trans rfl; have hw2 := blk_frozen X4.out 0; have hw3 := blk_frozen X4.out 1; have HTK5 := Aside0.mk (HTK4.out.upd (Nat.le_refl _) (Nat.le_refl _) (by omega) (.int .i64 t1) (.slice (some ⟨g, 0, none⟩) n cC)); have HCD5 := Aside0.mk (show Kd.C (Kd.int .i64) (((w3.alloc (.cells #[.int .i64 t1, .slice (some ⟨g, 0, none⟩) n cC] 27)).setCell ⟨w.heap.size, 0, none⟩ (.int .i64 t1)).setCell ⟨w.heap.size, 1, none⟩ (.slice (some ⟨g, 0, none⟩) n cC)) Ad t3.length t3 from (Kd.R_reads' (Kd.R_far (p := ⟨w.heap.size, 1, none⟩) (Kd.R_far (p := ⟨w.heap.size, 0, none⟩) (Kd.R_below HD3.out HBA.out) (fun q hq => Nat.ne_of_gt (Nat.lt_of_lt_of_le HWR.out hq)) _) (fun q hq => Nat.ne_of_gt (Nat.lt_of_lt_of_le HWR.out hq)) _)).2.2)) | ((with_reducible refine gate_builtin (b := .append) (xs := #[.tmp 44, .tmp 45]) rfl ?_); (try (refine gate_guard (by rfl) ?_; dsimp only)); at_builtin; refine Kd.R_append_rows (Kd.int .i64) (w0 := ((w3.alloc (.cells #[.int .i64 t1, .slice (some ⟨g, 0, none⟩) n cC] 27)).setCell ⟨w.heap.size, 0, none⟩ (.int .i64 t1)).setCell ⟨w.heap.size, 1, none⟩ (.slice (some ⟨g, 0, none⟩) n cC)) w.heap.size rfl (.tmp 44) (.tmp 45) 53 3 (.int .i64 0) 8 rfl Try.underlying53 info3 rfl (by decide) (by omega) (.slice Av all.length cv) all t3 Ad t3.length cd (fun _ => True) (fun _ => False) rfl rfl HTK5.out.D HCD5.out (fun _ _ h => h) (fun _ h => h.elim) (fun _ _ => trivial) (Below.refl _ _) HTK5.out.K.1 (by have := HAL.out; omega) ?_; intro v5 w5 ho5 hb5 hg5 hat5; have HTB := Aside0.mk (HTK5.out.grow (Nat.le_refl _) hg5 ho5); clear ho5 hb5 hg5 hat5))
       go_roundg k1
       case measure => omega
       case rel => exact ⟨t1, _, _, t2, all ++ t3, rfl, rfl, HTB, HTN⟩
      ·rw [if_neg hlt] at hF
       have hltb : decide (now < a1) = false := decide_eq_false hlt
       simp only [Option.some.injEq, Prod.mk.injEq] at hF
       obtain ⟨rfl, rfl, rfl, rfl⟩ := hF
       have B1 := Aside0.mk (HTK.out.box (b := w.heap.size + 1) (cs := #[.int .i64 0, .slice none 0 0]) (by simp))
       have HTE := Aside0.mk (HTK.out.fin (b := w.heap.size + 1) (cs := #[.int .i64 0, .slice none 0 0]) (by simp) (Nat.le_refl _) (Nat.le_succ _) (.int .i64 now) (.slice (some ⟨g, 0, none⟩) n cC))
       have hz2 : wr.cell? ⟨w.heap.size + 1, 0, none⟩ = some (.int .i64 0) := (blk_cell B1.out 0).trans rfl
       have hz3 : wr.cell? ⟨w.heap.size + 1, 1, none⟩ = some (.slice none 0 0) := (blk_cell B1.out 1).trans rfl
       have hz4 := blk_frozen B1.out 0
       have hz5 := blk_frozen B1.out 1
       have HLN := Aside0.mk HTK.out.len
       clear hlt
       go_wp2
       refine bodyPost_ret (results_cttt rfl _ _ (w.heap.size + 1) 27 #[.int .i64 now, .slice (some ⟨g, 0, none⟩) n cC] (0, 0) _ rfl (by refine blk_put (cs := #[.int .i64 now, .slice none 0 0]) ?_ 1 _ rfl; refine blk_put (cs := #[.int .i64 0, .slice none 0 0]) ?_ 0 _ rfl; exact B1.out) Try.underlying27 rfl (by kernel_rfl)) rfl ?_
       exact ⟨_, _, rfl, Kd.S_mono HTE.out.S (fun _ _ => trivial), HTE.out.D, HTE.out.B⟩

/-! ### impl_in: function 55 -/
def impl_in.f (a0 : Int) (a1 : Int) (a2 : Int) : Option (Bool) := if a0 ≥ a1 then (some (decide (a0 ≤ a2))) else (some false)
set_option maxHeartbeats 8000000 in
set_option maxRecDepth 100000 in
theorem impl_in.calls (a0 : Int) (a1 : Int) (a2 : Int) (r : Bool) (w : World) (h : impl_in.f a0 a1 a2 = some r) :
  Calls Try.prog 55 #[.int .i64 a0, .int .i64 a1, .int .i64 a2] w fun e w' => e = .returned (.bool r) ∧ Drawn0 w w' := by
 have H : (if a0 ≥ a1 then (some (decide (a0 ≤ a2))) else (some false)) = some r := h
 clear h
 by_cases c4 : a0 ≥ a1
 ·rw [if_pos c4] at H
  have c4b0 : decide (a1 ≤ a0) = true := decide_eq_true c4
  clear c4
  obtain rfl := Option.some.inj H
  go_enter Try.func55, Try.ntmps55
  go_wp2
  go_ret
  exact ⟨by first | rfl | (simp; done) | (simp [*]; done), by repeat (first | exact Drawn0.refl _ | apply Drawn0.step)⟩
 ·rw [if_neg c4] at H
  have c4b0 : decide (a1 ≤ a0) = false := decide_eq_false c4
  clear c4
  obtain rfl := Option.some.inj H
  go_enter Try.func55, Try.ntmps55
  go_wp2
  go_ret
  exact ⟨by first | rfl | (simp; done) | (simp [*]; done), by repeat (first | exact Drawn0.refl _ | apply Drawn0.step)⟩

/-! ### impl_isNow: function 42 -/
def impl_isNow.f (a0 : Int) : Option (Bool) := (impl_in.f a0 0 100000).bind fun t205 => (some t205)
set_option maxHeartbeats 8000000 in
set_option maxRecDepth 100000 in
theorem impl_isNow.calls (a0 : Int) (r : Bool) (w : World) (h : impl_isNow.f a0 = some r) :
  Calls Try.prog 42 #[.int .i64 a0] w fun e w' => e = .returned (.bool r) ∧ Drawn0 w w' := by
 have H : ((impl_in.f a0 0 100000).bind fun t205 => (some t205)) = some r := h
 clear h
 replace H := Option.bind_eq_some_iff.mp H
 obtain ⟨t205, A20, H⟩ := H
 replace H : (some t205) = some r := H
 have A2 := Aside0.mk A20
 clear A20
 obtain rfl := Option.some.inj H
 go_enter Try.func42, Try.ntmps42
 go_wp2_with (first | ((with_reducible refine gate_callee (f := 55) rfl ?_); refine goesL_ (some 4) rfl rfl Try.func55 (by kernel_rfl) rfl #[.int .i64 a0, .int .i64 0, .int .i64 100000] rfl (by (try simp only [List.map_toArray, List.map_cons, List.map_nil]); first | done | rfl | (simp only [List.length_drop, List.length_take]; rfl)) ?_; (with_reducible refine (impl_in.calls a0 0 100000 t205 _ A2.out).mono ?_); rintro e w' ⟨rfl, ⟨nd, rfl⟩⟩; refine ⟨_, rfl, ?_⟩))
 go_ret
 exact ⟨by first | rfl | (simp; done) | (simp [*]; done), by repeat (first | exact Drawn0.refl _ | apply Drawn0.step)⟩

/-! ### impl_reach: function 43 -/
def impl_reach.f (a0 : Int) (a1 : Int) : Option (Bool) := if a1 > a0 then (some (decide (a1 < (wrap64 (a0 + 512))))) else (some false)
set_option maxHeartbeats 8000000 in
set_option maxRecDepth 100000 in
theorem impl_reach.calls (a0 : Int) (a1 : Int) (r : Bool) (w : World) (h : impl_reach.f a0 a1 = some r) :
  Calls Try.prog 43 #[.int .i64 a0, .int .i64 a1] w fun e w' => e = .returned (.bool r) ∧ Drawn0 w w' := by
 have H : (if a1 > a0 then (some (decide (a1 < (wrap64 (a0 + 512))))) else (some false)) = some r := h
 clear h
 by_cases c3 : a1 > a0
 ·rw [if_pos c3] at H
  have c3b0 : decide (a0 < a1) = true := decide_eq_true c3
  clear c3
  obtain rfl := Option.some.inj H
  go_enter Try.func43, Try.ntmps43
  go_wp2
  go_ret
  exact ⟨by first | rfl | (simp; done) | (simp [*]; done), by repeat (first | exact Drawn0.refl _ | apply Drawn0.step)⟩
 ·rw [if_neg c3] at H
  have c3b0 : decide (a0 < a1) = false := decide_eq_false c3
  clear c3
  obtain rfl := Option.some.inj H
  go_enter Try.func43, Try.ntmps43
  go_wp2
  go_ret
  exact ⟨by first | rfl | (simp; done) | (simp [*]; done), by repeat (first | exact Drawn0.refl _ | apply Drawn0.step)⟩

/-! ### impl_units: function 72 -/
def impl_units.l0 : Nat → Int → Int → Int → Option (Int)
 | 0, _, _, _ => none
 | k + 1, x3, x4, x5 => if x5 < x4 then (impl_units.l0 k (wrap64 (x3 * 8)) x4 (wrap64 (x5 + 1))) else (some x3)
def impl_units.f (k : Nat) (a0 : Int) : Option (Int) := impl_units.l0 k 1 a0 0
theorem impl_units.mono_l : ∀ k, (∀ y0 y1 y2, LeO (impl_units.l0 k y0 y1 y2) (impl_units.l0 (k + 1) y0 y1 y2))
 | 0 => fun _ _ _ r h => by simp [impl_units.l0] at h
 | k + 1 => by
  have ih0 := impl_units.mono_l k
  ·intro y0 y1 y2
   unfold impl_units.l0
   repeat' first
   | (with_reducible exact ih0 _ _ _)
   | (with_reducible exact LeO.refl _)
   | (with_reducible exact LeO.none _)
   | (with_reducible refine LeO.ite ?_ ?_)
   | (with_reducible refine LeO.bind ?_ (fun _ => ?_))
   | exact ih0 _ _ _
   | exact LeO.none _
   | refine LeO.ite ?_ ?_
   | refine LeO.bind ?_ (fun _ => ?_)
theorem impl_units.mono : ∀ a0 k, LeO (impl_units.f k a0) (impl_units.f (k + 1) a0) := by
 intro a0 k
 have ih0 := impl_units.mono_l k
 unfold impl_units.f
 repeat' first
   | (with_reducible exact ih0 _ _ _)
   | (with_reducible exact LeO.refl _)
   | (with_reducible exact LeO.none _)
   | (with_reducible refine LeO.ite ?_ ?_)
   | (with_reducible refine LeO.bind ?_ (fun _ => ?_))
   | exact ih0 _ _ _
   | exact LeO.none _
   | refine LeO.ite ?_ ?_
   | refine LeO.bind ?_ (fun _ => ?_)
set_option maxHeartbeats 8000000 in
set_option maxRecDepth 100000 in
theorem impl_units.calls (k : Nat) (a0 : Int) (r : Int) (w : World) (h : impl_units.f k a0 = some r) :
  Calls Try.prog 72 #[.int .i64 a0] w fun e w' => e = .returned (.int .i64 r) ∧ Drawn0 w w' := by
 have H : (impl_units.l0 k 1 a0 0) = some r := h
 clear h
 have H' := Aside0.mk H
 clear H
 go_enter Try.func72, Try.ntmps72
 go_wp2
 go_loopg [3, 5] k (fun kq v3 v5 w' => ∃ (x3_1 : Int) (x5_1 : Int), v3 = .int .i64 x3_1 ∧ v5 = .int .i64 x5_1 ∧ Aside0 (impl_units.l0 kq x3_1 a0 x5_1 = some r) ∧ Aside0 (kq ≤ k) ∧ Drawn0 w w')
 case atStart => exact ⟨(1), (0), (by first | rfl | (simp; done) | (simp [*]; done) | (simp; exact (fun l : List UInt8 => (by cases l <;> rfl : l.isEmpty = !(l != []))) _)), (by first | rfl | (simp; done) | (simp [*]; done) | (simp; exact (fun l : List UInt8 => (by cases l <;> rfl : l.isEmpty = !(l != []))) _)), H', ⟨Nat.le_refl _⟩, by repeat (first | exact Drawn0.refl _ | apply Drawn0.step)⟩
 case round =>
  clear H'
  obtain ⟨x3_1, x5_1, rfl, rfl, HA, HK1, ⟨m1, rfl⟩⟩ := hrel
  cases gk with
  | zero => exact absurd HA.out (by simp [impl_units.l0])
  | succ k1 =>
   have H := HA.out
   clear HA
   simp only [impl_units.l0] at H
   by_cases c2 : x5_1 < a0
   ·rw [if_pos c2] at H
    have c2b0 : decide (x5_1 < a0) = true := decide_eq_true c2
    clear c2
    have H' := Aside0.mk H
    clear H
    go_wp2
    go_roundg k1
    case measure => have := HK1.out; omega
    case rel => exact ⟨(wrap64 (x3_1 * 8)), (wrap64 (x5_1 + 1)), (by first | rfl | (simp; done) | (simp [*]; done) | (simp; exact (fun l : List UInt8 => (by cases l <;> rfl : l.isEmpty = !(l != []))) _)), (by first | rfl | (simp; done) | (simp [*]; done) | (simp; exact (fun l : List UInt8 => (by cases l <;> rfl : l.isEmpty = !(l != []))) _)), H', ⟨by have := HK1.out; omega⟩, by repeat (first | exact Drawn0.refl _ | apply Drawn0.step)⟩
   ·rw [if_neg c2] at H
    have c2b0 : decide (x5_1 < a0) = false := decide_eq_false c2
    clear c2
    obtain rfl := Option.some.inj H
    go_wp2
    go_ret
    exact ⟨by first | rfl | (simp; done) | (simp [*]; done), by repeat (first | exact Drawn0.refl _ | apply Drawn0.step)⟩

/-! ### impl_fitsLevel: function 53, by hand -/
def impl_fitsLevel.f (k : Nat) (a0 : Int) (a1 : Int) (a2 : Int) : Option (Bool) := (impl_units.f k a2).bind fun p => (if p = 0 then (none) else (impl_in.f (wrap64 ((wrap64 (Int.tdiv a1 p)) - (wrap64 (Int.tdiv a0 p)))) 1 7))
theorem impl_fitsLevel.mono : ∀ a0 a1 a2 k, LeO (impl_fitsLevel.f k a0 a1 a2) (impl_fitsLevel.f (k + 1) a0 a1 a2) := by
 intro a0 a1 a2 k
 unfold impl_fitsLevel.f
 repeat' first
   | (with_reducible exact impl_units.mono _ _)
   | (with_reducible exact LeO.refl _)
   | (with_reducible exact LeO.none _)
   | (with_reducible refine LeO.ite ?_ ?_)
   | (with_reducible refine LeO.bind ?_ (fun _ => ?_))
set_option maxHeartbeats 8000000 in
set_option maxRecDepth 100000 in
theorem impl_fitsLevel.calls (k : Nat) (a0 : Int) (a1 : Int) (a2 : Int) (r : Bool) (w : World) (h : impl_fitsLevel.f k a0 a1 a2 = some r) :
  Calls Try.prog 53 #[.int .i64 a0, .int .i64 a1, .int .i64 a2] w fun e w' => e = .returned (.bool r) ∧ Drawn0 w w' := by
 unfold impl_fitsLevel.f at h
 obtain ⟨p, hp, h⟩ := Option.bind_eq_some_iff.mp h
 by_cases c5 : p = 0
 ·rw [if_pos c5] at h
  exact absurd h (by simp)
 rw [if_neg c5] at h
 have c5b0 : (p == 0) = false := beq_eq_false_iff_ne.mpr c5
 have c5b1 : (p != 0) = true := bne_iff_ne.mpr c5
 have A4 := Aside0.mk hp
 have A8 := Aside0.mk h
 clear h hp
 go_enter Try.func53, Try.ntmps53
 go_wp2_with fail
 go_quiet (first | (go_at_call 72; (with_reducible refine (impl_units.calls k a2 p _ A4.out).mono ?_); rintro e w' ⟨rfl, ⟨nd, rfl⟩⟩; (try first | exact ⟨rfl, _, World.drewN_drewN _ _ _⟩ | exact ⟨rfl, _, Eq.trans (World.drewN_drewN _ _ _) (congrArg (World.drewN _) (Nat.add_assoc _ _ _))⟩)) | (go_at_call 55; (with_reducible refine (impl_in.calls (wrap64 ((wrap64 (Int.tdiv a1 p)) - (wrap64 (Int.tdiv a0 p)))) 1 7 r _ A8.out).mono ?_); rintro e w' ⟨rfl, ⟨nd, rfl⟩⟩; (try first | exact ⟨rfl, _, World.drewN_drewN _ _ _⟩ | exact ⟨rfl, _, Eq.trans (World.drewN_drewN _ _ _) (congrArg (World.drewN _) (Nat.add_assoc _ _ _))⟩)))
 go_wp2
 go_ret
 exact ⟨rfl, by repeat (first | exact Drawn0.refl _ | apply Drawn0.step)⟩

/-! ### impl_slotAt: function 54 -/
def impl_slotAt.f (k : Nat) (a0 : Int) (a1 : Int) : Option (Int) := (impl_units.f k a1).bind fun t206 => (if t206 = 0 then (none) else (some (wrap64 ((wrap64 (a1 * 8)) + (Int.tmod (wrap64 (Int.tdiv a0 t206)) 8)))))
theorem impl_slotAt.mono : ∀ a0 a1 k, LeO (impl_slotAt.f k a0 a1) (impl_slotAt.f (k + 1) a0 a1) := by
 intro a0 a1 k
 unfold impl_slotAt.f
 repeat' first
   | (with_reducible exact impl_units.mono _ _)
   | (with_reducible exact LeO.refl _)
   | (with_reducible exact LeO.none _)
   | (with_reducible refine LeO.ite ?_ ?_)
   | (with_reducible refine LeO.bind ?_ (fun _ => ?_))
   | exact impl_units.mono _ _
   | exact LeO.none _
   | refine LeO.ite ?_ ?_
   | refine LeO.bind ?_ (fun _ => ?_)
set_option maxHeartbeats 8000000 in
set_option maxRecDepth 100000 in
theorem impl_slotAt.calls (k : Nat) (a0 : Int) (a1 : Int) (r : Int) (w : World) (h : impl_slotAt.f k a0 a1 = some r) :
  Calls Try.prog 54 #[.int .i64 a0, .int .i64 a1] w fun e w' => e = .returned (.int .i64 r) ∧ Drawn0 w w' := by
 have H : ((impl_units.f k a1).bind fun t206 => (if t206 = 0 then (none) else (some (wrap64 ((wrap64 (a1 * 8)) + (Int.tmod (wrap64 (Int.tdiv a0 t206)) 8)))))) = some r := h
 clear h
 replace H := Option.bind_eq_some_iff.mp H
 obtain ⟨t206, A30, H⟩ := H
 replace H : (if t206 = 0 then (none) else (some (wrap64 ((wrap64 (a1 * 8)) + (Int.tmod (wrap64 (Int.tdiv a0 t206)) 8))))) = some r := H
 have A3 := Aside0.mk A30
 clear A30
 by_cases c4 : t206 = 0
 ·rw [if_pos c4] at H
  exact absurd H (by simp)
 ·rw [if_neg c4] at H
  have c4b0 : (t206 == 0) = false := beq_eq_false_iff_ne.mpr c4
  have c4b1 : (t206 != 0) = true := bne_iff_ne.mpr c4
  obtain rfl := Option.some.inj H
  go_enter Try.func54, Try.ntmps54
  go_wp2_with (first | ((with_reducible refine gate_callee (f := 72) rfl ?_); refine goesL_ (some 9) rfl rfl Try.func72 (by kernel_rfl) rfl #[.int .i64 a1] rfl (by (try simp only [List.map_toArray, List.map_cons, List.map_nil]); first | done | rfl | (simp only [List.length_drop, List.length_take]; rfl)) ?_; (with_reducible refine (impl_units.calls k a1 t206 _ A3.out).mono ?_); rintro e w' ⟨rfl, ⟨nd, rfl⟩⟩; refine ⟨_, rfl, ?_⟩))
  go_ret
  exact ⟨by first | rfl | (simp; done) | (simp [*]; done), by repeat (first | exact Drawn0.refl _ | apply Drawn0.step)⟩

/-! ### impl_GoodWheel: function 21, by hand -/
theorem plainElem_bool_inv {P : Program} {e : TypeId} (he : P.underlying e = some .bool) {v : Value} {z : DataW Unit × List MemPlace} (h : plainElem P e v = some z) : ∃ x, v = .bool x ∧ z = (.lit (.bool x), []) := by
 unfold plainElem at h
 rw [he] at h
 cases v <;> simp at h
 exact ⟨_, rfl, h.symm⟩
theorem gw_info4 : (Try.prog.info? 4).map (fun i => i.zero) = some (some (.bool false)) := by kernel_rfl
theorem gw_zero_ {P : Program} {t : TypeId} {z : Value} (h : (P.info? t).map (fun i => i.zero) = some (some z)) (w : World) : (zeroValue t).run P w = .ok z w := by
 cases hi : P.info? t with
 | none => rw [hi] at h; exact absurd h (by simp)
 | some i =>
  rw [hi] at h
  have hz : i.zero = some z := by simpa using h
  simp [zeroValue, typeInfo, hi, hz, Question.forced, Result.andThen]
def gwKeys (ids : List Int) : List Lit := ids.map (Lit.int .i64)
def gwMap (w : World) (b n : Nat) (ids : List Int) : Prop := w.ownsMap (H := Unit) Try.prog 3 (plainElem Try.prog 4) b n (Maps.setOf (.lit (.bool true)) (gwKeys ids))
theorem gw_at (u z : DataW Unit) (id : Int) : ∀ (acc : List Int) (m : DataW Unit), Maps.IsMap m → ((acc.map (Lit.int .i64)).foldl (fun m x => m.put x u) m).atKey (.int .i64 id) z = if id ∈ acc then u else m.atKey (.int .i64 id) z
 | [], m, _ => by simp
 | x :: r, m, hm => by
  have h1 := gw_at u z id r (m.put (.int .i64 x) u) (by obtain ⟨es, rfl⟩ := hm; exact ⟨_, rfl⟩)
  simp only [List.map_cons, List.foldl_cons, List.mem_cons]
  rw [h1]
  by_cases hr : id ∈ r
  ·simp [hr]
  ·by_cases e : id = x
   ·subst e
    simp [Maps.atKey_put_same hm (by trivial : WideAt.IsKeyLit (.int .i64 id))]
   ·rw [if_neg hr, if_neg (by simp [e, hr]), Maps.atKey_put_other (by simp [e])]
theorem gw_look {w : World} {b n : Nat} {ids : List Int} (h : gwMap w b n ids) (id : Int) (hw : (Lit.int .i64 id).wf = true) :
  (Instr.lookup 70 (.map (some b)) (.int .i64 id) false).run Try.prog w = .ok (.bool (decide (id ∈ ids))) w := by
 obtain ⟨v, ps, hrun, hv⟩ := h.lookup (t := 70) (e := 4) (Maps.int_keyed Try.underlying3) Try.underlying70 (z := .bool false) (gw_zero_ gw_info4 w) (plainElem_bool Try.underlying4 false) (Maps.keyOf_int_mk Try.underlying3 hw)
 have h2 := gw_at (.lit (.bool true)) (.lit (.bool false)) id ids (.map []) ⟨_, rfl⟩
 rw [show Maps.setOf (H := Unit) (.lit (.bool true)) (gwKeys ids) = ((ids.map (Lit.int .i64)).foldl (fun m x => m.put x (.lit (.bool true))) (.map [])) from rfl, h2] at hv
 rw [hrun]
 obtain ⟨x, rfl, hx⟩ := plainElem_bool_inv Try.underlying4 hv
 by_cases hm : id ∈ ids
 ·simp [hm] at hx ⊢; exact hx.1
 ·rw [if_neg hm] at hx
  have h3 : DataW.lit (H := Unit) (Lit.bool false) = .lit (.bool x) := congrArg Prod.fst hx
  simp [hm] at h3 ⊢
  exact h3
theorem gwMap.drewN {w : World} {b n : Nat} {ids : List Int} (h : gwMap w b n ids) (m : Nat) : gwMap (w.drewN m) b n ids := h
theorem gwMap.drew {w : World} {b n : Nat} {ids : List Int} (h : gwMap w b n ids) : gwMap w.drew b n ids := h

theorem gwMap.below {W w : World} {b n : Nat} {ids : List Int} (h : gwMap W b n ids) (hb : Below W.heap.size W w) : gwMap w b n ids := by
 obtain ⟨es, clock, hB, r⟩ := h
 exact ⟨es, clock, blk_below hB hb, r⟩
theorem gw_map_event {W : World} {ops : Array Oper} {rest : List Oper} {o : Oper} {a : Act} {Q : Exit → Act → World → Prop} (hgd : o.guard = none) (hop : o.op = Op.makeMap 70 none)
  (h : ∀ g, g = W.heap.size → ∀ w1, gwMap w1 g 0 [] → Below W.heap.size W w1 → wpList Try.prog ops Q rest (a.put o.dst (.map (some g))) w1) : wpList Try.prog ops Q (o :: rest) a W := by
 have hmm := @run_makeMap Try.prog
 refine Kd.event_run hgd (v := .map (some W.heap.size)) (w1 := W.alloc (.map #[] 0)) (by simp [execOp, hop, hmm]) (h _ rfl _ (World.ownsMap_made W _ _ _) (below_alloc (Below.refl _ _) _))
theorem gw_keys (xs : List Int) : ∀ acc : List Int, (acc ++ xs).Nodup → ((gwKeys xs).foldl Maps.addKey (gwKeys acc)) = gwKeys (acc ++ xs) := by
 induction xs with
 | nil => intro acc _; simp [gwKeys]
 | cons x r ih =>
  intro acc h
  have h1 : (gwKeys acc).any (fun y => y.sameKey (.int .i64 x)) = false := by
   rw [List.any_eq_false]
   intro y hy
   obtain ⟨z, hz, rfl⟩ := List.mem_map.1 hy
   have hne : z ≠ x := by
    rintro rfl
    rw [List.nodup_append] at h
    exact h.2.2 z hz z (by simp) rfl
   simp [Lit.sameKey, hne]
  have h2 : gwKeys acc ++ [Lit.int .i64 x] = gwKeys (acc ++ [x]) := by simp [gwKeys]
  show (gwKeys r).foldl Maps.addKey (Maps.addKey (gwKeys acc) (.int .i64 x)) = _
  unfold Maps.addKey
  rw [h1]
  show (gwKeys r).foldl Maps.addKey (gwKeys acc ++ [Lit.int .i64 x]) = _
  rw [h2, ih (acc ++ [x]) (by simpa using h)]
  simp
theorem gw_size {u : DataW Unit} {ids : List Int} (h : ids.Nodup) : Maps.size (Maps.setOf u (gwKeys ids)) = ids.length := by
 rw [Maps.size_setOf _ _ (fun x hx => by obtain ⟨z, _, rfl⟩ := List.mem_map.1 hx; trivial)]
 have := gw_keys ids [] (by simpa using h)
 rw [show ([] : List Lit) = gwKeys [] from rfl, this]
 simp [gwKeys]
theorem gw_look_event {W : World} {ops : Array Oper} {rest : List Oper} {o : Oper} {a : Act} {Q : Exit → Act → World → Prop} (hgd : o.guard = none) {m x : Operand} (hop : o.op = Op.lookup 70 m x false) {b n : Nat} {ids : List Int} {id : Int} {bb : Bool}
  (hm : a.eval m = .map (some b)) (hx : a.eval x = .int .i64 id) (hw : (Lit.int .i64 id).wf = true) (HM : gwMap W b n ids) (hb : decide (id ∈ ids) = bb) (h : wpList Try.prog ops Q rest (a.put o.dst (.bool bb)) W) : wpList Try.prog ops Q (o :: rest) a W := by
 have hl := gw_look HM id hw
 rw [hb] at hl
 exact Kd.event_run hgd (v := .bool bb) (w1 := W) (by simp [execOp, hop, hm, hx, hl]) h
theorem gwMap.grow {W w : World} {b n : Nat} {ids : List Int} {id : Int} (h : w.ownsMap (H := Unit) Try.prog 3 (plainElem Try.prog 4) b (n + 1) ((Maps.setOf (.lit (.bool true)) (gwKeys ids)).put (.int .i64 id) (.lit (.bool true)))) : gwMap w b (n + 1) (ids ++ [id]) := by
 unfold gwMap
 rw [show gwKeys (ids ++ [id]) = gwKeys ids ++ [Lit.int .i64 id] by simp [gwKeys], Maps.setOf_snoc]
 exact h
theorem gw_in {id : Int} (h : impl_in.f id 0 1000 = some true) : 0 ≤ id ∧ id ≤ 1000 := by
 unfold impl_in.f at h
 by_cases c : id ≥ 0
 ·rw [if_pos c] at h
  exact ⟨c, of_decide_eq_true (Option.some.inj h)⟩
 ·rw [if_neg c] at h
  exact absurd h (by simp)
theorem gw_wf {id : Int} (h : 0 ≤ id ∧ id ≤ 1000) : (Lit.int .i64 id).wf = true := by
 obtain ⟨h1, h2⟩ := h
 simp [Lit.wf, IntKind.min, IntKind.max, IntKind.bits, IntKind.signed]
 omega
def gwFit (k : Nat) (now i : Int) (t : S45) : Option Bool := (impl_reach.f now t.f0).bind fun a => if a = true then ((impl_fitsLevel.f k now t.f0 (wrap64 (Int.tdiv i 8))).bind fun b => if b = true then ((impl_slotAt.f k t.f0 (wrap64 (Int.tdiv i 8))).bind fun s => some (decide (s = i))) else some false) else some false
theorem gwFit_mono (now i : Int) (t : S45) (k : Nat) : LeO (gwFit k now i t) (gwFit (k + 1) now i t) := by
 unfold gwFit
 repeat' first
   | (with_reducible exact impl_fitsLevel.mono _ _ _ _)
   | (with_reducible exact impl_slotAt.mono _ _ _)
   | (with_reducible exact LeO.refl _)
   | (with_reducible exact LeO.none _)
   | (with_reducible refine LeO.ite ?_ ?_)
   | (with_reducible refine LeO.bind ?_ (fun _ => ?_))
mutual
def impl_GoodWheel.l0 : Nat → List Int → Int → Int → List (List (S45)) → Option (Bool)
 | 0, _, _, _, _ => none
 | k + 1, ids, i, now, L => if i < (L.length : Int) then (if 0 ≤ i then (impl_GoodWheel.l1 k ids i (rd_L2 L i) 0 now L) else none) else (some (decide ((ids.length : Int) ≤ 60)))
def impl_GoodWheel.l1 : Nat → List Int → Int → List (S45) → Int → Int → List (List (S45)) → Option (Bool)
 | 0, _, _, _, _, _, _ => none
 | k + 1, ids, i, row, j, now, L => if j < (row.length : Int) then (if 0 ≤ j then ((gwFit k now i (rd_T45 row j)).bind fun b => (impl_in.f ((rd_T45 row j).f1) 0 1000).bind fun c => (if c = true then (if b = true then (if (rd_T45 row j).f1 ∈ ids then (some false) else (if ids.length < 4000000 then (impl_GoodWheel.l1 k (ids ++ [(rd_T45 row j).f1]) i row (wrap64 (j + 1)) now L) else none)) else (some false)) else (some false))) else none) else (impl_GoodWheel.l0 k ids (wrap64 (i + 1)) now L)
end
def impl_GoodWheel.f (k : Nat) (a0_0 : Int) (l0_1 : List (List (S45))) : Option (Bool) := (impl_isNow.f a0_0).bind fun a => (if a = true then (if (l0_1.length : Int) = 24 then (impl_GoodWheel.l0 k [] 0 a0_0 l0_1) else (some false)) else (some false))
theorem impl_GoodWheel.mono_l : ∀ k, (∀ y0 y1 y2 y3, LeO (impl_GoodWheel.l0 k y0 y1 y2 y3) (impl_GoodWheel.l0 (k + 1) y0 y1 y2 y3)) ∧ (∀ y0 y1 y2 y3 y4 y5, LeO (impl_GoodWheel.l1 k y0 y1 y2 y3 y4 y5) (impl_GoodWheel.l1 (k + 1) y0 y1 y2 y3 y4 y5))
 | 0 => ⟨fun _ _ _ _ r h => by simp [impl_GoodWheel.l0] at h, fun _ _ _ _ _ _ r h => by simp [impl_GoodWheel.l1] at h⟩
 | k + 1 => by
  obtain ⟨ih0, ih1⟩ := impl_GoodWheel.mono_l k
  refine ⟨?_, ?_⟩
  ·intro y0 y1 y2 y3
   unfold impl_GoodWheel.l0
   repeat' first
   | (with_reducible exact ih0 _ _ _ _)
   | (with_reducible exact ih1 _ _ _ _ _ _)
   | (with_reducible exact gwFit_mono _ _ _ _)
   | (with_reducible exact LeO.refl _)
   | (with_reducible exact LeO.none _)
   | (with_reducible refine LeO.ite ?_ ?_)
   | (with_reducible refine LeO.bind ?_ (fun _ => ?_))
  ·intro y0 y1 y2 y3 y4 y5
   unfold impl_GoodWheel.l1
   repeat' first
   | (with_reducible exact ih0 _ _ _ _)
   | (with_reducible exact ih1 _ _ _ _ _ _)
   | (with_reducible exact gwFit_mono _ _ _ _)
   | (with_reducible exact LeO.refl _)
   | (with_reducible exact LeO.none _)
   | (with_reducible refine LeO.ite ?_ ?_)
   | (with_reducible refine LeO.bind ?_ (fun _ => ?_))
theorem impl_GoodWheel.mono : ∀ a0 a1 k, LeO (impl_GoodWheel.f k a0 a1) (impl_GoodWheel.f (k + 1) a0 a1) := by
 intro a0 a1 k
 obtain ⟨ih0, ih1⟩ := impl_GoodWheel.mono_l k
 unfold impl_GoodWheel.f
 repeat' first
   | (with_reducible exact ih0 _ _ _ _)
   | (with_reducible exact LeO.refl _)
   | (with_reducible exact LeO.none _)
   | (with_reducible refine LeO.ite ?_ ?_)
   | (with_reducible refine LeO.bind ?_ (fun _ => ?_))

set_option maxHeartbeats 8000000 in
set_option maxRecDepth 100000 in
theorem impl_GoodWheel.calls (k : Nat) (a0_0 : Int) (A0_1 : Option Addr) (c0_1 : Nat) (l0_1 : List (List (S45))) (r : Bool) (w : World) (hr0_1 : Kd.C (Kd.slice 45 k45) w A0_1 l0_1.length l0_1) (hc0_1 : l0_1.length ≤ c0_1) (h : impl_GoodWheel.f k a0_0 l0_1 = some r) :
  Calls Try.prog 21 #[.agg #[.int .i64 a0_0, .slice A0_1 l0_1.length c0_1]] w fun e w' => e = .returned (.bool r) ∧ Below w.heap.size w w' := by
 have hu27 := Try.underlying27
 have hu45 := Try.underlying45
 have HR0_1 := Aside0.mk hr0_1
 have HC0_1 := Aside0.mk hc0_1
 clear hr0_1 hc0_1
 have HB := Aside0.mk (Below.refl w.heap.size w)
 unfold impl_GoodWheel.f at h
 obtain ⟨ta, A40, H⟩ := Option.bind_eq_some_iff.mp h
 clear h
 have A4 := Aside0.mk A40
 clear A40
 cases ta with
 | false =>
  have H1 : some false = some r := H
  obtain rfl := Option.some.inj H1
  clear H H1
  go_enter Try.func21, Try.ntmps21
  go_wp2_with (first | ((with_reducible refine gate_dst (N := 1) rfl ?_); (try (refine gate_guard (by rfl) ?_; dsimp only)); refine box_event ?hg (N := 1) ?hd (cs := #[.int .i64 a0_0, .slice A0_1 l0_1.length c0_1]) (t := 27) ?hr ?_; (case hd => rfl); (case hg => rfl); (case hr => first | (go_simp; done) | (go_simp; rfl)); intro gb123 hg w3 hbox hb; have n0_ := Aside0.mk (below_step (by repeat (first | (with_reducible first | exact HB.out | apply below_alloc | apply pw_below_drewN | apply below_drew1) | exact HB.out)) hb); have n1_ := Aside0.mk (hbox); have n2_ := Aside0.mk ((by rw [hg]; exact (below_size (by repeat (first | (with_reducible first | exact HB.out | apply below_alloc | apply pw_below_drewN | apply below_drew1) | exact HB.out))) : w.heap.size ≤ gb123)); have n3_ := Aside0.mk ((by rw [hg]; exact (below_size (by repeat (first | (with_reducible first | exact HB.out | apply below_alloc | apply pw_below_drewN | apply below_drew1) | exact HB.out))) : w.heap.size ≤ gb123)); clear HB; have HB := n0_; have BK123 := n1_; have GW123 := n2_; have GE123 := n3_; clear n0_ n1_ n2_ n3_; clear hb hbox hg; have hcz6_0 : w3.cell? ⟨gb123, 0, none⟩ = some (.int .i64 a0_0) := (blk_cell BK123.out 0).trans rfl; have hcz6_1 : w3.cell? ⟨gb123, 1, none⟩ = some (.slice A0_1 l0_1.length c0_1) := (blk_cell BK123.out 1).trans rfl; have hfz6_0 := blk_frozen BK123.out 0; have hfz6_1 := blk_frozen BK123.out 1) | ((with_reducible refine gate_callee (f := 42) rfl ?_); refine goesL_ (some 12) rfl rfl Try.func42 (by kernel_rfl) rfl #[.int .i64 a0_0] rfl (by (try simp only [List.map_toArray, List.map_cons, List.map_nil]); first | done | rfl | (simp only [List.length_drop, List.length_take]; rfl)) ?_; (with_reducible refine (impl_isNow.calls a0_0 false _ A4.out).mono ?_); rintro e w' ⟨rfl, ⟨nd, rfl⟩⟩; refine ⟨_, rfl, ?_⟩))
  go_ret
  exact ⟨by first | rfl | (simp; done) | (simp [*]; done), by repeat (first | (with_reducible first | exact HB.out | apply below_alloc | apply pw_below_drewN | apply below_drew1 | refine below_set ?_ GE123.out) | exact HB.out)⟩
 | true =>
  replace H : (if (l0_1.length : Int) = 24 then (impl_GoodWheel.l0 k [] 0 a0_0 l0_1) else (some false)) = some r := H
  by_cases c5 : (l0_1.length : Int) = 24
  ·rw [if_pos c5] at H
   have c5b1 : ((l0_1.length : Int) != 24) = false := bne_eq_false_iff_eq.mpr c5
   clear c5
   have H' := Aside0.mk H
   clear H
   go_enter Try.func21, Try.ntmps21
   go_wp2_with (first | ((with_reducible refine gate_dst (N := 1) rfl ?_); (try (refine gate_guard (by rfl) ?_; dsimp only)); refine box_event ?hg (N := 1) ?hd (cs := #[.int .i64 a0_0, .slice A0_1 l0_1.length c0_1]) (t := 27) ?hr ?_; (case hd => rfl); (case hg => rfl); (case hr => first | (go_simp; done) | (go_simp; rfl)); intro gb123 hg w3 hbox hb; have n0_ := Aside0.mk (below_step (by repeat (first | (with_reducible first | exact HB.out | apply below_alloc | apply pw_below_drewN | apply below_drew1) | exact HB.out)) hb); have n1_ := Aside0.mk (hbox); have n2_ := Aside0.mk ((by rw [hg]; exact (below_size (by repeat (first | (with_reducible first | exact HB.out | apply below_alloc | apply pw_below_drewN | apply below_drew1) | exact HB.out))) : w.heap.size ≤ gb123)); have n3_ := Aside0.mk ((by rw [hg]; exact (below_size (by repeat (first | (with_reducible first | exact HB.out | apply below_alloc | apply pw_below_drewN | apply below_drew1) | exact HB.out))) : w.heap.size ≤ gb123)); clear HB; have HB := n0_; have BK123 := n1_; have GW123 := n2_; have GE123 := n3_; clear n0_ n1_ n2_ n3_; clear hb hbox hg; have hcz6_0 : w3.cell? ⟨gb123, 0, none⟩ = some (.int .i64 a0_0) := (blk_cell BK123.out 0).trans rfl; have hcz6_1 : w3.cell? ⟨gb123, 1, none⟩ = some (.slice A0_1 l0_1.length c0_1) := (blk_cell BK123.out 1).trans rfl; have hfz6_0 := blk_frozen BK123.out 0; have hfz6_1 := blk_frozen BK123.out 1) | ((with_reducible refine gate_callee (f := 42) rfl ?_); refine goesL_ (some 12) rfl rfl Try.func42 (by kernel_rfl) rfl #[.int .i64 a0_0] rfl (by (try simp only [List.map_toArray, List.map_cons, List.map_nil]); first | done | rfl | (simp only [List.length_drop, List.length_take]; rfl)) ?_; (with_reducible refine (impl_isNow.calls a0_0 true _ A4.out).mono ?_); rintro e w' ⟨rfl, ⟨nd, rfl⟩⟩; refine ⟨_, rfl, ?_⟩) | ((with_reducible refine gate_dst (N := 20) rfl ?_); refine gw_map_event rfl rfl ?_; intro gm hg w4 hmap hb; have n0_ := Aside0.mk (below_step (by repeat (first | (with_reducible first | exact HB.out | apply below_alloc | apply pw_below_drewN | apply below_drew1 | refine below_set ?_ GE123.out) | exact HB.out)) hb); have n1_ := Aside0.mk (blk_below (g := gb123) (by (with_reducible repeat (first | refine blk_drewN ?_ _ | refine blk_drew ?_ | refine blk_alloc ?_ _)); exact BK123.out) hb); have n2_ := Aside0.mk hmap; have n3_ := Aside0.mk ((by rw [hg]; exact (below_size (by repeat (first | (with_reducible first | exact HB.out | apply below_alloc | apply pw_below_drewN | apply below_drew1 | refine below_set ?_ GE123.out) | exact HB.out))) : w.heap.size ≤ gm)); have n4_ := Aside0.mk ((by rw [hg]; exact Nat.ne_of_lt (blk_lt (g := gb123) (by (with_reducible repeat (first | refine blk_drewN ?_ _ | refine blk_drew ?_ | refine blk_alloc ?_ _)); exact BK123.out)) : gb123 ≠ gm)); clear HB BK123; have HB := n0_; have BK123 := n1_; have HM := n2_; have GM := n3_; have NM := n4_; clear n0_ n1_ n2_ n3_ n4_; clear hb hmap hg hcz6_0 hcz6_1 hfz6_0 hfz6_1; have hcz6_0 : w4.cell? ⟨gb123, 0, none⟩ = some (.int .i64 a0_0) := (blk_cell BK123.out 0).trans rfl; have hcz6_1 : w4.cell? ⟨gb123, 1, none⟩ = some (.slice A0_1 l0_1.length c0_1) := (blk_cell BK123.out 1).trans rfl; have hfz6_0 := blk_frozen BK123.out 0; have hfz6_1 := blk_frozen BK123.out 1))
   go_loopg [24] k (fun kq v24 w' => ∃ (ids : List Int) (i : Int), v24 = .int .i64 i ∧ Aside0 (impl_GoodWheel.l0 kq ids i a0_0 l0_1 = some r) ∧ Aside0 (kq ≤ k) ∧ Aside0 ids.Nodup ∧ Aside0 (gwMap w' gm ids.length ids) ∧ Aside0 (w'.heap[gb123]? = some (.cells #[.int .i64 a0_0, (.slice A0_1 l0_1.length c0_1)] 27 (0, 0))) ∧ Aside0 (Below w.heap.size w w'))
   case atStart => exact ⟨[], 0, rfl, H', ⟨Nat.le_refl _⟩, ⟨List.nodup_nil⟩, ⟨HM.out⟩, ⟨by (with_reducible repeat (first | refine blk_drewN ?_ _ | refine blk_drew ?_ | refine blk_alloc ?_ _)); exact BK123.out⟩, ⟨by repeat (first | (with_reducible first | exact HB.out | apply below_alloc | apply pw_below_drewN | apply below_drew1 | refine below_set ?_ GE123.out) | exact HB.out)⟩⟩

   case round =>
    clear H'
    try clear hcz6_0
    try clear hcz6_1
    try clear hfz6_0
    try clear hfz6_1
    try clear c5b1
    obtain ⟨ids, i, rfl, HA, HK2, HN, HM, BK123, HB⟩ := hrel
    cases gk with
    | zero => exact absurd HA.out (by simp [impl_GoodWheel.l0])
    | succ k2 =>
     have H := HA.out
     clear HA
     simp only [impl_GoodWheel.l0] at H
     by_cases c10 : i < (l0_1.length : Int)
     ·rw [if_pos c10] at H
      have c10b0 : decide (i < (l0_1.length : Int)) = true := decide_eq_true c10
      clear c10
      by_cases c11 : 0 ≤ i
      ·rw [if_pos c11] at H
       have c11b0 : decide (0 ≤ i) = true := decide_eq_true c11
       clear c11
       have H' := Aside0.mk H
       clear H
       have p125 : 0 ≤ (i : Int) := of_decide_eq_true (by first | (with_reducible assumption) | assumption)
       have q125 : i < (l0_1.length : Int) := of_decide_eq_true (by first | (with_reducible assumption) | assumption)
       obtain ⟨ad125, A125_0, c125_0, e125, hx125_0, hl125_0, hi125_0⟩ := at_L2 HR0_1.out i p125 q125
       cases e125
       try replace hx125_0 := (HB.out.cell (World.block_lt_of_cell? w _ hx125_0)).trans hx125_0
       have HR125_0 := Aside0.mk hi125_0
       have HC125_0 := Aside0.mk hl125_0
       clear hi125_0 hl125_0
       replace p125 := eq_true p125
       replace q125 := eq_true q125
       go_wp2
       go_loopg [33] k2 (fun kq v33 w' => ∃ (ids : List Int) (j : Int), v33 = .int .i64 j ∧ Aside0 (impl_GoodWheel.l1 kq ids i (rd_L2 l0_1 i) j a0_0 l0_1 = some r) ∧ Aside0 (kq ≤ k2) ∧ Aside0 ids.Nodup ∧ Aside0 (gwMap w' gm ids.length ids) ∧ Aside0 (w'.heap[gb123]? = some (.cells #[.int .i64 a0_0, (.slice (some ad125) l0_1.length c0_1)] 27 (0, 0))) ∧ Aside0 (Below w.heap.size w w'))
       case atStart => exact ⟨ids, 0, rfl, H', ⟨Nat.le_refl _⟩, HN, ⟨by first | exact HM.out | exact HM.out.drewN _ | exact HM.out.drew⟩, ⟨by (with_reducible repeat (first | refine blk_drewN ?_ _ | refine blk_drew ?_ | refine blk_alloc ?_ _)); exact BK123.out⟩, ⟨by repeat (first | (with_reducible first | exact HB.out | apply below_alloc | apply pw_below_drewN | apply below_drew1 | refine below_set ?_ GE123.out) | exact HB.out)⟩⟩
       case round =>
        clear H'
        try clear c10b0
        try clear c11b0
        try clear hx125_0
        try clear p125
        try clear q125
        clear HN HM BK123 HB
        clear ids
        obtain ⟨ids, j, rfl, HA, HK3, HN, HM, BK123, HB⟩ := hrel
        cases gk with
        | zero => exact absurd HA.out (by simp [impl_GoodWheel.l1])
        | succ k3 =>
         have H := HA.out
         clear HA
         simp only [impl_GoodWheel.l1] at H
         by_cases c13 : j < ((rd_L2 l0_1 i).length : Int)
         ·rw [if_pos c13] at H
          have c13b0 : decide (j < ((rd_L2 l0_1 i).length : Int)) = true := decide_eq_true c13
          clear c13
          by_cases c14 : 0 ≤ j
          ·rw [if_pos c14] at H
           have c14b0 : decide (0 ≤ j) = true := decide_eq_true c14
           clear c14
           obtain ⟨b, HF, H⟩ := Option.bind_eq_some_iff.mp H
           obtain ⟨c, A180, H⟩ := Option.bind_eq_some_iff.mp H
           replace HF := Aside0.mk HF
           have A18 := Aside0.mk A180
           clear A180
           have H' := Aside0.mk H
           clear H
           have p126 : 0 ≤ (j : Int) := of_decide_eq_true (by first | (with_reducible assumption) | assumption)
           have q126 : j < ((rd_L2 l0_1 i).length : Int) := of_decide_eq_true (by first | (with_reducible assumption) | assumption)
           obtain ⟨ad126, e126, hx126_0, hx126_1⟩ := at_T45 HR125_0.out j p126 q126
           cases e126
           try replace hx126_0 := (HB.out.cell (World.block_lt_of_cell? w _ hx126_0)).trans hx126_0
           try replace hx126_1 := (HB.out.cell (World.block_lt_of_cell? w _ hx126_1)).trans hx126_1
           replace p126 := eq_true p126
           replace q126 := eq_true q126
           go_upto_region 11 with fail
           have n0_ : Aside0 (gwMap (wr.alloc (.cells #[.int .i64 ((rd_T45 (rd_L2 l0_1 i) j).f0), .int .i64 ((rd_T45 (rd_L2 l0_1 i) j).f1)] 45)) gm ids.length ids) := ⟨gwMap.below HM.out (below_alloc (Below.refl _ _) _)⟩
           have n1_ : Aside0 ((wr.alloc (.cells #[.int .i64 ((rd_T45 (rd_L2 l0_1 i) j).f0), .int .i64 ((rd_T45 (rd_L2 l0_1 i) j).f1)] 45)).heap[gb123]? = some (.cells #[.int .i64 a0_0, .slice (some ad125) l0_1.length c0_1] 27 (0, 0))) := ⟨blk_alloc BK123.out _⟩
           have n2_ : Aside0 ((wr.alloc (.cells #[.int .i64 ((rd_T45 (rd_L2 l0_1 i) j).f0), .int .i64 ((rd_T45 (rd_L2 l0_1 i) j).f1)] 45)).heap[wr.heap.size]? = some (.cells #[.int .i64 ((rd_T45 (rd_L2 l0_1 i) j).f0), .int .i64 ((rd_T45 (rd_L2 l0_1 i) j).f1)] 45 (0, 0))) := ⟨blk_new wr _⟩
           have n3_ : Aside0 (Below w.heap.size w (wr.alloc (.cells #[.int .i64 ((rd_T45 (rd_L2 l0_1 i) j).f0), .int .i64 ((rd_T45 (rd_L2 l0_1 i) j).f1)] 45))) := ⟨by repeat (first | (with_reducible first | exact HB.out | apply below_alloc | apply pw_below_drewN | apply below_drew1 | refine below_set ?_ GE123.out) | exact HB.out)⟩
           have GET : Aside0 (w.heap.size ≤ wr.heap.size) := ⟨HB.out.size⟩
           clear HM BK123 HB
           (try clear hx126_0); (try clear hx126_1)
           generalize (wr.alloc (.cells #[.int .i64 ((rd_T45 (rd_L2 l0_1 i) j).f0), .int .i64 ((rd_T45 (rd_L2 l0_1 i) j).f1)] 45)) = w59 at n0_ n1_ n2_ n3_ ⊢
           generalize wr.heap.size = gt at n2_ GET ⊢
           have HM := n0_
           have BK123 := n1_
           have BKT := n2_
           have HB := n3_
           clear n0_ n1_ n2_ n3_
           (try clear p126); (try clear q126); (try clear c13b0); (try clear c14b0)
           have hcz0 : w59.cell? ⟨gt, 0, none⟩ = some (.int .i64 ((rd_T45 (rd_L2 l0_1 i) j).f0)) := (blk_cell BKT.out 0).trans rfl
           have hcz1 : w59.cell? ⟨gt, 1, none⟩ = some (.int .i64 ((rd_T45 (rd_L2 l0_1 i) j).f1)) := (blk_cell BKT.out 1).trans rfl
           have hcz2 : w59.cell? ⟨gb123, 0, none⟩ = some (.int .i64 a0_0) := (blk_cell BK123.out 0).trans rfl
           go_cut [9] (fun v9 wc => ∃ b', v9 = .bool b' ∧ Aside0 (b' = b) ∧ Aside0 (wc.heap[gt]? = some (.cells #[.int .i64 ((rd_T45 (rd_L2 l0_1 i) j).f0), .int .i64 ((rd_T45 (rd_L2 l0_1 i) j).f1)] 45 (0, 0))) ∧ Aside0 (wc.heap[gb123]? = some (.cells #[.int .i64 a0_0, (.slice (some ad125) l0_1.length c0_1)] 27 (0, 0))) ∧ Aside0 (gwMap wc gm ids.length ids) ∧ Aside0 (Below w.heap.size w wc))
           case first =>
            have HF := HF.out
            unfold gwFit at HF
            obtain ⟨r1, B1, HF⟩ := Option.bind_eq_some_iff.mp HF
            replace B1 := Aside0.mk B1
            cases r1 with
            | false =>
             have HF1 : some false = some b := HF
             obtain rfl := Option.some.inj HF1
             clear HF HF1
             go_wp2_with (first | ((with_reducible refine gate_callee (f := 43) rfl ?_); (try (refine gate_guard (by rfl) ?_; dsimp only)); refine goesL_ (some 41) rfl rfl Try.func43 (by kernel_rfl) rfl #[.int .i64 a0_0, .int .i64 ((rd_T45 (rd_L2 l0_1 i) j).f0)] rfl (by (try simp only [List.map_toArray, List.map_cons, List.map_nil]); first | done | rfl | (simp only [List.length_drop, List.length_take]; rfl)) ?_; (with_reducible refine (impl_reach.calls a0_0 ((rd_T45 (rd_L2 l0_1 i) j).f0) false _ B1.out).mono ?_); rintro e w' ⟨rfl, ⟨nd, rfl⟩⟩; refine ⟨_, rfl, ?_⟩))
             go_meet
             case rel => exact ⟨false, rfl, ⟨rfl⟩, ⟨by (with_reducible repeat (first | refine blk_drewN ?_ _ | refine blk_drew ?_ | refine blk_alloc ?_ _)); exact BKT.out⟩, ⟨by (with_reducible repeat (first | refine blk_drewN ?_ _ | refine blk_drew ?_ | refine blk_alloc ?_ _)); exact BK123.out⟩, ⟨by first | exact HM.out | exact HM.out.drewN _ | exact HM.out.drew⟩, ⟨by repeat (first | (with_reducible first | exact HB.out | apply below_alloc | apply pw_below_drewN | apply below_drew1 | refine below_set ?_ GE123.out | refine below_set ?_ GET.out) | exact HB.out)⟩⟩
            | true =>
             replace HF : ((impl_fitsLevel.f k3 a0_0 (rd_T45 (rd_L2 l0_1 i) j).f0 (wrap64 (Int.tdiv i 8))).bind fun b => if b = true then ((impl_slotAt.f k3 (rd_T45 (rd_L2 l0_1 i) j).f0 (wrap64 (Int.tdiv i 8))).bind fun s => some (decide (s = i))) else some false) = some b := HF
             obtain ⟨r2, B2, HF⟩ := Option.bind_eq_some_iff.mp HF
             replace B2 := Aside0.mk B2
             cases r2 with
             | false =>
              have HF1 : some false = some b := HF
              obtain rfl := Option.some.inj HF1
              clear HF HF1
              go_wp2_with (first | ((with_reducible refine gate_callee (f := 43) rfl ?_); (try (refine gate_guard (by rfl) ?_; dsimp only)); refine goesL_ (some 41) rfl rfl Try.func43 (by kernel_rfl) rfl #[.int .i64 a0_0, .int .i64 ((rd_T45 (rd_L2 l0_1 i) j).f0)] rfl (by (try simp only [List.map_toArray, List.map_cons, List.map_nil]); first | done | rfl | (simp only [List.length_drop, List.length_take]; rfl)) ?_; (with_reducible refine (impl_reach.calls a0_0 ((rd_T45 (rd_L2 l0_1 i) j).f0) true _ B1.out).mono ?_); rintro e w' ⟨rfl, ⟨nd, rfl⟩⟩; refine ⟨_, rfl, ?_⟩) | ((with_reducible refine gate_callee (f := 53) rfl ?_); (try (refine gate_guard (by rfl) ?_; dsimp only)); refine goesL_ (some 48) rfl rfl Try.func53 (by kernel_rfl) rfl #[.int .i64 a0_0, .int .i64 ((rd_T45 (rd_L2 l0_1 i) j).f0), .int .i64 (wrap64 (Int.tdiv i 8))] rfl (by (try simp only [List.map_toArray, List.map_cons, List.map_nil]); first | done | rfl | (simp only [List.length_drop, List.length_take]; rfl)) ?_; (with_reducible refine (impl_fitsLevel.calls k3 a0_0 ((rd_T45 (rd_L2 l0_1 i) j).f0) (wrap64 (Int.tdiv i 8)) false _ B2.out).mono ?_); rintro e w' ⟨rfl, ⟨nd, rfl⟩⟩; refine ⟨_, rfl, ?_⟩))
              go_meet
              case rel => exact ⟨false, rfl, ⟨rfl⟩, ⟨by (with_reducible repeat (first | refine blk_drewN ?_ _ | refine blk_drew ?_ | refine blk_alloc ?_ _)); exact BKT.out⟩, ⟨by (with_reducible repeat (first | refine blk_drewN ?_ _ | refine blk_drew ?_ | refine blk_alloc ?_ _)); exact BK123.out⟩, ⟨by first | exact HM.out | exact HM.out.drewN _ | exact HM.out.drew⟩, ⟨by repeat (first | (with_reducible first | exact HB.out | apply below_alloc | apply pw_below_drewN | apply below_drew1 | refine below_set ?_ GE123.out | refine below_set ?_ GET.out) | exact HB.out)⟩⟩
             | true =>
              replace HF : ((impl_slotAt.f k3 (rd_T45 (rd_L2 l0_1 i) j).f0 (wrap64 (Int.tdiv i 8))).bind fun s => some (decide (s = i))) = some b := HF
              obtain ⟨s, B3, HF⟩ := Option.bind_eq_some_iff.mp HF
              replace B3 := Aside0.mk B3
              replace HF : some (decide (s = i)) = some b := HF
              obtain rfl := Option.some.inj HF
              clear HF
              have hsi : (s == i) = decide (s = i) := rfl
              go_wp2_with (first | ((with_reducible refine gate_callee (f := 43) rfl ?_); (try (refine gate_guard (by rfl) ?_; dsimp only)); refine goesL_ (some 41) rfl rfl Try.func43 (by kernel_rfl) rfl #[.int .i64 a0_0, .int .i64 ((rd_T45 (rd_L2 l0_1 i) j).f0)] rfl (by (try simp only [List.map_toArray, List.map_cons, List.map_nil]); first | done | rfl | (simp only [List.length_drop, List.length_take]; rfl)) ?_; (with_reducible refine (impl_reach.calls a0_0 ((rd_T45 (rd_L2 l0_1 i) j).f0) true _ B1.out).mono ?_); rintro e w' ⟨rfl, ⟨nd, rfl⟩⟩; refine ⟨_, rfl, ?_⟩) | ((with_reducible refine gate_callee (f := 53) rfl ?_); (try (refine gate_guard (by rfl) ?_; dsimp only)); refine goesL_ (some 48) rfl rfl Try.func53 (by kernel_rfl) rfl #[.int .i64 a0_0, .int .i64 ((rd_T45 (rd_L2 l0_1 i) j).f0), .int .i64 (wrap64 (Int.tdiv i 8))] rfl (by (try simp only [List.map_toArray, List.map_cons, List.map_nil]); first | done | rfl | (simp only [List.length_drop, List.length_take]; rfl)) ?_; (with_reducible refine (impl_fitsLevel.calls k3 a0_0 ((rd_T45 (rd_L2 l0_1 i) j).f0) (wrap64 (Int.tdiv i 8)) true _ B2.out).mono ?_); rintro e w' ⟨rfl, ⟨nd, rfl⟩⟩; refine ⟨_, rfl, ?_⟩) | ((with_reducible refine gate_callee (f := 54) rfl ?_); (try (refine gate_guard (by rfl) ?_; dsimp only)); refine goesL_ (some 54) rfl rfl Try.func54 (by kernel_rfl) rfl #[.int .i64 ((rd_T45 (rd_L2 l0_1 i) j).f0), .int .i64 (wrap64 (Int.tdiv i 8))] rfl (by (try simp only [List.map_toArray, List.map_cons, List.map_nil]); first | done | rfl | (simp only [List.length_drop, List.length_take]; rfl)) ?_; (with_reducible refine (impl_slotAt.calls k3 ((rd_T45 (rd_L2 l0_1 i) j).f0) (wrap64 (Int.tdiv i 8)) s _ B3.out).mono ?_); rintro e w' ⟨rfl, ⟨nd, rfl⟩⟩; refine ⟨_, rfl, ?_⟩))
              go_meet
              case rel => exact ⟨decide (s = i), rfl, ⟨rfl⟩, ⟨by (with_reducible repeat (first | refine blk_drewN ?_ _ | refine blk_drew ?_ | refine blk_alloc ?_ _)); exact BKT.out⟩, ⟨by (with_reducible repeat (first | refine blk_drewN ?_ _ | refine blk_drew ?_ | refine blk_alloc ?_ _)); exact BK123.out⟩, ⟨by first | exact HM.out | exact HM.out.drewN _ | exact HM.out.drew⟩, ⟨by repeat (first | (with_reducible first | exact HB.out | apply below_alloc | apply pw_below_drewN | apply below_drew1 | refine below_set ?_ GE123.out | refine below_set ?_ GET.out) | exact HB.out)⟩⟩
           case rest =>
            clear HF HM BK123 BKT HB hcz0 hcz1 hcz2
            obtain ⟨b', rfl, EB, BKT, BK123, HM, HB⟩ := hcut
            obtain rfl := EB.out
            have H := H'.out
            clear H' EB
            have hcz0 : wc.cell? ⟨gt, 0, none⟩ = some (.int .i64 ((rd_T45 (rd_L2 l0_1 i) j).f0)) := (blk_cell BKT.out 0).trans rfl
            have hcz1 : wc.cell? ⟨gt, 1, none⟩ = some (.int .i64 ((rd_T45 (rd_L2 l0_1 i) j).f1)) := (blk_cell BKT.out 1).trans rfl
            cases c with
            | false =>
             have H1 : some false = some r := H
             obtain rfl := Option.some.inj H1
             clear H H1
             go_wp2_with (first | ((with_reducible refine gate_callee (f := 55) rfl ?_); (try (refine gate_guard (by rfl) ?_; dsimp only)); refine goesL_ (some 60) rfl rfl Try.func55 (by kernel_rfl) rfl #[.int .i64 ((rd_T45 (rd_L2 l0_1 i) j).f1), .int .i64 0, .int .i64 1000] rfl (by (try simp only [List.map_toArray, List.map_cons, List.map_nil]); first | done | rfl | (simp only [List.length_drop, List.length_take]; rfl)) ?_; (with_reducible refine (impl_in.calls ((rd_T45 (rd_L2 l0_1 i) j).f1) 0 1000 false _ A18.out).mono ?_); rintro e w' ⟨rfl, ⟨nd, rfl⟩⟩; refine ⟨_, rfl, ?_⟩))
             go_ret
             exact ⟨by first | rfl | (simp; done) | (simp [*]; done), by repeat (first | (with_reducible first | exact HB.out | apply below_alloc | apply pw_below_drewN | apply below_drew1 | refine below_set ?_ GE123.out | refine below_set ?_ GET.out) | exact HB.out)⟩
            | true =>
             have hwf := Aside0.mk (gw_wf (gw_in A18.out))
             cases b' with
             | false =>
              have H1 : some false = some r := H
              obtain rfl := Option.some.inj H1
              clear H H1
              go_wp2_with (first | ((with_reducible refine gate_callee (f := 55) rfl ?_); (try (refine gate_guard (by rfl) ?_; dsimp only)); refine goesL_ (some 60) rfl rfl Try.func55 (by kernel_rfl) rfl #[.int .i64 ((rd_T45 (rd_L2 l0_1 i) j).f1), .int .i64 0, .int .i64 1000] rfl (by (try simp only [List.map_toArray, List.map_cons, List.map_nil]); first | done | rfl | (simp only [List.length_drop, List.length_take]; rfl)) ?_; (with_reducible refine (impl_in.calls ((rd_T45 (rd_L2 l0_1 i) j).f1) 0 1000 true _ A18.out).mono ?_); rintro e w' ⟨rfl, ⟨nd, rfl⟩⟩; refine ⟨_, rfl, ?_⟩))
              go_ret
              exact ⟨by first | rfl | (simp; done) | (simp [*]; done), by repeat (first | (with_reducible first | exact HB.out | apply below_alloc | apply pw_below_drewN | apply below_drew1 | refine below_set ?_ GE123.out | refine below_set ?_ GET.out) | exact HB.out)⟩
             | true =>
              replace H : (if (rd_T45 (rd_L2 l0_1 i) j).f1 ∈ ids then (some false) else (if ids.length < 4000000 then (impl_GoodWheel.l1 k3 (ids ++ [(rd_T45 (rd_L2 l0_1 i) j).f1]) i (rd_L2 l0_1 i) (wrap64 (j + 1)) a0_0 l0_1) else none)) = some r := H
              by_cases c20 : (rd_T45 (rd_L2 l0_1 i) j).f1 ∈ ids
              ·rw [if_pos c20] at H
               obtain rfl := Option.some.inj H
               clear H
               have hmm : decide ((rd_T45 (rd_L2 l0_1 i) j).f1 ∈ ids) = true := decide_eq_true c20
               clear c20
               go_wp2_with (first | ((with_reducible refine gate_callee (f := 55) rfl ?_); (try (refine gate_guard (by rfl) ?_; dsimp only)); refine goesL_ (some 60) rfl rfl Try.func55 (by kernel_rfl) rfl #[.int .i64 ((rd_T45 (rd_L2 l0_1 i) j).f1), .int .i64 0, .int .i64 1000] rfl (by (try simp only [List.map_toArray, List.map_cons, List.map_nil]); first | done | rfl | (simp only [List.length_drop, List.length_take]; rfl)) ?_; (with_reducible refine (impl_in.calls ((rd_T45 (rd_L2 l0_1 i) j).f1) 0 1000 true _ A18.out).mono ?_); rintro e w' ⟨rfl, ⟨nd, rfl⟩⟩; refine ⟨_, rfl, ?_⟩) | ((with_reducible refine gate_dst (N := 70) rfl ?_); (try (refine gate_guard (by rfl) ?_; dsimp only)); refine gw_look_event rfl rfl rfl rfl hwf.out (by first | exact HM.out | exact HM.out.drewN _ | exact HM.out.drew) hmm ?_))
               go_ret
               exact ⟨by first | rfl | (simp; done) | (simp [*]; done), by repeat (first | (with_reducible first | exact HB.out | apply below_alloc | apply pw_below_drewN | apply below_drew1 | refine below_set ?_ GE123.out | refine below_set ?_ GET.out) | exact HB.out)⟩
              ·rw [if_neg c20] at H
               by_cases c30 : ids.length < 4000000
               ·rw [if_pos c30] at H
                replace c30 := Aside0.mk c30
                have hmm : decide ((rd_T45 (rd_L2 l0_1 i) j).f1 ∈ ids) = false := decide_eq_false c20
                have H' := Aside0.mk H
                have HN2 : Aside0 ((ids ++ [(rd_T45 (rd_L2 l0_1 i) j).f1]).Nodup) := ⟨by rw [List.nodup_append]; exact ⟨HN.out, by simp, by rintro x hx y hy rfl; rw [List.mem_singleton] at hy; subst hy; exact c20 hx⟩⟩
                clear H c20
                go_wp2_with (first | ((with_reducible refine gate_callee (f := 55) rfl ?_); (try (refine gate_guard (by rfl) ?_; dsimp only)); refine goesL_ (some 60) rfl rfl Try.func55 (by kernel_rfl) rfl #[.int .i64 ((rd_T45 (rd_L2 l0_1 i) j).f1), .int .i64 0, .int .i64 1000] rfl (by (try simp only [List.map_toArray, List.map_cons, List.map_nil]); first | done | rfl | (simp only [List.length_drop, List.length_take]; rfl)) ?_; (with_reducible refine (impl_in.calls ((rd_T45 (rd_L2 l0_1 i) j).f1) 0 1000 true _ A18.out).mono ?_); rintro e w' ⟨rfl, ⟨nd, rfl⟩⟩; refine ⟨_, rfl, ?_⟩) | ((with_reducible refine gate_dst (N := 70) rfl ?_); (try (refine gate_guard (by rfl) ?_; dsimp only)); refine gw_look_event rfl rfl rfl rfl hwf.out (by first | exact HM.out | exact HM.out.drewN _ | exact HM.out.drew) hmm ?_) | (at_mapUpdate; refine wpList_mapUpdate_own _ rfl _ _ _ 70 rfl 3 4 (Maps.int_keyed Try.underlying3) Try.underlying70 (plainElem Try.prog 4) gm ids.length _ rfl (by first | exact HM.out | exact HM.out.drewN _ | exact HM.out.drew) (by have := c30.out; unfold maxLen; omega) _ _ (.int .i64 ((rd_T45 (rd_L2 l0_1 i) j).f1)) rfl rfl (Maps.keyOf_int_mk Try.underlying3 hwf.out) (.lit (.bool true)) [] (plainElem_bool Try.underlying4 true) ?_; intro w1 hown1 hgrow1))
                go_roundg k3
                case measure => have := HK2.out; have := HK3.out; omega
                case rel => exact ⟨ids ++ [(rd_T45 (rd_L2 l0_1 i) j).f1], wrap64 (j + 1), (by first | rfl | (simp; done) | (simp [*]; done) | (simp; exact (fun l : List UInt8 => (by cases l <;> rfl : l.isEmpty = !(l != []))) _)), H', ⟨by have := HK3.out; omega⟩, HN2, ⟨by rw [List.length_append]; exact gwMap.grow (W := w) hown1⟩, ⟨by (with_reducible repeat (first | refine blk_drewN ?_ _ | refine blk_drew ?_ | refine blk_alloc ?_ _)); exact blk_grown (by (with_reducible repeat (first | refine blk_drewN ?_ _ | refine blk_drew ?_ | refine blk_alloc ?_ _)); exact BK123.out) hgrow1 (by intro e; exact NM.out (Option.some.inj e))⟩, ⟨by (with_reducible repeat (first | apply pw_below_drewN | apply below_drew1)); exact pw_below_grown (by repeat (first | (with_reducible first | exact HB.out | apply below_alloc | apply pw_below_drewN | apply below_drew1 | refine below_set ?_ GE123.out | refine below_set ?_ GET.out) | exact HB.out)) (some gm) (below_size (by repeat (first | (with_reducible first | exact HB.out | apply below_alloc | apply pw_below_drewN | apply below_drew1 | refine below_set ?_ GE123.out | refine below_set ?_ GET.out) | exact HB.out))) hgrow1 (by rintro k rfl_; cases rfl_; exact GM.out)⟩⟩
               ·rw [if_neg c30] at H
                exact absurd H (by simp)
          ·rw [if_neg c14] at H
           exact absurd H (by simp)
         ·rw [if_neg c13] at H
          have c13b0 : decide (j < ((rd_L2 l0_1 i).length : Int)) = false := decide_eq_false c13
          clear c13
          have H' := Aside0.mk H
          clear H
          go_wp2
          go_roundg k3
          case measure => have := HK2.out; have := HK3.out; omega
          case rel => exact ⟨ids, wrap64 (i + 1), (by first | rfl | (simp; done) | (simp [*]; done) | (simp; exact (fun l : List UInt8 => (by cases l <;> rfl : l.isEmpty = !(l != []))) _)), H', ⟨by have := HK2.out; have := HK3.out; omega⟩, HN, ⟨by first | exact HM.out | exact HM.out.drewN _ | exact HM.out.drew⟩, ⟨by (with_reducible repeat (first | refine blk_drewN ?_ _ | refine blk_drew ?_ | refine blk_alloc ?_ _)); exact BK123.out⟩, ⟨by repeat (first | (with_reducible first | exact HB.out | apply below_alloc | apply pw_below_drewN | apply below_drew1 | refine below_set ?_ GE123.out) | exact HB.out)⟩⟩
      ·rw [if_neg c11] at H
       exact absurd H (by simp)
     ·rw [if_neg c10] at H
      have c10b0 : decide (i < (l0_1.length : Int)) = false := decide_eq_false c10
      try (have c10b0q := c10b0; rw [hl125_0] at c10b0q)
      clear c10
      obtain rfl := Option.some.inj H
      go_wp2_with (first | (at_len; refine wpList_len_own _ rfl _ 70 rfl 3 4 Try.underlying70 _ gm _ _ rfl HM.out ?_; rw [gw_size HN.out]))
      go_ret
      exact ⟨by first | rfl | (simp; done) | (simp [*]; done), by repeat (first | (with_reducible first | exact HB.out | apply below_alloc | apply pw_below_drewN | apply below_drew1 | refine below_set ?_ GE123.out) | exact HB.out)⟩
  ·rw [if_neg c5] at H
   have c5b1 : ((l0_1.length : Int) != 24) = true := bne_iff_ne.mpr c5
   clear c5
   obtain rfl := Option.some.inj H
   clear H
   go_enter Try.func21, Try.ntmps21
   go_wp2_with (first | ((with_reducible refine gate_dst (N := 1) rfl ?_); (try (refine gate_guard (by rfl) ?_; dsimp only)); refine box_event ?hg (N := 1) ?hd (cs := #[.int .i64 a0_0, .slice A0_1 l0_1.length c0_1]) (t := 27) ?hr ?_; (case hd => rfl); (case hg => rfl); (case hr => first | (go_simp; done) | (go_simp; rfl)); intro gb123 hg w3 hbox hb; have n0_ := Aside0.mk (below_step (by repeat (first | (with_reducible first | exact HB.out | apply below_alloc | apply pw_below_drewN | apply below_drew1) | exact HB.out)) hb); have n1_ := Aside0.mk (hbox); have n2_ := Aside0.mk ((by rw [hg]; exact (below_size (by repeat (first | (with_reducible first | exact HB.out | apply below_alloc | apply pw_below_drewN | apply below_drew1) | exact HB.out))) : w.heap.size ≤ gb123)); have n3_ := Aside0.mk ((by rw [hg]; exact (below_size (by repeat (first | (with_reducible first | exact HB.out | apply below_alloc | apply pw_below_drewN | apply below_drew1) | exact HB.out))) : w.heap.size ≤ gb123)); clear HB; have HB := n0_; have BK123 := n1_; have GW123 := n2_; have GE123 := n3_; clear n0_ n1_ n2_ n3_; clear hb hbox hg; have hcz6_0 : w3.cell? ⟨gb123, 0, none⟩ = some (.int .i64 a0_0) := (blk_cell BK123.out 0).trans rfl; have hcz6_1 : w3.cell? ⟨gb123, 1, none⟩ = some (.slice A0_1 l0_1.length c0_1) := (blk_cell BK123.out 1).trans rfl; have hfz6_0 := blk_frozen BK123.out 0; have hfz6_1 := blk_frozen BK123.out 1) | ((with_reducible refine gate_callee (f := 42) rfl ?_); refine goesL_ (some 12) rfl rfl Try.func42 (by kernel_rfl) rfl #[.int .i64 a0_0] rfl (by (try simp only [List.map_toArray, List.map_cons, List.map_nil]); first | done | rfl | (simp only [List.length_drop, List.length_take]; rfl)) ?_; (with_reducible refine (impl_isNow.calls a0_0 true _ A4.out).mono ?_); rintro e w' ⟨rfl, ⟨nd, rfl⟩⟩; refine ⟨_, rfl, ?_⟩))
   go_ret
   exact ⟨by first | rfl | (simp; done) | (simp [*]; done), by repeat (first | (with_reducible first | exact HB.out | apply below_alloc | apply pw_below_drewN | apply below_drew1 | refine below_set ?_ GE123.out) | exact HB.out)⟩

/-! ### impl_Timer: function 75, by hand -/
def impl_Timer.f (l : List S45) : Option (List S45) := if l.length < 8796093022208 then some l else none
theorem impl_Timer.nil (w : World) (A : Option Addr) (n c : Nat) : (binOp .eql 48 (.slice A n c) (.slice none 0 0)).run Try.prog w = .ok (.bool A.isNone) w := by
 have h : ∀ d : Nat, (Op.equalIn (d + 1) 48 (.slice A n c) (.slice none 0 0)).run Try.prog w = .ok A.isNone w := fun d => by
  cases A <;> simp [Op.equalIn, run_underlying Try.underlying48]
 simp only [binOp]
 simp [Op.equal, Op.maxDepth, h 9999]
set_option maxHeartbeats 8000000 in
set_option maxRecDepth 100000 in
theorem impl_Timer.calls (A0 : Option Addr) (c0 : Nat) (l0 : List S45) (r : List S45) (w : World) (hr0 : Kd.C k45 w A0 l0.length l0) (hc0 : l0.length ≤ c0) (h : impl_Timer.f l0 = some r) :
  Calls Try.prog 75 #[.slice A0 l0.length c0] w fun e w' => ∃ v0_ : Value, e = .returned (v0_) ∧ Kd.R k45 45 w' w.heap.size (fun _ => True) v0_ r ∧ Below w.heap.size w w' := by
 unfold impl_Timer.f at h
 have hl : l0.length < 8796093022208 := by
  by_cases hl : l0.length < 8796093022208
  ·exact hl
  ·rw [if_neg hl] at h; cases h
 rw [if_pos hl] at h
 injection h with h
 subst h
 have HR1 := Aside0.mk hr0
 have HC1 := Aside0.mk hc0
 have LMc3 := Aside0.mk hl
 have HB := Aside0.mk (Below.refl w.heap.size w)
 clear hc0 hl
 cases A0 with
 | none =>
  have hn : l0 = [] := by
   rcases Nat.eq_zero_or_pos l0.length with h0 | h0
   ·exact List.length_eq_zero_iff.1 h0
   ·obtain ⟨ad, e, _⟩ := at_T45 hr0 0 (by omega) (by omega)
    cases e
  subst hn
  clear hr0
  have hq := fun W => impl_Timer.nil W none 0 c0
  simp only [Option.isNone] at hq
  go_enter Try.func75, Try.ntmps75
  go_wp2
  go_ret
  exact ⟨_, rfl, Kd.R_nil _ _ _ _ _, HB.out⟩
 | some a =>
  clear hr0
  obtain ⟨y164, hy164⟩ : ∃ y_ : List S45, y_ = (([] : List S45)) := ⟨_, rfl⟩
  obtain ⟨y167, hy167⟩ : ∃ y_ : List S45, y_ = (y164 ++ l0) := ⟨_, rfl⟩
  have e167 : y167 = l0 := by rw [hy167, hy164]; rfl
  have L := Aside0.mk (show y164.length + l0.length < 8796093022208 by rw [hy164]; simpa using LMc3.out)
  have Ny164 := Aside0.mk hy164
  have Ny167 := Aside0.mk hy167
  have E167 := Aside0.mk e167
  clear hy164 hy167 e167
  have hq := fun W => impl_Timer.nil W (some a) l0.length c0
  simp only [Option.isNone] at hq
  go_enter Try.func75, Try.ntmps75
  go_wp2_with (first | ((with_reducible refine gate_dst (N := 5) rfl ?_); refine Kd.R_lit k45 _ 45 ?hg (N := 5) ?hd (xs := ([] : List S45)) (inner := []) (ok := fun _ => True) (okp := fun _ => True) ?hr ?hp (fun _ hk => hk) trivial (Below.refl _ _) (Nat.le_refl _) (by simp) ?_; (case hd => rfl); (case hg => rfl); (case hr => first | (go_simp; done) | (go_simp; rfl)); (case hp => exact (Reps.none _ _)); intro v165 w5 ho6 hb hg_ hnew_; clear hg_ hnew_; (first | rw [← Ny164.out] at ho6 | (simp only [Int.reduceToNat] at ho6; rw [← Ny164.out] at ho6)); have n0_ := Aside0.mk (Kd.R_lower ho6 (below_size (by repeat (first | (with_reducible first | exact HB.out | apply below_alloc | apply pw_below_drewN | apply below_drew1) | exact HB.out)))); have n2_ := Aside0.mk (below_step (by repeat (first | (with_reducible first | exact HB.out | apply below_alloc | apply pw_below_drewN | apply below_drew1) | exact HB.out)) hb); clear HB; have HO166 := n0_; have HB := n2_; clear n0_ n2_; clear hb ho6) | ((with_reducible refine gate_builtin (b := .append) (xs := #[.tmp 5, .tmp 6]) rfl ?_); at_builtin; refine Kd.R_append_rows k45 (w0 := w) w.heap.size rfl (.tmp 5) (.tmp 6) 48 45 (.agg #[(.int .i64 0), (.int .i64 0)]) 16 rfl Try.underlying48 info45 rfl (by decide) (by omega) v165 y164 l0 _ _ _ (fun _ => True) (fun _ => False) rfl rfl ?aO ?aR (fun _ _ h => h) (fun _ h => h.elim) ?aF ?aB ?aS ?aL ?_; (case aR => repeat (first | exact (Kd.C_below HR1.out HB.out) | (with_reducible refine Kd.C_alloc ?_ _) | (with_reducible refine Kd.C_drewN ?_ _) | (with_reducible refine Kd.C_drew ?_))); (case aB => exact (by repeat (first | (with_reducible first | exact HB.out | apply below_alloc | apply pw_below_drewN | apply below_drew1) | exact HB.out))); (case aF => exact (fun _ _ => trivial)); (case aO => exact (by (with_reducible repeat (first | apply Kd.R_alloc | apply Kd.R_drewN | apply Kd.R_drew)); exact HO166.out)); (case aS => exact (below_size (by repeat (first | (with_reducible first | exact HB.out | apply below_alloc | apply pw_below_drewN | apply below_drew1) | exact HB.out)))); (case aL => have := L.out; omega); intro v168 w7 ho hb hg hat; rw [← Ny167.out] at ho; have n1_ := Aside0.mk (hb); have n2_ := Aside0.mk (ho); clear HB; clear HO166; have HB := n1_; have HO169 := n2_; clear n1_ n2_; clear ho hb hg hat))
  go_ret
  exact ⟨_, rfl, by rw [← E167.out]; exact HO169.out, HB.out⟩

end Go.Proofs.Ytgmjfdehladelaa.PFnExactAdvanceWheel
