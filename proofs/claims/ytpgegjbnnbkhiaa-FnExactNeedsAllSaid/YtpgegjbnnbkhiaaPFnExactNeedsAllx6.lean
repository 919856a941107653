-- written by xprint.py (a program of this session's, over the kit's print): printed functions, and some by hand
import Derived.Test.YtpgegjbnnbkhiaaPFnExactNeedsAllx0
import Derived.Test.YtpgegjbnnbkhiaaPFnExactNeedsAllx5
namespace Go.Proofs.Ytpgegjbnnbkhiaa.PFnExactNeedsAll
open Go.RowKit Go.Proofs.YtpgegjbnnbkhiaaW.PrintWords Go.Proofs.YtpgegjbnnbkhiaaW.PrintLast Go.Proofs.YtpgegjbnnbkhiaaW.PrintMore
attribute [local go_sem] max2_int min2_int max_two min_two max_three min_three max_four min_four   -- for this text's walks alone
set_option linter.unusedVariables false
set_option linter.unusedSimpArgs false

/-! ### slices_Backward_int_int: function 55, by hand; a text alone -/
attribute [local go_sem] Oper.semAt_some
/-- what the body of a loop keeps: all blocks below N but g -/
def KpB (N g : Nat) (W W' : World) : Prop := W.heap.size ≤ W'.heap.size ∧ ∀ k, k < N → k ≠ g → W'.heap[k]? = W.heap[k]?
theorem bel2 {w W w1 : World} (h : Below w.heap.size w W) (hb : Below W.heap.size W w1) : Below w.heap.size w w1 := below_then h h.size hb
theorem KpB.refl (N g : Nat) (W : World) : KpB N g W W := ⟨Nat.le_refl _, fun _ _ _ => rfl⟩
theorem KpB.trans {N g : Nat} {A B C : World} (h : KpB N g A B) (h' : KpB N g B C) : KpB N g A C := ⟨Nat.le_trans h.1 h'.1, fun k h1 h2 => (h'.2 k h1 h2).trans (h.2 k h1 h2)⟩
theorem KpB.putObj {N g : Nat} (W : World) (l : Nat) (o' : Obj) (h : N ≤ l) : KpB N g W (W.putObj l o') :=
  ⟨by simp, fun k h1 _ => World.putObj_heap_other (by omega)⟩
theorem KpB.of_below {N g B : Nat} {W W' : World} (h : Below B W W') (hN : N ≤ B) : KpB N g W W' := ⟨h.size, fun k h1 _ => h.block k (by omega)⟩
set_option maxRecDepth 100000 in
set_option maxHeartbeats 2000000 in
theorem bw1_in {α : Type} (encs : α → Array Value) (ys : List α) (N g : Nat) (l Bs len c : Nat) (A : Option Addr) (zs : List Int) (hlen : zs.length = len) (hBs : Bs < N ∧ Bs ≠ g)
    (hys : ys.length = len)
    (hf : ∀ j (h : j < ys.length), encs (ys[j]'h) = #[.int .i64 ((len - 1 - j : Nat) : Int), .int .i64 (rd zs ((len - 1 - j : Nat) : Int))])
    (J Jx : List α → World → Prop)
    (hY : ∀ pre x W, J pre W → pre.length < len → YieldAt Fence.wide 1 Try.prog l (encs x) W fun e W' =>
      (e = .returned (.bool true) ∧ J (pre ++ [x]) W' ∧ KpB N g W W') ∨ (e = .returned (.bool false) ∧ Jx (pre ++ [x]) W'))
    (W : World) (base : Nat) (hb : W.heap[Bs]? = some (.cells #[.slice A len c] 29 (0, 0))) (hR : Kd.R (Kd.int .i64) 3 W base (fun k => k < N ∧ k ≠ g) (.slice A len c) zs) (h0 : J [] W) :
    CallsIn Fence.wide 2 Try.prog 69 #[.func (.yield l) #[] #[], .pointer (some ⟨Bs, 0, none⟩)] W fun e W' => (∃ v, e = .returned v) ∧
      ((∃ zs, zs = ys ∧ J zs W') ∨ (∃ pre, True ∧ Jx pre W')) := by
  have HB := Aside0.mk hb
  have HR := Aside0.mk hR
  have HL := Aside0.mk hlen
  have HF := Aside0.mk hf
  have hz : W.cell? ⟨Bs, 0, none⟩ = some (.slice A len c) := (blk_cell hb 0).trans rfl
  have hmax : len ≤ 9223372036854775807 := by have := (Kd.R_reads' hR).2.2.2.1; omega
  clear hb hR hlen hf
  refine callsIn_of_wp Try.func69 rfl trivial ?_ rfl
  simp only [Try.ntmps69, List.size_toArray, List.length_cons, List.length_nil, Nat.reduceAdd, Nat.reduceSub, Array.replicate_succ, Array.replicate_zero, List.push_toArray, List.append_toArray, List.nil_append, List.cons_append]
  gi_wp2
  gi_loopw [3] (fun i wr => ∃ k : Nat, k ≤ len ∧ i = .int .i64 ((len : Int) - 1 - (k : Int)) ∧ J (ys.take k) wr ∧ Aside0 (KpB N g W wr)) (fun i _ => (intOf i + 1).toNat)
  case atStart => exact ⟨0, Nat.zero_le _, by congr 1; first | rfl | omega | (unfold wrap64; omega), by simpa using h0, ⟨KpB.refl _ _ _⟩⟩
  case round =>
    obtain ⟨k, hk, rfl, hJs, HK⟩ := hrel
    have hzr : wr.cell? ⟨Bs, 0, none⟩ = some (.slice A len c) := (blk_cell ((HK.out.2 Bs hBs.1 hBs.2).trans HB.out) 0).trans rfl
    by_cases hlt : k < len
    · have hRr := (Kd.R_reads' (Kd.R_move HR.out (fun k hk => HK.out.2 k hk.1 hk.2))).2.2
      obtain ⟨ad, e0, hcell⟩ := Kd.at_int hRr ((len - 1 - k : Nat) : Int) (by omega) (by have := HL.out; omega)
      subst e0
      rw [Int.toNat_natCast] at hcell
      obtain ⟨fn, tmps, assign, body, hy, hR⟩ := hY _ (ys[k]'(by omega)) wr hJs (by rw [List.length_take]; omega)
      rw [HF.out k (by omega)] at hy
      have hcast : ((len - 1 - k : Nat) : Int) = (len : Int) - 1 - (k : Int) := by omega
      have hnat : ((len : Int) - 1 - (k : Int)).toNat = len - 1 - k := by omega
      obtain ⟨v, hv⟩ : ∃ v, v = rd zs ((len - 1 - k : Nat) : Int) := ⟨_, rfl⟩
      rw [← hv] at hcell hy
      rw [hcast] at hy
      have p0 : 0 ≤ (len : Int) - 1 - (k : Int) := by omega
      have p1 : (len : Int) - 1 - (k : Int) < len := by omega
      clear hcast hnat hv hRr
      gi_wp2
      refine hR.mono ?_
      rintro e W3 (⟨rfl, hJ3, hk3⟩ | ⟨rfl, hJx3⟩)
      · gi_wp2
        go_roundw
        case rel => exact ⟨k + 1, by omega, by congr 1; first | omega | (unfold wrap64; omega), by rw [List.take_succ_eq_append_getElem (by omega)]; exact hJ3, ⟨HK.out.trans hk3⟩⟩
        case measure => simp [intOf]; omega
      · gi_wp2
        refine bodyPost_ret (results_none rfl _ _ _) rfl ?_
        exact ⟨⟨_, rfl⟩, .inr ⟨_, trivial, hJx3⟩⟩
    · obtain rfl : k = len := by omega
      gi_wp2
      go_end0
      exact ⟨⟨_, rfl⟩, .inl ⟨_, rfl, by rw [List.take_of_length_le (by omega)] at hJs; exact hJs⟩⟩

theorem rows_in {l n : Nat} {P : Program} {row : String} {args : Array Value} {w : World} {R : Value → World → Prop} (h : Rows P row args w R) : RowsIn (Fence.wide.inRound l) n P row args w R :=
  fun c cs _ => let ⟨v, w', r, s⟩ := h c cs; ⟨v, w', r, stepsIn_wide.2 s⟩
theorem oper_in {l n : Nat} {P : Program} {o : Oper} {a : Act} {w : World} {K : Act → World → Prop} {Q : Exit → Act → World → Prop} (hd : ∀ c, o.op ≠ .defer c) (h : Oper.wp P o a w K Q) : Oper.wpIn (Fence.wide.inRound l) n P o a w K Q := by
  unfold Oper.wpIn
  refine ⟨fun _ _ => trivial, ?_⟩
  rw [Oper.semAt_eq _ _ _ hd]
  unfold Oper.wp at h
  generalize (execOp a.eval o).run P w = r at h
  cases r with
  | ok x w' =>
    cases x <;> simp only [Oper.upon, Oper.uponIn] at h ⊢ <;> first
      | exact h
      | exact ⟨(fun h => by cases h), callsIn_wide.2 h⟩
      | exact ⟨(fun h => by cases h), rows_in h⟩
      | exact h.elim
  | halt x w' => cases x <;> simp only [Oper.upon, Oper.uponIn] at h ⊢ <;> exact h
theorem wpOp_in {l n : Nat} {P : Program} {ops : Array Oper} {Q : Exit → Act → World → Prop} {i : Nat} {K : Act → World → Prop} {a : Act} {w : World} (hd : ∀ (o : Oper), ops[i]? = some o → ∀ c, o.op ≠ .defer c) (hQ : ¬ LetsOut Q) (h : wpOp P ops Q i K a w) : wpOpIn (Fence.wide.inRound l) n P ops Q i K a w := by
  unfold wpOp at h
  unfold wpOpIn
  cases ho : ops[i]? with
  | none => rw [ho] at h; exact h
  | some o =>
    rw [ho] at h
    simp only at h ⊢
    split
    · rename_i hw
      rw [if_pos hw] at h
      rcases h with h | h
      · exact oper_in (hd o ho) h
      · exact absurd h.2 hQ
    · rename_i hw
      rw [if_neg hw] at h
      exact ⟨fun _ _ => trivial, h⟩
theorem wpAny_in {l n : Nat} {P : Program} {md : Region.Mode} {ops : Array Oper} {Q : Exit → Act → World → Prop} (hd : ∀ (i : Nat) (o : Oper), ops[i]? = some o → ∀ c, o.op ≠ .defer c) (hQ : ¬ LetsOut Q) : ∀ (fuel : Nat) (listed : Array Bool) (a : Act) (w : World), wpAny P md ops Q fuel listed a w → wpAnyIn (Fence.wide.inRound l) n P md ops Q fuel listed a w
  | 0, _, _, _, h => h
  | fuel + 1, listed, a, w, h => ⟨h.1, fun i hi => wpOpIn_mono (fun a' w' h' => wpAny_in hd hQ fuel _ a' w' h') (wpOp_in (hd i) hQ (h.2 i hi))⟩
def noDefer (ops : Array Oper) : Bool := ops.toList.all fun o => match o.op with | .defer _ => false | _ => true
theorem noDefer_spec {ops : Array Oper} (h : noDefer ops = true) : ∀ (i : Nat) (o : Oper), ops[i]? = some o → ∀ c, o.op ≠ .defer c := fun i o ho c e => by
  have := List.all_eq_true.1 h o (by rw [Array.getElem?_eq_some_iff] at ho; obtain ⟨h1, rfl⟩ := ho; simp)
  rw [e] at this
  cases this
def OnlyN (Q : Exit → Act → World → Prop) : Exit → Act → World → Prop
  | .normal, a, w => Q .normal a w
  | _, _, _ => False
theorem OnlyN.imp {Q : Exit → Act → World → Prop} : ∀ (e : Exit) (a : Act) (w : World), OnlyN Q e a w → Q e a w := fun e a w h => by cases e <;> first | exact h | exact h.elim
theorem OnlyN.n {Q : Exit → Act → World → Prop} {a : Act} {w : World} (h : Q .normal a w) : OnlyN Q .normal a w := h
theorem OnlyN.out {Q : Exit → Act → World → Prop} : ¬ LetsOut (OnlyN Q) := fun ⟨_, _, h⟩ => h
/-- a region of a round: walked as everywhere -/
theorem startIn_ {P : Program} {ops : Array Oper} {Q : Exit → Act → World → Prop} {S : World → Prop} {ds : List Nat} {lp m : Nat} {id n : Nat} {a : Act} {w : World} (l : Array Bool) (hm : P.follows .mixedOrders = true) (hn : ops.size = n) (hl : Array.replicate n false = l) (hnd : noDefer ops = true) (hS : S w.drew)
    (h : S w.drew → wpAnyLast P .any ops (OnlyN Q) S ds n l a w.drew) : (Code.region id ops true).wpIn (Fence.wide.inRound lp) m P Q a w := by
  subst hn
  subst hl
  exact wpIn_mono (wpIn_region_any hm (wpAny_in (noDefer_spec hnd) OnlyN.out _ _ _ _ (wpAny_of_last _ _ _ _ (h hS)))) OnlyN.imp
structure TJ {α : Type} (d : Kd α) (e gL gb gd N B len : Nat) (oL oB : Obj) (w W W' : World) (t : List α) : Prop where
  b1 : W'.heap[gL]? = some oL
  b2 : W'.heap[gb]? = some oB
  b3 : d.R e W' w.heap.size (fun k => k = gd) (.slice (some ⟨gd, 0, none⟩) len len) t
  bel : Below w.heap.size w W'
  kp : KpB N gd W W'
  kf : KeepsFrom B W W'
theorem TJ.drew {α : Type} {d : Kd α} {e gL gb gd N B len : Nat} {oL oB : Obj} {w W W' : World} {t : List α} (h : TJ d e gL gb gd N B len oL oB w W W' t) : TJ d e gL gb gd N B len oL oB w W W'.drew t :=
  ⟨h.b1, h.b2, Kd.R_drew h.b3, below_drew h.bel, h.kp, h.kf.trans ((KeepsOthers.drew W').from B)⟩
theorem TJ.put {α : Type} {enc : α → Value} {h1 : ∀ x, (enc x).oneCell' = true} {e gL gb gd N B len : Nat} {oL oB : Obj} {w W W' : World} {t : List α} (h : TJ (Kd.scalar enc h1) e gL gb gd N B len oL oB w W W' t) (i : Nat) (x : α) (hg : w.heap.size ≤ gd) (hL : gL ≠ gd) (hb : gb ≠ gd) : TJ (Kd.scalar enc h1) e gL gb gd N B len oL oB w W (W'.setCell ⟨gd, i, none⟩ (enc x)) (t.set i x) :=
  ⟨(Below.heap_setCell W' ⟨gd, i, none⟩ _ gL hL).trans h.b1, (Below.heap_setCell W' ⟨gd, i, none⟩ _ gb hb).trans h.b2, by have := Kd.R_putn h.b3 (i : Int) x; rwa [Int.toNat_natCast] at this, h.bel.setCell (p := ⟨gd, i, none⟩) hg _,
    ⟨Nat.le_trans h.kp.1 (KeepsOthers.setCell W' ⟨gd, i, none⟩ (enc x)).size, fun k h1 h2 => (Below.heap_setCell W' ⟨gd, i, none⟩ _ k h2).trans (h.kp.2 k h1 h2)⟩, h.kf.trans ((KeepsOthers.setCell W' ⟨gd, i, none⟩ (enc x)).from B)⟩
def tlOk (l : List S53) (x : Int) : Prop := 0 ≤ x ∧ x < l.length ∧ ∀ n ∈ (rd_T53 l x).f1, 0 ≤ n ∧ n < l.length
instance (l : List S53) (x : Int) : Decidable (tlOk l x) := by unfold tlOk; infer_instance
theorem backward_in (A : Option Addr) (len c : Nat) (w : World) : CallsIn Fence.wide 2 Try.prog 55 #[.slice A len c] w fun e w' => e = .returned (.func (.func 69) #[] #[.pointer (some ⟨w.heap.size, 0, none⟩)]) ∧ w' = w.alloc (.cells #[.slice A len c] 29) := by
  refine callsIn_of_wp Try.func55 rfl trivial ?_ rfl
  simp only [Try.ntmps55, List.size_toArray, List.length_cons, List.length_nil, Nat.reduceAdd, Nat.reduceSub, Array.replicate_succ, Array.replicate_zero, List.push_toArray, List.append_toArray, List.nil_append, List.cons_append]
  gi_wp2
  go_ret
  exact ⟨rfl, rfl⟩
def bwList (l0 : List S53) (O : List Int) (h : ∀ x ∈ O, tlOk l0 x) : List { p : Int × Int // tlOk l0 p.2 } :=
  List.ofFn (fun j : Fin O.length => ⟨(((O.length - 1 - j.1 : Nat) : Int), rd O ((O.length - 1 - j.1 : Nat) : Int)), h _ (by unfold rd; rw [Int.toNat_natCast, List.getD_eq_getElem?_getD, List.getElem?_eq_getElem (by have := j.2; omega)]; exact List.getElem_mem _)⟩)
theorem bwList_length (l0 : List S53) (O : List Int) (h : ∀ x ∈ O, tlOk l0 x) : (bwList l0 O h).length = O.length := by simp [bwList]
theorem bwList_get (l0 : List S53) (O : List Int) (h : ∀ x ∈ O, tlOk l0 x) (j : Nat) (hj : j < (bwList l0 O h).length) : (fun x : { p : Int × Int // tlOk l0 p.2 } => (#[.int .i64 x.1.1, .int .i64 x.1.2] : Array Value)) ((bwList l0 O h)[j]'hj) = #[.int .i64 ((O.length - 1 - j : Nat) : Int), .int .i64 (rd O ((O.length - 1 - j : Nat) : Int))] := by
  simp [bwList]
theorem bwList_map (l0 : List S53) (O : List Int) (h : ∀ x ∈ O, tlOk l0 x) : (bwList l0 O h).map (fun x => x.1.2) = O.reverse := by
  apply List.ext_getElem
  · simp [bwList]
  · intro i h1 h2
    simp only [List.length_reverse] at h2
    simp only [bwList, List.map_ofFn, List.getElem_ofFn, Function.comp, List.getElem_reverse]
    unfold rd
    rw [Int.toNat_natCast, List.getD_eq_getElem?_getD, List.getElem?_eq_getElem (by omega)]; rfl

/-! ### impl_NeedsAll: function 26, by hand -/
attribute [local go_sem] Oper.semAt_some
def naMark (ns : List Int) (s : List Bool) : List Bool := ns.foldl (fun s n => s.set n.toNat true) s
def naStep (l : List S53) (s : List Bool) (x : Int) : List Bool := if rdOf false s x = true then naMark (rd_T53 l x).f1 s else s
def naPick (task : Int) : List Bool → Nat → List Int
  | [], _ => []
  | b :: bs, j => if b = true ∧ (j : Int) ≠ task then (j : Int) :: naPick task bs (j + 1) else naPick task bs (j + 1)
def impl_NeedsAll.f (k : Nat) (l : List S53) (task : Int) : Option (List Int × Bool) := (impl_GoodPlan.f k l).bind fun g => if g = true then ((impl_in.f task 0 (wrap64 ((l.length : Int) - 1))).bind fun b => if b = true then ((impl_order.f k l).bind fun O => if l.length ≤ 1000000 ∧ (0 ≤ task ∧ task < l.length) ∧ ∀ x ∈ O, tlOk l x then some (naPick task (O.reverse.foldl (naStep l) ((List.replicate l.length false).set task.toNat true)) 0, true) else none) else some ([], false)) else some ([], false)
theorem impl_NeedsAll.mono : ∀ a0 a1 k, LeO (impl_NeedsAll.f k a0 a1) (impl_NeedsAll.f (k + 1) a0 a1) := by
  intro a0 a1 k
  unfold impl_NeedsAll.f
  refine LeO.bind (impl_GoodPlan.mono _ _) (fun g => LeO.ite (LeO.bind (LeO.refl _) (fun b => LeO.ite (LeO.bind (impl_order.mono _ _) (fun _ => LeO.refl _)) (LeO.refl _))) (LeO.refl _))
theorem naMark_length : ∀ (ns : List Int) (s : List Bool), (naMark ns s).length = s.length
  | [], s => rfl
  | n :: ns, s => by
    have h := naMark_length ns (s.set n.toNat true)
    unfold naMark at h ⊢
    rw [List.foldl_cons, h, List.length_set]
theorem naStep_length (l : List S53) (s : List Bool) (x : Int) : (naStep l s x).length = s.length := by
  unfold naStep; split
  · exact naMark_length _ _
  · rfl
theorem naPick_le (task : Int) : ∀ (s : List Bool) (j : Nat), (naPick task s j).length ≤ s.length
  | [], _ => Nat.le_refl _
  | b :: bs, j => by
    have := naPick_le task bs (j + 1)
    unfold naPick
    split <;> simp only [List.length_cons] <;> omega
theorem R_block_flags {g base m tn : Nat} {W : World} (h : W.heap[g]? = some (.cells ((madeCells #[Value.bool false] m).setIfInBounds tn (.bool true)) 4 (0, 0))) (hb : base ≤ g) (hm : m ≤ 9223372036854775807) : Kd.R Kd.bool 4 W base (fun k => k = g) (.slice (some ⟨g, 0, none⟩) m m) ((List.replicate m false).set tn true) := by
  have h2 := R_block (enc := Value.bool) (h1 := fun _ => rfl) (ok := fun k => k = g) (xs := (List.replicate m false).set tn true) h hb rfl (by rw [List.length_set, List.length_replicate]; exact hm) (by rw [Array.toList_setIfInBounds, made_bools]; simp [encs])
  rw [List.length_set, List.length_replicate] at h2
  exact h2
set_option maxHeartbeats 8000000 in
set_option maxRecDepth 100000 in
theorem impl_NeedsAll.calls (k : Nat) (A0 : Option Addr) (c0 : Nat) (l0 : List (S53)) (a1 : Int) (r1 : List Int) (r2 : Bool) (w : World) (hr0 : Kd.C k53 w A0 l0.length l0) (hc0 : l0.length ≤ c0) (h : impl_NeedsAll.f k l0 a1 = some (r1, r2)) :
    Calls Try.prog 26 #[.slice A0 l0.length c0, .int .i64 a1] w fun e w' => ∃ v0_ : Value, e = .returned (.tuple #[v0_, .bool r2]) ∧ Kd.R (Kd.int .i64) 3 w' w.heap.size (fun _ => True) v0_ r1 ∧ Below w.heap.size w w' := by
  have hu29 := Try.underlying29
  have hu53 := Try.underlying53
  have hu61 := Try.underlying61
  have HR0 := Aside0.mk hr0
  have HC0 := Aside0.mk hc0
  have hmax := hr0.2.1
  clear hr0 hc0
  obtain ⟨g, hG, h⟩ := Option.bind_eq_some_iff.1 h
  have HG := Aside0.mk hG
  clear hG
  have HB0 : Below w.heap.size w (w.alloc (.cells #[.slice A0 l0.length c0] 25)) := below_alloc (Below.refl _ _) _
  cases g with
  | false =>
    rw [if_neg (by decide)] at h
    simp only [Option.some.injEq, Prod.mk.injEq] at h
    obtain ⟨rfl, rfl⟩ := h
    have HB0 := Aside0.mk HB0
    go_enter Try.func26, Try.ntmps26
    go_wp2_with fail
    refine (impl_GoodPlan.calls k _ _ l0 false _ (Kd.C_below HR0.out HB0.out) HC0.out HG.out).mono ?_
    rintro e w1 ⟨rfl, hb⟩
    have HB1 := Aside0.mk (bel2 HB0.out hb)
    clear hb
    go_wp2
    go_ret2
    exact ⟨_, rfl, Kd.R_nil _ _ _ _ _, HB1.out⟩
  | true =>
    rw [if_pos rfl] at h
    obtain ⟨b, hI, h⟩ := Option.bind_eq_some_iff.1 h
    rw [show wrap64 ((l0.length : Int) - 1) = (l0.length : Int) - 1 by unfold wrap64; omega] at hI
    have HI := Aside0.mk hI
    clear hI
    cases b with
    | false =>
      rw [if_neg (by decide)] at h
      simp only [Option.some.injEq, Prod.mk.injEq] at h
      obtain ⟨rfl, rfl⟩ := h
      have HB0 := Aside0.mk HB0
      have HX := Aside0.mk (heap_alloc_new w (.cells #[.slice A0 l0.length c0] 25))
      go_enter Try.func26, Try.ntmps26
      go_wp2_with fail
      refine (impl_GoodPlan.calls k _ _ l0 true _ (Kd.C_below HR0.out HB0.out) HC0.out HG.out).mono ?_
      rintro e w1 ⟨rfl, hb⟩
      have HB1 := Aside0.mk (bel2 HB0.out hb)
      have zL : w1.cell? ⟨w.heap.size, 0, none⟩ = some (.slice A0 l0.length c0) := (blk_cell (blk_below HX.out hb) 0).trans rfl
      clear hb
      go_wp2_with fail
      refine (impl_in.calls _ _ _ false _ HI.out).mono ?_
      rintro e w2 ⟨rfl, hd⟩
      have HB2 := Aside0.mk (bel2 HB1.out hd.below)
      clear hd zL
      go_wp2
      go_ret2
      exact ⟨_, rfl, Kd.R_nil _ _ _ _ _, HB2.out⟩
    | true =>
      rw [if_pos rfl] at h
      obtain ⟨O, hO, h⟩ := Option.bind_eq_some_iff.1 h
      split at h
      case isFalse => cases h
      rename_i hok
      obtain ⟨hl, ⟨ht0, ht1⟩, hok⟩ := hok
      simp only [Option.some.injEq, Prod.mk.injEq] at h
      obtain ⟨hr1, rfl⟩ := h
      have HO := Aside0.mk hO
      have HOK := Aside0.mk hok
      have HR1 := Aside0.mk hr1
      have HL := Aside0.mk hl
      obtain ⟨tn, rfl⟩ := Int.eq_ofNat_of_zero_le ht0
      have hmk := print_make_of (P := Try.prog) 61 4 (.bool false) 1 hu61 rfl rfl (by decide) l0.length (by omega)
      have HX := Aside0.mk (heap_alloc_new w (.cells #[.slice A0 l0.length c0] 25))
      have HB0 := Aside0.mk HB0
      have p0 : tn < l0.length := by omega
      have hmd : (madeCells #[Value.bool false] l0.length)[tn]? = some (.bool false) := by rw [Array.getElem?_eq_getElem (by simp [madeCells]; omega)]; simp [madeCells, Nat.mod_one]
      clear hok hO hl hr1 ht0 ht1
      refine (callsIn_wide (n := 3)).1 ?_
      refine callsIn_of_wp_marks Try.func26 rfl trivial ?_ rfl
      simp only [Try.ntmps26, List.size_toArray, List.length_cons, List.length_nil, Nat.reduceAdd, Nat.reduceSub, Array.replicate_succ, Array.replicate_zero, List.push_toArray, List.append_toArray, List.nil_append, List.cons_append]
      gi_wp2_with fail
      refine ⟨trivial, ?_⟩
      refine (callsIn_wide.2 (impl_GoodPlan.calls k _ _ l0 true _ (Kd.C_below HR0.out HB0.out) HC0.out HG.out)).mono ?_
      rintro e w1 ⟨rfl, hb⟩
      have HB1 := Aside0.mk (bel2 HB0.out hb)
      have BL1 := Aside0.mk (blk_below HX.out hb)
      have zL : w1.cell? ⟨w.heap.size, 0, none⟩ = some (.slice A0 l0.length c0) := (blk_cell BL1.out 0).trans rfl
      clear hb
      gi_wp2_with fail
      refine ⟨trivial, ?_⟩
      refine (callsIn_wide.2 (impl_in.calls _ _ _ true _ HI.out)).mono ?_
      rintro e w2 ⟨rfl, hd⟩
      have HB2 := Aside0.mk (bel2 HB1.out hd.below)
      have BL2 := Aside0.mk (blk_below BL1.out hd.below)
      have zL : w2.cell? ⟨w.heap.size, 0, none⟩ = some (.slice A0 l0.length c0) := (blk_cell BL2.out 0).trans rfl
      have hsz : w.heap.size < w2.heap.size := blk_lt BL2.out
      clear hd BL1 HB1
      have zL3 : (((w2.alloc (.cells ((madeCells #[.bool false] l0.length).setIfInBounds tn (.bool true)) 4)).alloc (.cells #[] 3)).alloc (.cells #[.slice (some ⟨w2.heap.size, 0, none⟩) l0.length l0.length] 61)).cell? ⟨w.heap.size, 0, none⟩ = some (.slice A0 l0.length c0) := pw_cell_below (by repeat (first | exact Below.refl _ _ | apply below_alloc | apply pw_below_drewN | apply below_drew1)) zL
      have hA0 := heap_alloc_new w2 (.cells ((madeCells #[.bool false] l0.length).setIfInBounds tn (.bool true)) 4)
      have hA1 := heap_alloc_new (w2.alloc (.cells ((madeCells #[.bool false] l0.length).setIfInBounds tn (.bool true)) 4)) (.cells #[] 3)
      have hA2 := heap_alloc_new ((w2.alloc (.cells ((madeCells #[.bool false] l0.length).setIfInBounds tn (.bool true)) 4)).alloc (.cells #[] 3)) (.cells #[.slice (some ⟨w2.heap.size, 0, none⟩) l0.length l0.length] 61)
      rw [World.size_alloc] at hA1
      rw [World.size_alloc, World.size_alloc] at hA2
      have HA0 := Aside0.mk (blk_alloc (blk_alloc hA0 (.cells #[] 3)) (.cells #[.slice (some ⟨w2.heap.size, 0, none⟩) l0.length l0.length] 61))
      have HA1 := Aside0.mk (blk_alloc hA1 (.cells #[.slice (some ⟨w2.heap.size, 0, none⟩) l0.length l0.length] 61))
      have HA2 := Aside0.mk hA2
      clear hA0 hA1 hA2
      gi_wp2_with fail
      refine ⟨trivial, ?_⟩
      refine (callsIn_wide.2 (impl_order.calls k _ _ l0 O _ (Kd.C_below HR0.out (bel2 HB2.out (by repeat (first | exact Below.refl _ _ | apply below_alloc | apply pw_below_drewN | apply below_drew1)))) HC0.out HO.out)).mono ?_
      rintro e w3 ⟨v0, rfl, hr, hb⟩
      obtain ⟨A1, c1, rfl, hlc, hC⟩ := Kd.R_reads hr
      have hs0 := hb.size
      simp only [World.size_alloc] at hs0
      have HS0 := Aside0.mk hs0
      have HRO := Aside0.mk hr
      have BL := Aside0.mk (blk_below (blk_below BL2.out (by repeat (first | exact Below.refl _ _ | apply below_alloc | apply pw_below_drewN | apply below_drew1))) hb)
      have BD := Aside0.mk (blk_below HA0.out hb)
      have BE := Aside0.mk (blk_below HA1.out hb)
      have BB := Aside0.mk (blk_below HA2.out hb)
      have HB := Aside0.mk (bel2 (bel2 HB2.out (by repeat (first | exact Below.refl _ _ | apply below_alloc | apply pw_below_drewN | apply below_drew1))) hb)
      have HSZ := Aside0.mk hsz
      clear hs0 hr hb hlc hC HA0 HA1 HA2 zL zL3 hsz
      gi_wp2_with fail
      refine ⟨trivial, ?_⟩
      refine (backward_in A1 O.length c1 w3).mono ?_
      rintro e w4 ⟨rfl, rfl⟩
      gi_wp2_with fail
      refine wpIn_rangeFunc_ownG (α := { p : Int × Int // tlOk l0 p.2 }) (F := Fence.wide) (n := 3) rfl (by decide) (gf := 69) (lb := #[.pointer (some ⟨w3.heap.size, 0, none⟩)]) rfl trivial (enters_ Try.func69 (by kernel_rfl) rfl)
        (encs := fun x => #[.int .i64 x.1.1, .int .i64 x.1.2]) (Kp := KpB (w3.heap.size + 1) w2.heap.size) (S := fun ys => ys.map (fun x => x.1.2) = O.reverse) (Sp := fun _ => True) (N := O.length) ?seq (fun h k => KpB.trans h k) (fun W l o o' hl _ _ _ => KpB.putObj W l o' (by simpa using hl)) (Below.refl _ _) (fun _ => rfl)
        (fun pre W => (W.heap[w.heap.size]? = some (.cells #[.slice A0 l0.length c0] 25 (0, 0)) ∧ W.heap[w2.heap.size + 1 + 1]? = some (.cells #[.slice (some ⟨w2.heap.size, 0, none⟩) l0.length l0.length] 61 (0, 0)) ∧ W.heap[w2.heap.size + 1]? = some (.cells #[] 3 (0, 0)) ∧ Kd.R Kd.bool 4 W w.heap.size (fun k => k = w2.heap.size) (.slice (some ⟨w2.heap.size, 0, none⟩) l0.length l0.length) (pre.foldl (fun t x => naStep l0 t x.1.2) ((List.replicate l0.length false).set tn true))) ∧ Below w.heap.size w W)
        (fun _ _ _ => False) ?own (fun _ _ _ _ _ hs _ _ => hs) ?h0 ?a1 ?assign ?body ?done ?stop
      case assign =>
        intro l x W K hK
        gi_wp2
        exact hK
      case seq =>
        intro l J Jx W hW _ _ hY h0
        refine (bw1_in (fun x : { p : Int × Int // tlOk l0 p.2 } => #[.int .i64 x.1.1, .int .i64 x.1.2]) (bwList l0 O HOK.out) (w3.heap.size + 1) w2.heap.size l w3.heap.size O.length c1 A1 O rfl ⟨by omega, by have := HS0.out; omega⟩ (bwList_length _ _ _) (bwList_get _ _ _) J Jx hY W _ (blk_below (heap_alloc_new w3 _) hW) (Kd.R_below (Kd.R_alloc (Kd.R_mono (Kd.R_bound HRO.out) (fun k hk => ?_)) _) hW) h0).mono ?_
        · have h1 := hk.2.1
          have h2 := hk.2.2.1
          simp only [World.size_alloc] at h1
          exact ⟨by omega, by omega⟩
        · rintro e W' ⟨he, ⟨zs, rfl, hj⟩ | ⟨pre, _, hj⟩⟩
          · exact ⟨he, .inl ⟨_, bwList_map _ _ _, hj⟩⟩
          · exact ⟨he, .inr ⟨_, trivial, hj⟩⟩
      case own =>
        have hsz := HSZ.out
        refine OwnFrom.and (fun pre W W' row hs hg hr => ?_) (ownFrom_below (Nat.le_refl _) (by have := HS0.out; simp; omega))
        have hne : ∀ k : Nat, k ≤ w3.heap.size → some k ≠ row := fun k hk e => by
          have := (hr k e.symm).1
          simp at this
          omega
        have hs0 := HS0.out
        exact ⟨(hg.block _ (blk_lt hs.1) (hne _ (by omega))).trans hs.1, (hg.block _ (blk_lt hs.2.1) (hne _ (by omega))).trans hs.2.1, (hg.block _ (blk_lt hs.2.2.1) (hne _ (by omega))).trans hs.2.2.1, Kd.R_grown hs.2.2.2 hg (fun k hk => by subst hk; exact hne _ (by omega))⟩
      case h0 =>
        exact ⟨⟨blk_alloc BL.out _, blk_alloc BB.out _, blk_alloc BE.out _, Kd.R_alloc (R_block_flags BD.out (by have := HSZ.out; omega) (by have := HL.out; omega)) _⟩, below_alloc HB.out _⟩
      case body =>
        rintro l pre x W ⟨⟨b1, b2, bE, b3⟩, hB⟩ _
        have hsz := HSZ.out
        have hs0 := HS0.out
        obtain ⟨t, ht⟩ : ∃ t, t = pre.foldl (fun t x => naStep l0 t x.1.2) ((List.replicate l0.length false).set tn true) := ⟨_, rfl⟩
        rw [← ht] at b3
        obtain ⟨xs, hxs⟩ : ∃ xs, xs = pre ++ [x] := ⟨_, rfl⟩
        rw [← hxs]
        have hfol : xs.foldl (fun t x => naStep l0 t x.1.2) ((List.replicate l0.length false).set tn true) = naStep l0 t x.1.2 := by rw [hxs, List.foldl_append, ← ht]; rfl
        clear hxs ht
        obtain ⟨⟨xi, xv⟩, hx0, hx1, hx2⟩ := x
        simp only at hx0 hx1 hx2 hfol
        dsimp only
        obtain ⟨vn, rfl⟩ := Int.eq_ofNat_of_zero_le hx0
        have HFOL := Aside0.mk hfol
        have HX2 := Aside0.mk hx2
        clear hfol hx0 hx2
        have hJ : TJ Kd.bool 4 w.heap.size (w2.heap.size + 1 + 1) w2.heap.size (w3.heap.size + 1) (w3.alloc (.cells #[.slice A1 O.length c1] 29)).heap.size l0.length (.cells #[.slice A0 l0.length c0] 25 (0, 0)) (.cells #[.slice (some ⟨w2.heap.size, 0, none⟩) l0.length l0.length] 61 (0, 0)) w W W t := ⟨b1, b2, b3, hB, KpB.refl _ _ _, KeepsFrom.refl _ _⟩
        have HJ := Aside0.mk hJ
        have HE := Aside0.mk bE
        clear hJ b1 b2 b3 bE hB
        have zL : W.cell? ⟨w.heap.size, 0, none⟩ = some (.slice A0 l0.length c0) := (blk_cell HJ.out.b1 0).trans rfl
        have zB : W.cell? ⟨w2.heap.size + 1 + 1, 0, none⟩ = some (.slice (some ⟨w2.heap.size, 0, none⟩) l0.length l0.length) := (blk_cell HJ.out.b2 0).trans rfl
        obtain ⟨ad, A2, c2, ek, hk0, hk1, hkc, hkC⟩ := at_T53 HR0.out (vn : Int) (by omega) hx1
        cases ek
        rw [Int.toNat_natCast] at hk0 hk1
        obtain ⟨q, hq⟩ : ∃ q, q = rd_T53 l0 (vn : Int) := ⟨_, rfl⟩
        rw [← hq] at hk0 hk1 hkc hkC
        have HK1 := Aside0.mk hk1
        clear hk0 hk1
        have hk1 := pw_cell_below HJ.out.bel HK1.out
        obtain ⟨hc, hf⟩ := Kd.R_celln false HJ.out.b3 (vn : Int) (by omega) hx1
        rw [Int.toNat_natCast] at hc hf
        obtain ⟨y, hy⟩ : ∃ y, y = rdOf false t (vn : Int) := ⟨_, rfl⟩
        rw [← hy] at hc
        have p1 : vn < l0.length := by omega
        have HQ := Aside0.mk hq
        have HY := Aside0.mk hy
        have HKC := Aside0.mk hkC
        have hqm := HKC.out.2.1
        clear hq hy hkC hx1
        cases y with
        | false =>
          have HE2 := Aside0.mk (show naStep l0 t vn = t by unfold naStep; rw [← HY.out]; rfl)
          gi_wp2
          refine ⟨KeepsFrom.refl _ _, KpB.refl _ _ _, ⟨HJ.out.b1, HJ.out.b2, HE.out, ?_⟩, HJ.out.bel⟩
          rw [HFOL.out, HE2.out]
          exact HJ.out.b3
        | true =>
          have HE2 := Aside0.mk (show naStep l0 t vn = naMark q.f1 t by unfold naStep; rw [← HY.out, if_pos rfl, HQ.out])
          gi_wp2
          gi_loopw [47] (fun v47 W' => ∃ j : Nat, v47 = .int .i64 (j : Int) ∧ j ≤ q.f1.length ∧ Aside0 (TJ Kd.bool 4 w.heap.size (w2.heap.size + 1 + 1) w2.heap.size (w3.heap.size + 1) (w3.alloc (.cells #[.slice A1 O.length c1] 29)).heap.size l0.length (.cells #[.slice (some ad) l0.length c0] 25 (0, 0)) (.cells #[.slice (some ⟨w2.heap.size, 0, none⟩) l0.length l0.length] 61 (0, 0)) w W W' (naMark (q.f1.take j) t))) (fun v47 _ => q.f1.length - (intOf v47).toNat)
          case atStart => exact ⟨0, rfl, Nat.zero_le _, HJ⟩
          case round =>
            obtain ⟨j, rfl, hjl, HJ2⟩ := hrel
            clear zL zB hk1 HJ hc hf
            by_cases hlt : j < q.f1.length
            · obtain ⟨ad2, e2, hcell⟩ := Kd.at_int (Kd.C_below HKC.out HJ2.out.bel) (j : Int) (by omega) (by omega)
              cases e2
              rw [Int.toNat_natCast] at hcell
              have hn := HX2.out (rd q.f1 (j : Int)) (by rw [HQ.out]; unfold rd; rw [Int.toNat_natCast, List.getD_eq_getElem?_getD, List.getElem?_eq_getElem (by rw [← HQ.out]; exact hlt)]; exact List.getElem_mem _)
              have htk : q.f1.take (j + 1) = q.f1.take j ++ [rd q.f1 (j : Int)] := by unfold rd; rw [Int.toNat_natCast, List.take_succ_eq_append_getElem hlt, List.getD_eq_getElem?_getD, List.getElem?_eq_getElem hlt]; rfl
              obtain ⟨n, hnn⟩ : ∃ n, n = rd q.f1 (j : Int) := ⟨_, rfl⟩
              rw [← hnn] at hcell hn htk
              obtain ⟨hn0, hn1⟩ := hn
              obtain ⟨nn, rfl⟩ := Int.eq_ofNat_of_zero_le hn0
              have HTK := Aside0.mk (show naMark (q.f1.take (j + 1)) t = (naMark (q.f1.take j) t).set nn true by rw [htk]; unfold naMark; rw [List.foldl_append]; rfl)
              clear htk hnn hn0
              have zB : wr.cell? ⟨w2.heap.size + 1 + 1, 0, none⟩ = some (.slice (some ⟨w2.heap.size, 0, none⟩) l0.length l0.length) := (blk_cell HJ2.out.b2 0).trans rfl
              obtain ⟨hc2, hf⟩ := Kd.R_celln false HJ2.out.b3 (nn : Int) (by omega) hn1
              rw [Int.toNat_natCast] at hc2 hf
              have p2 : nn < l0.length := by omega
              have HJ3 := Aside0.mk (HJ2.out.put nn true (by omega) (by omega) (by omega))
              clear hn1
              gi_wp2
              go_roundw
              case rel => exact ⟨j + 1, by first | rfl | go_num, by omega, ⟨by rw [HTK.out]; exact HJ3.out⟩⟩
              case measure => simp [intOf]; omega
            · obtain rfl : j = q.f1.length := by omega
              have HJ4 := HJ2
              rw [List.take_of_length_le (Nat.le_refl _)] at HJ4
              gi_wp2
              refine ⟨HJ4.out.kf, HJ4.out.kp, ⟨HJ4.out.b1, HJ4.out.b2, (HJ4.out.kp.2 _ (by omega) (by omega)).trans HE.out, ?_⟩, HJ4.out.bel⟩
              rw [HFOL.out, HE2.out]
              exact HJ4.out.b3
      case done =>
        rintro D ys W hD hS ⟨⟨b1, b2, bE, b3⟩, hB⟩ hK
        have zB : W.cell? ⟨w2.heap.size + 1 + 1, 0, none⟩ = some (.slice (some ⟨w2.heap.size, 0, none⟩) l0.length l0.length) := (blk_cell b2 0).trans rfl
        have HS := Aside0.mk hS
        have HD := Aside0.mk hD
        have HBW := Aside0.mk hB
        have HK := Aside0.mk hK
        have HRs := Aside0.mk b3
        have HE := Aside0.mk bE
        clear hS hD hB hK b1 b2 bE b3
        obtain ⟨S, hSS⟩ : ∃ S, S = ys.foldl (fun t x => naStep l0 t x.1.2) ((List.replicate l0.length false).set tn true) := ⟨_, rfl⟩
        rw [← hSS] at HRs
        have hr1' : naPick tn S 0 = r1 := by rw [hSS, ← HR1.out, ← HS.out, List.foldl_map]; rfl
        have HR1' := Aside0.mk hr1'
        have HSL := Aside0.mk (Kd.R_reads' HRs.out).1
        have HRE : Aside0 (Kd.R (Kd.int .i64) 3 W w.heap.size (fun _ => True) (.slice (some ⟨w2.heap.size + 1, 0, none⟩) 0 0) []) := ⟨R_block_empty HE.out (by have := HSZ.out; omega)⟩
        have HRs' := Aside0.mk (Kd.R_mono HRs.out (fun _ _ => trivial) : Kd.R Kd.bool 4 W w.heap.size (fun _ => True) (.slice (some ⟨w2.heap.size, 0, none⟩) l0.length l0.length) S)
        clear hSS hr1' HRs HE
        gi_wp2_with fail
        refine wpIn_wide.2 ?_
        go_loopg [7, 57] l0.length (fun kq v7 v57 w' => ∃ (out : List Int) (j : Nat), v57 = .int .i64 (j : Int) ∧ Aside0 (kq + j = l0.length) ∧ Aside0 (out ++ naPick tn (S.drop j) j = r1) ∧ Aside0 (out.length ≤ j) ∧ Aside0 (Kd.R (Kd.int .i64) 3 w' w.heap.size (fun _ => True) v7 out) ∧ Aside0 (Kd.R Kd.bool 4 w' w.heap.size (fun _ => True) (.slice (some ⟨w2.heap.size, 0, none⟩) l0.length l0.length) S) ∧ Aside0 (Below w.heap.size w w') ∧ Aside0 (w'.heap[D]? = some (.deferred (some []))))
        case atStart => exact ⟨[], 0, rfl, ⟨by omega⟩, ⟨by rw [List.drop_zero]; exact HR1'.out⟩, ⟨Nat.le_refl _⟩, HRE, HRs', HBW, HK⟩
        case round =>
          clear HRE HRs' HBW HK HR1' zB
          obtain ⟨out, j, rfl, HJ, HP, HOL, HO7, HSB, HB, HK⟩ := hrel
          by_cases hlt : j < l0.length
          · obtain ⟨hc, hf⟩ := Kd.R_celln false HSB.out (j : Int) (by omega) (by omega)
            rw [Int.toNat_natCast] at hc
            obtain ⟨y, hy⟩ : ∃ y, y = rdOf false S (j : Int) := ⟨_, rfl⟩
            rw [← hy] at hc
            have hdr : S.drop j = y :: S.drop (j + 1) := by
              rw [List.drop_eq_getElem_cons (by have := HSL.out; omega), hy]; unfold rdOf
              rw [Int.toNat_natCast, List.getD_eq_getElem?_getD, List.getElem?_eq_getElem (by have := HSL.out; omega)]; rfl
            have hp := HP.out
            rw [hdr] at hp
            have HP2 := Aside0.mk hp
            have hol := HOL.out
            have hll := HL.out
            have hjj := HJ.out
            clear hy hdr hp hf HP
            cases gk with
            | zero => exact absurd hjj (by omega)
            | succ k2 =>
              by_cases hne : j = tn
              · subst hne
                have hpk := HP2.out
                unfold naPick at hpk
                rw [if_neg (fun h => h.2 rfl)] at hpk
                have HP3 := Aside0.mk hpk
                clear hpk HP2
                cases y with
                | true =>
                  go_wp2
                  go_roundg k2
                  case measure => omega
                  case rel => exact ⟨out, j + 1, by go_num, ⟨by omega⟩, HP3, ⟨by omega⟩, HO7, HSB, HB, HK⟩
                | false =>
                  go_wp2
                  go_roundg k2
                  case measure => omega
                  case rel => exact ⟨out, j + 1, by go_num, ⟨by omega⟩, HP3, ⟨by omega⟩, HO7, HSB, HB, HK⟩
              · have hni : ((j : Int) == (tn : Int)) = false := beq_eq_false_iff_ne.2 (by omega)
                have hni2 : ((j : Int) != (tn : Int)) = true := by simp [bne, hni]
                cases y with
                | false =>
                  have hpk := HP2.out
                  unfold naPick at hpk
                  rw [if_neg (fun h => by cases h.1)] at hpk
                  have HP3 := Aside0.mk hpk
                  clear hpk HP2
                  go_wp2
                  go_roundg k2
                  case measure => omega
                  case rel => exact ⟨out, j + 1, by go_num, ⟨by omega⟩, HP3, ⟨by omega⟩, HO7, HSB, HB, HK⟩
                | true =>
                  have hpk := HP2.out
                  unfold naPick at hpk
                  rw [if_pos ⟨rfl, by omega⟩] at hpk
                  have HP3 : Aside0 ((out ++ [(j : Int)]) ++ naPick tn (S.drop (j + 1)) (j + 1) = r1) := ⟨by rw [List.append_assoc]; exact hpk⟩
                  clear hpk HP2
                  obtain ⟨A7, c7, e7⟩ := Kd.R_slice HO7.out
                  subst e7
                  go_wp2_with (first | ((with_reducible refine gate_builtin (b := .append) (xs := #[.tmp 68, .tmp 70]) rfl ?_); (try (refine gate_guard (by rfl) ?_; dsimp only)); at_builtin; refine Kd.R_append (Kd.int .i64) (w0 := w) w.heap.size rfl (.tmp 68) (.tmp 70) 29 3 (.int .i64 0) 8 rfl Try.underlying29 info3 rfl (by decide) (by omega) (.slice A7 out.length c7) out (j : Int) [.int .i64 (j : Int)] (fun _ => True) (fun _ => False) rfl rfl ?aP (fun _ hk => hk.elim) ?aF ?aO ?aB ?aS ?aL ?_; (case aP => exact rfl); (case aB => exact HB.out); (case aF => exact (fun _ _ => trivial)); (case aO => exact HO7.out); (case aS => exact HB.out.size); (case aL => omega); intro v174 w52 ho hb hg hat; have n0_ := Aside0.mk (Kd.R_over' HSB.out (Kd.R_typed HO7.out) (by decide) hg); have n1_ := Aside0.mk hb; have n2_ := Aside0.mk ho; have n3_ : Aside0 (w52.heap[D]? = some (.deferred (some []))) := ⟨(hg.block D (blk_lt HK.out) (fun e => by obtain ⟨cells, hcc⟩ := Kd.R_typed HO7.out D e.symm; rw [HK.out] at hcc; cases hcc)).trans HK.out⟩; clear HSB; clear HB; clear HO7; clear HK; have HSB := n0_; have HB := n1_; have HO7 := n2_; have HK := n3_; clear n0_ n1_ n2_ n3_; clear ho hb hg hat))
                  go_roundg k2
                  case measure => omega
                  case rel => exact ⟨out ++ [(j : Int)], j + 1, by go_num, ⟨by omega⟩, HP3, ⟨by rw [List.length_append]; simp; omega⟩, HO7, HSB, HB, HK⟩
          · obtain rfl : j = l0.length := by have := HJ.out; omega
            have hp := HP.out
            rw [List.drop_of_length_le (by have := HSL.out; omega)] at hp
            have hp2 : out = r1 := by rw [← hp]; unfold naPick; simp
            have HP3 := Aside0.mk hp2
            clear hp hp2
            go_wp2
            gi_wp2
            refine ⟨by simp, .inl ⟨_, _, rfl, run_takeDeferred HK.out, ?_⟩⟩
            refine ⟨_, results_tmp2 rfl _ _ _, _, rfl, ?_, ?_⟩
            · have hD := HD.out
              have hs0 := HS0.out
              have hsz := HSZ.out
              rw [World.size_alloc] at hD
              have hmv : ∀ k, (True ∧ w.heap.size ≤ k ∧ k < wr.heap.size ∧ ∃ q, q ∈ 3 :: (Kd.int .i64).E ∧ ∃ cells, wr.heap[k]? = some (.cells cells q (0, 0))) → (wr.putObj D (.deferred none)).heap[k]? = wr.heap[k]? := fun k hk => World.putObj_heap_other (fun e => by
                subst e
                obtain ⟨_, _, _, q, _, cells, hc⟩ := hk
                rw [HK.out] at hc
                cases hc)
              have z := Kd.R_mono (Kd.R_move (Kd.R_bound HO7.out) hmv) (fun _ _ => trivial)
              rw [HP3.out] at z
              exact z
            · have hD := HD.out
              have hs0 := HS0.out
              have hsz := HSZ.out
              rw [World.size_alloc] at hD
              exact HB.out.trans (belowK_b (w := w) (Nat.le_refl _) wr D _ _ (by omega) HK.out rfl rfl)
      case stop =>
        rintro D c pre W _ _ h _
        exact h.elim

end Go.Proofs.Ytpgegjbnnbkhiaa.PFnExactNeedsAll
