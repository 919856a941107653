-- written by xprint.py (a program of this session's, over the kit's print): printed functions, and some by hand
import Derived.Test.YtnfafdlglhbijaaPFnExactIsSoundx0
namespace Go.Proofs.Ytnfafdlglhbijaa.PFnExactIsSound
open Go.RowKit Go.Proofs.YtnfafdlglhbijaaW.PrintWords Go.Proofs.YtnfafdlglhbijaaW.PrintLast Go.Proofs.YtnfafdlglhbijaaW.PrintMore
attribute [local go_sem] max2_int min2_int max_two min_two max_three min_three max_four min_four   -- for this text's walks alone
set_option linter.unusedVariables false
set_option linter.unusedSimpArgs false

/-! ### impl_keyOf: function 85, by hand; a text alone -/
open Go.Maps Go
/-- a marking as an array of eight -/
def pad8 (l : List Int) : List Int := (l ++ List.replicate 8 0).take 8
def wf8b (l : List Int) : Bool := l.all fun x => (Lit.int .i64 x).wf
/-- the steps of one marking from a step on: the markings with the one of which each came and the step; none within: too many -/
def mfIn (fired : List Int → Int → Option (List Int × Bool)) (T i : Nat) : Nat → List (List Int) → List Int → List Int → Option (Option (List (List Int) × List Int × List Int))
  | 0, L, F, S => some (some (L, F, S))
  | d + 1, L, F, S => (fired (L.getD i []) ((T - (d + 1) : Nat) : Int)).bind fun q => if q.2 = true then (if wf8b q.1 = true then (if (L.map pad8).contains (pad8 q.1) = true then mfIn fired T i d L F S else if L.length = 400 then some none else mfIn fired T i d (L ++ [q.1]) (F ++ [(i : Int)]) (S ++ [((T - (d + 1) : Nat) : Int)])) else none) else mfIn fired T i d L F S
def mfOut (fired : List Int → Int → Option (List Int × Bool)) (T : Nat) : Nat → Nat → List (List Int) → List Int → List Int → Option (Option (List (List Int) × List Int × List Int))
  | 0, _, _, _, _ => none
  | k + 1, i, L, F, S => if i < L.length then (mfIn fired T i T L F S).bind (fun o => match o with | none => some none | some q => mfOut fired T k (i + 1) q.1 q.2.1 q.2.2) else some (some (L, F, S))
theorem pad8_length (l : List Int) : (pad8 l).length = 8 := by unfold pad8; simp
/-- a map kept as a set of markings: its key is an array of eight -/
structure NK (P : Program) (t k e ie : TypeId) : Prop where
  A : Go.WideMaps.ArrKey P k ie 8
  hi : P.underlying ie = some (.int .i64)
  hsz : ∃ m, P.types.size = m + 1
  ht : P.underlying t = some (.map k e)
  hb : P.underlying e = some .bool
  hz : ∀ w, (zeroValue e).run P w = .ok (.bool false) w
def k8 (l : List Int) : Value := .agg ((pad8 l).map (Value.int .i64)).toArray
def kl8 (l : List Int) : Lit := .string (keyBytes ((pad8 l).map (Lit.int .i64)))
def wf8 (l : List Int) : Prop := ∀ x ∈ l, (Lit.int .i64 x).wf = true
theorem wf8_pad {l : List Int} (h : wf8 l) : wf8 (pad8 l) := fun x hx => by
  unfold pad8 at hx
  have h1 := List.mem_of_mem_take hx
  rcases List.mem_append.1 h1 with h2 | h2
  · exact h x h2
  · rw [(List.mem_replicate.1 h2).2]; decide
theorem keyOf_eight {P : Program} {t k e ie : TypeId} (K : NK P t k e ie) {l : List Int} (hl : l.length = 8) (hw : wf8 l) : keyOf P k (.agg (l.map (Value.int .i64)).toArray) = some (.string (keyBytes (l.map (Lit.int .i64)))) := by
  match l, hl with
  | [a0, a1, a2, a3, a4, a5, a6, a7], _ =>
    have w0 := hw a0 (by simp)
    have w1 := hw a1 (by simp)
    have w2 := hw a2 (by simp)
    have w3 := hw a3 (by simp)
    have w4 := hw a4 (by simp)
    have w5 := hw a5 (by simp)
    have w6 := hw a6 (by simp)
    have w7 := hw a7 (by simp)
    have hkt := K.A.keyType K.hsz
    obtain ⟨m, hm⟩ := K.hsz
    unfold keyOf
    simp only [K.A.hu]
    rw [if_pos (by simp [hkt, Value.formed, K.A.hu, K.A.size]), hm]
    unfold Program.keyLits
    simp only [K.A.hu, Value.cells]
    rw [if_pos (by rw [K.A.size]; rfl), show List.range 8 = [0, 1, 2, 3, 4, 5, 6, 7] from rfl]
    simp only [List.mapM_cons, List.mapM_nil]
    simp [K.A.one, Program.keyLits, K.hi, w0, w1, w2, w3, w4, w5, w6, w7]
theorem keyOf_k8 {P : Program} {t k e ie : TypeId} (K : NK P t k e ie) {l : List Int} (hw : wf8 l) : keyOf P k (k8 l) = some (kl8 l) := keyOf_eight K (pad8_length l) (wf8_pad hw)
theorem k8_inj {a b : List Int} (h : k8 a = k8 b) : pad8 a = pad8 b := by
  unfold k8 at h
  injection h with h
  have h2 : (pad8 a).map (Value.int .i64) = (pad8 b).map (Value.int .i64) := by simpa using congrArg Array.toList h
  exact (List.map_inj_right (fun x y hxy => by injection hxy)).1 h2
theorem NK.keyed {P : Program} {t k e ie : TypeId} (K : NK P t k e ie) : Go.Maps.Keyed P k := Go.Maps.Keyed.of_law K.A.law
theorem kl8_iff {P : Program} {t k e ie : TypeId} (K : NK P t k e ie) {a b : List Int} (ha : wf8 a) (hb : wf8 b) : kl8 a = kl8 b ↔ pad8 a = pad8 b := by
  constructor
  · intro h
    exact k8_inj (K.keyed.inj (keyOf_k8 K ha) (h ▸ keyOf_k8 K hb))
  · intro h
    unfold kl8; rw [h]
def nkMap (P : Program) (k e : TypeId) (w : World) (b n : Nat) (L : List (List Int)) : Prop := w.ownsMap (H := Unit) P k (plainElem P e) b n (Maps.setOf (.lit (.bool true)) (L.map kl8))
theorem nk_bool_inv {P : Program} {e : TypeId} (he : P.underlying e = some .bool) {v : Value} {z : DataW Unit × List MemPlace} (h : plainElem P e v = some z) : ∃ x, v = .bool x ∧ z = (.lit (.bool x), []) := by
  unfold plainElem at h
  rw [he] at h
  cases v <;> simp at h
  exact ⟨_, rfl, h.symm⟩
theorem nk_at {P : Program} {t k e ie : TypeId} (K : NK P t k e ie) (u z : DataW Unit) {y : List Int} (hy : wf8 y) : ∀ (acc : List (List Int)) (m : DataW Unit), (∀ x ∈ acc, wf8 x) → Maps.IsMap m → ((acc.map kl8).foldl (fun m x => m.put x u) m).atKey (kl8 y) z = if (acc.map pad8).contains (pad8 y) = true then u else m.atKey (kl8 y) z
  | [], m, _, _ => by simp
  | x :: r, m, hw, hm => by
    have h1 := nk_at K u z hy r (m.put (kl8 x) u) (fun a ha => hw a (by simp [ha])) (by obtain ⟨es, rfl⟩ := hm; exact ⟨_, rfl⟩)
    simp only [List.map_cons, List.foldl_cons]
    rw [h1]
    by_cases hr : (r.map pad8).contains (pad8 y) = true
    · rw [if_pos hr, if_pos (by rw [List.contains_cons, hr, Bool.or_true])]
    · rw [if_neg hr]
      by_cases c : pad8 y = pad8 x
      · rw [if_pos (by rw [List.contains_cons, c]; simp), (kl8_iff K hy (hw x (by simp))).2 c]
        exact Maps.atKey_put_same hm (show WideAt.IsKeyLit (kl8 x) from trivial) _ _
      · rw [if_neg (by rw [List.contains_cons, Bool.or_eq_true]; rintro (h2 | h2); exact c (by simpa using h2); exact hr h2)]
        exact Maps.atKey_put_other (fun h2 => c ((kl8_iff K hy (hw x (by simp))).1 h2)) _ _
theorem nk_look {P : Program} {t k e ie : TypeId} (K : NK P t k e ie) {w : World} {b n : Nat} {L : List (List Int)} (h : nkMap P k e w b n L) (hL : ∀ x ∈ L, wf8 x) {y : List Int} (hy : wf8 y) :
    (Instr.lookup t (.map (some b)) (k8 y) false).run P w = .ok (.bool ((L.map pad8).contains (pad8 y))) w := by
  obtain ⟨v, ps, hrun, hv⟩ := h.lookup (t := t) (e := e) K.keyed K.ht (z := .bool false) (K.hz w) (plainElem_bool K.hb false) (keyOf_k8 K hy)
  have h2 := nk_at K (.lit (.bool true)) (.lit (.bool false)) hy L (.map []) hL ⟨_, rfl⟩
  rw [show Maps.setOf (H := Unit) (.lit (.bool true)) (L.map kl8) = ((L.map kl8).foldl (fun m x => m.put x (.lit (.bool true))) (.map [])) from rfl, h2] at hv
  rw [hrun]
  obtain ⟨x, rfl, hx⟩ := nk_bool_inv K.hb hv
  cases hc : (L.map pad8).contains (pad8 y) with
  | true => rw [hc, if_pos rfl] at hx; have h3 := congrArg Prod.fst hx; simp at h3; rw [← h3]
  | false => rw [hc, if_neg (by decide)] at hx; have h3 : DataW.lit (H := Unit) (Lit.bool false) = .lit (.bool x) := congrArg Prod.fst hx; simp at h3; rw [← h3]
theorem nkMap.drew {P : Program} {k e : TypeId} {w : World} {b n : Nat} {L : List (List Int)} (h : nkMap P k e w b n L) : nkMap P k e w.drew b n L := h
theorem nkMap.grow {P : Program} {k e : TypeId} {w : World} {b n : Nat} {L : List (List Int)} {y : List Int} (h : w.ownsMap (H := Unit) P k (plainElem P e) b (n + 1) ((Maps.setOf (.lit (.bool true)) (L.map kl8)).put (kl8 y) (.lit (.bool true)))) : nkMap P k e w b (n + 1) (L ++ [y]) := by
  unfold nkMap
  rw [show (L ++ [y]).map kl8 = L.map kl8 ++ [kl8 y] by simp, Maps.setOf_snoc]
  exact h
theorem nkMap.drewN {P : Program} {k e : TypeId} {w : World} {b n : Nat} {L : List (List Int)} (h : nkMap P k e w b n L) (m : Nat) : nkMap P k e (w.drewN m) b n L := h
theorem pad8_eq (m : List Int) : pad8 m = m.take 8 ++ (List.replicate 8 (0 : Int)).drop (m.take 8).length := by
  unfold pad8
  rw [List.take_append, List.drop_replicate, List.take_replicate, List.length_take]
  congr 2
  omega
theorem below_setRow8 {B g : Nat} {w0 w : World} (hb : Below B w0 w) (hBg : B ≤ g) (cs : Array Value) : Below B w0 (w.setRow g cs) :=
  hb.trans ⟨rfl, rfl, rfl, by simp [World.setRow], fun k hk => setRow_other w g k cs (by omega)⟩
/-- a marking is copied into an array of eight -/
theorem copy8 {P : Program} (w : World) (t t' ty : TypeId) (g c : Nat) (A : Option Addr) (m : List Int) (ht : P.underlying t = some (.slice 3)) (hinfo : (P.info? 3).map (·.size) = some 1)
    (hg : w.heap[g]? = some (.cells #[.int .i64 0, .int .i64 0, .int .i64 0, .int .i64 0, .int .i64 0, .int .i64 0, .int .i64 0, .int .i64 0] 96 (0, 0))) (hC : Kd.C (Kd.int .i64) w A m.length m) :
    ∃ n w1, (Builtin.copy_ #[t, t'] ty #[.slice (some ⟨g, 0, none⟩) 8 8, .slice A m.length c]).run P w = .ok n w1 ∧ w1.heap[g]? = some (.cells ((pad8 m).map (Value.int .i64)).toArray 96 (0, 0)) ∧ (∀ k, k ≠ g → w1.heap[k]? = w.heap[k]?) ∧ w1.heap.size = w.heap.size ∧ ∀ (B : Nat) (w0 : World), Below B w0 w → B ≤ g → Below B w0 w1 := by
  by_cases h0 : m = []
  · subst h0
    refine ⟨_, w, run_copy_none w t t' ty 3 _ _ 8 8 _ _ ht hinfo rfl, hg, fun _ _ => rfl, rfl, fun _ _ h _ => h⟩
  · have hp : 0 < m.length := List.length_pos_iff.2 h0
    obtain ⟨ad, c1, rfl, -⟩ := ReadsRow.get_ hC 0 0 (by omega) (by omega)
    have hcl : ∀ j v, ((m.take 8).map (Value.int .i64))[j]? = some v → w.cell? (ad.add j) = some v := by
      intro j v hj
      rw [List.getElem?_map] at hj
      obtain ⟨x, hx, rfl⟩ := Option.map_eq_some_iff.1 hj
      have hjl : j < (m.take 8).length := (List.getElem?_eq_some_iff.1 hx).1
      rw [List.length_take] at hjl
      obtain ⟨ad2, c2, e2, hl2, hK, hcc⟩ := ReadsRow.get_ hC 0 (j : Int) (by omega) (by omega)
      cases e2
      have hx2 : m[j]? = some x := by
        rw [List.getElem?_take] at hx
        split at hx
        · exact hx
        · cases hx
      rw [Int.toNat_natCast, List.getD_eq_getElem?_getD, hx2] at hK
      have hK2 : c2 = [Value.int .i64 x] := by simpa [Kd.int, Kd.scalar] using hK
      have h3 := hcc 0 (Value.int .i64 x) (by rw [hK2]; rfl)
      simpa [Kd.int, Kd.scalar] using h3
    have hr := run_copy_row (P := P) w t t' ty 3 g 0 8 8 ad m.length c #[.int .i64 0, .int .i64 0, .int .i64 0, .int .i64 0, .int .i64 0, .int .i64 0, .int .i64 0, .int .i64 0] 96 ((m.take 8).map (Value.int .i64)) ht hinfo hg (by rw [List.length_map, List.length_take]; exact Nat.min_comm _ _) hcl (by rw [List.length_map, List.length_take]; simp; omega) (fun v hv => by obtain ⟨x, _, rfl⟩ := List.mem_map.1 hv; rfl)
    refine ⟨_, _, hr, ?_, fun k hk => setRow_other _ _ _ _ hk, setRow_size _ _ _, fun B w0 hb hB => below_setRow8 hb hB _⟩
    rw [setRow_heap _ _ _ _ _ _ hg, pad8_eq]
    congr 3
    rw [List.map_append, List.map_drop, List.length_map, Nat.zero_add]
    rfl
theorem copy8_event {P : Program} {W : World} {ops : Array Oper} {rest : List Oper} {o : Oper} {a : Act} {Q : Exit → Act → World → Prop} (hgd : o.guard = none) (s x : Operand) (t t' : TypeId) (ho : o.op = .call { callee := .builtin .copy, args := #[s, x], argTypes := #[t, t'] })
    (ht : P.underlying t = some (.slice 3)) (hinfo : (P.info? 3).map (·.size) = some 1) (g c : Nat) (A : Option Addr) (m : List Int) (hs : a.eval s = .slice (some ⟨g, 0, none⟩) 8 8) (hx : a.eval x = .slice A m.length c)
    (hg : W.heap[g]? = some (.cells #[.int .i64 0, .int .i64 0, .int .i64 0, .int .i64 0, .int .i64 0, .int .i64 0, .int .i64 0, .int .i64 0] 96 (0, 0))) (hC : Kd.C (Kd.int .i64) W A m.length m)
    (h : ∀ n w1, w1.heap[g]? = some (.cells ((pad8 m).map (Value.int .i64)).toArray 96 (0, 0)) → (∀ k, k ≠ g → w1.heap[k]? = W.heap[k]?) → w1.heap.size = W.heap.size → (∀ (B : Nat) (w0 : World), Below B w0 W → B ≤ g → Below B w0 w1) → wpList P ops Q rest (a.put o.dst n) w1) : wpList P ops Q (o :: rest) a W := by
  obtain ⟨n, w1, hr, h1, h2, h3, h4⟩ := copy8 W t t' o.type g c A m ht hinfo hg hC
  refine Kd.event_run hgd (v := n) (w1 := w1) ?_ (h n w1 h1 h2 h3 h4)
  simp only [execOp, ho, resolve, invoke, builtin, Sem.run_bind, Sem.run_pure, Result.andThen_ok, List.map_toArray, List.map_cons, List.map_nil, hs, hx, hr]
theorem eight {l : List Int} (h : l.length = 8) : ∃ a0 a1 a2 a3 a4 a5 a6 a7, l = [a0, a1, a2, a3, a4, a5, a6, a7] := by
  match l, h with
  | [a0, a1, a2, a3, a4, a5, a6, a7], _ => exact ⟨_, _, _, _, _, _, _, _, rfl⟩
theorem info3s {P : Program} {c : Nat} {z : Option Value} (h : (P.info? 3).map (fun i => (i.zero, i.size, i.bytes)) = some (z, 1, c)) : (P.info? 3).map (·.size) = some 1 := by
  cases hi : P.info? 3 with
  | none => rw [hi] at h; cases h
  | some i => rw [hi] at h; simp at h; simp [h.2.1]
theorem nkMap.block {P : Program} {k e : TypeId} {w w' : World} {b n : Nat} {L : List (List Int)} (h : nkMap P k e w b n L) (hb : w'.heap[b]? = w.heap[b]?) : nkMap P k e w' b n L := by
  obtain ⟨es, clock, hB, r⟩ := h
  exact ⟨es, clock, hb.trans hB, r⟩
theorem nkMap.lt {P : Program} {k e : TypeId} {w : World} {b n : Nat} {L : List (List Int)} (h : nkMap P k e w b n L) : b < w.heap.size := by
  obtain ⟨es, clock, hB, r⟩ := h
  exact (Array.getElem?_eq_some_iff.1 hB).1
theorem nkMap.ne {P : Program} {k e : TypeId} {w : World} {b n : Nat} {L : List (List Int)} (h : nkMap P k e w b n L) {g t : Nat} {cells : Array Value} (hg : w.heap[g]? = some (.cells cells t (0, 0))) : g ≠ b := by
  obtain ⟨es, clock, hB, r⟩ := h
  rintro rfl
  rw [hB] at hg
  cases hg
/-- the lists of a search of markings, the box that has them, the map of what was seen, a marking that is new -/
structure MK (P : Program) (ok Q : Nat → Prop) (base gx gm : Nat) (bx : Array Value) (vL vF vS vn : Value) (w0 W : World) (ML L : List (List Int)) (F S nx : List Int) : Prop where
  X : W.heap[gx]? = some (.cells bx 81 (0, 0))
  L : Kd.S (Kd.slice 3 (Kd.int .i64)) 33 W base (fun k => (ok k ∧ ¬ Q k) ∧ some k ≠ vF.ownBlock ∧ some k ≠ vS.ownBlock) vL L
  F : Kd.R (Kd.int .i64) 3 W w0.heap.size (fun _ => True) vF F
  S : Kd.R (Kd.int .i64) 3 W w0.heap.size (fun _ => True) vS S
  R : Kd.R (Kd.int .i64) 3 W base Q vn nx
  A : ∀ k, some k = vF.ownBlock → some k ≠ vS.ownBlock
  AF : ∀ k, Q k → some k ≠ vF.ownBlock ∧ some k ≠ vS.ownBlock
  M : nkMap P 96 4 W gm ML.length ML
  B : Below w0.heap.size w0 W
  N : ∀ k, Q k → k < W.heap.size ∧ ok k
  GX : w0.heap.size ≤ gx
  GM : w0.heap.size ≤ gm
  OK : ∀ k, w0.heap.size ≤ k → ok k
  BA : base ≤ w0.heap.size
  LB : ∀ k, vL.ownBlock = some k → w0.heap.size ≤ k
section
variable {P : Program} {ok Q : Nat → Prop} {base gx gm : Nat} {bx : Array Value} {vL vF vS vn v1 : Value} {w0 W W' : World} {ML ML' L : List (List Int)} {F S nx F' S' : List Int}
theorem int_E {k : IntKind} : (Kd.int k).E = [] := rfl
theorem MK.below (h : MK P ok Q base gx gm bx vL vF vS vn w0 W ML L F S nx) (hb : Below W.heap.size W W') : MK P ok Q base gx gm bx vL vF vS vn w0 W' ML L F S nx :=
  ⟨blk_below h.X hb, Kd.S_below h.L hb, Kd.R_below h.F hb, Kd.R_below h.S hb, Kd.R_below h.R hb, h.A, h.AF, h.M.block (hb.block _ h.M.lt), below_then h.B h.B.size hb, fun k hk => ⟨Nat.lt_of_lt_of_le (h.N k hk).1 hb.size, (h.N k hk).2⟩, h.GX, h.GM, h.OK, h.BA, h.LB⟩
/-- a marking that a call made -/
theorem MK.new (h : MK P ok (fun _ => False) base gx gm bx vL vF vS (.slice none 0 0) w0 W ML L F S []) (hR : Kd.R (Kd.int .i64) 3 W' W.heap.size (fun _ => True) vn nx) (hb : Below W.heap.size W W') :
    MK P ok (fun k => some k = vn.ownBlock) base gx gm bx vL vF vS vn w0 W' ML L F S nx := by
  have hB := h.B.size
  have hlo := Kd.R_base hR
  have hlt := Kd.R_lt hR
  have hF := Kd.R_lt h.F
  have hS := Kd.R_lt h.S
  refine ⟨blk_below h.X hb, Kd.S_mono (Kd.S_elder' h.L hlo hb) (fun k hk => ⟨⟨hk.1.1.1, hk.2⟩, hk.1.2⟩), Kd.R_below h.F hb, Kd.R_below h.S hb, Kd.R_lower (Kd.R_tight rfl hR) (Nat.le_trans h.BA hB), h.A, fun k hk => ⟨fun he => ?_, fun he => ?_⟩, h.M.block (hb.block _ h.M.lt), below_then h.B h.B.size hb, fun k hk => ⟨hlt k hk.symm, h.OK k (Nat.le_trans hB (hlo k hk.symm))⟩, h.GX, h.GM, h.OK, h.BA, h.LB⟩
  · have h1 := hlo k hk.symm; have h2 := hF k he.symm; omega
  · have h1 := hlo k hk.symm; have h2 := hS k he.symm; omega
theorem MK.forget (h : MK P ok Q base gx gm bx vL vF vS vn w0 W ML L F S nx) : MK P ok (fun _ => False) base gx gm bx vL vF vS (.slice none 0 0) w0 W ML L F S [] :=
  ⟨h.X, Kd.S_mono h.L (fun k hk => ⟨⟨hk.1.1, fun hf => hf⟩, hk.2⟩), h.F, h.S, Kd.R_nil _ _ _ _ _, h.A, fun _ hk => hk.elim, h.M, h.B, fun _ hk => hk.elim, h.GX, h.GM, h.OK, h.BA, h.LB⟩
/-- the map was written -/
theorem MK.map (h : MK P ok Q base gx gm bx vL vF vS vn w0 W ML L F S nx) (hg : W.grownBy W' (some gm)) (hM : nkMap P 96 4 W' gm ML'.length ML') : MK P ok Q base gx gm bx vL vF vS vn w0 W' ML' L F S nx := by
  have hne : ∀ k, (∃ q, q ∈ ([33, 3] : List Nat) ∧ ∃ cells, W.heap[k]? = some (.cells cells q (0, 0))) → k < W.heap.size → W'.heap[k]? = W.heap[k]? := fun k ⟨q, _, cells, hc⟩ hlt => hg.block k hlt (fun he => h.M.ne hc (by injection he))
  have hR1 : ∀ {b : Nat} {okk : Nat → Prop} {v : Value} {xs : List Int}, Kd.R (Kd.int .i64) 3 W b okk v xs → Kd.R (Kd.int .i64) 3 W' b okk v xs := fun {b okk v xs} hr =>
    Kd.R_mono (Kd.R_step (Kd.R_bound hr) (fun k hk hlt => hne k ⟨3, by simp, by obtain ⟨q, hq, hc⟩ := hk.2.2.2; have hq3 : q = 3 := (by simpa [Kd.int, Kd.scalar] using hq); rw [hq3] at hc; exact hc⟩ hlt)) (fun k hk => hk.1)
  refine ⟨(hg.block gx (blk_lt h.X) (fun he => h.M.ne h.X (by injection he))).trans h.X, ?_, hR1 h.F, hR1 h.S, hR1 h.R, h.A, h.AF, hM, h.B.grown hg h.B.size (fun k hk => by injection hk with hk; exact hk ▸ h.GM), fun k hk => ⟨Nat.lt_of_lt_of_le (h.N k hk).1 hg.size, (h.N k hk).2⟩, h.GX, h.GM, h.OK, h.BA, h.LB⟩
  exact Kd.S_mono (Kd.S_step (Kd.S_bound h.L) (fun k hk hlt => hne k (by obtain ⟨q, hq, hc⟩ := hk.2.2.2; exact ⟨q, by simpa [Kd.slice, Kd.int, Kd.scalar] using hq, hc⟩) hlt)) (fun k hk => hk.1)
/-- a list was written in its own block (of another kind): what stays -/
theorem MK.growL (h : MK P ok Q base gx gm bx vL vF vS vn w0 W ML L F S nx) (hg : W.grownBy W' vL.ownBlock) (hat : v1.ownBlock = vL.ownBlock ∨ ∃ b, v1.ownBlock = some b ∧ W.heap.size ≤ b) {L' : List (List Int)} (hL : Kd.S (Kd.slice 3 (Kd.int .i64)) 33 W' base (fun k => ok k ∧ some k ≠ vF.ownBlock ∧ some k ≠ vS.ownBlock) v1 L') (hB : Below w0.heap.size w0 W') :
    MK P ok (fun _ => False) base gx gm bx v1 vF vS (.slice none 0 0) w0 W' ML L' F S [] := by
  have hty := Kd.S_typed h.L
  refine ⟨(hg.block gx (blk_lt h.X) (fun he => ?_)).trans h.X, Kd.S_mono hL (fun k hk => ⟨⟨hk.1, fun hf => hf⟩, hk.2⟩), Kd.R_over' h.F hty (by decide) hg, Kd.R_over' h.S hty (by decide) hg, Kd.R_nil _ _ _ _ _, h.A, fun _ hk => hk.elim, h.M.block (hg.block gm h.M.lt (fun he => ?_)), hB, fun _ hk => hk.elim, h.GX, h.GM, h.OK, h.BA, fun k hk => ?_⟩
  · obtain ⟨cells, hc⟩ := hty gx he.symm
    have hx := h.X
    rw [hc] at hx
    injection hx with hx
    injection hx with _ hx
    exact absurd hx (by decide)
  · obtain ⟨cells, hc⟩ := hty gm he.symm
    exact h.M.ne hc rfl
  · rcases hat with hat | ⟨b, hb, hle⟩
    · rw [hat] at hk; exact h.LB k hk
    · rw [hb] at hk; injection hk with hk; have := h.B.size; omega
theorem MK.growF (h : MK P ok Q base gx gm bx vL vF vS vn w0 W ML L F S nx) (hg : W.grownBy W' vF.ownBlock) (hat : v1.ownBlock = vF.ownBlock ∨ ∃ b, v1.ownBlock = some b ∧ W.heap.size ≤ b) (hF : Kd.R (Kd.int .i64) 3 W' w0.heap.size (fun _ => True) v1 F') (hB : Below w0.heap.size w0 W') :
    MK P ok Q base gx gm bx vL v1 vS vn w0 W' ML L F' S nx := by
  have hty := Kd.R_typed h.F
  have hlt := Kd.R_lt h.S
  refine ⟨(hg.block gx (blk_lt h.X) (fun he => ?_)).trans h.X, ?_, hF, Kd.R_grown2 h.S rfl hg (fun k hk => h.A k hk.symm), Kd.R_grown h.R hg (fun k hk => (h.AF k hk).1), fun k hk => ?_, fun k hk => ⟨fun he => ?_, (h.AF k hk).2⟩, h.M.block (hg.block gm h.M.lt (fun he => ?_)), hB, fun k hk => ⟨Nat.lt_of_lt_of_le (h.N k hk).1 hg.size, (h.N k hk).2⟩, h.GX, h.GM, h.OK, h.BA, h.LB⟩
  · obtain ⟨cells, hc⟩ := hty gx he.symm
    have hx := h.X
    rw [hc] at hx
    injection hx with hx
    injection hx with _ hx
    exact absurd hx (by decide)
  · exact Kd.S_mono (Kd.S_after (ok := fun k => (ok k ∧ ¬ Q k) ∧ some k ≠ vS.ownBlock) (Kd.S_mono h.L (fun k hk => ⟨⟨hk.1, hk.2.2⟩, hk.2.1⟩)) hg hat) (fun k hk => ⟨hk.1.1, hk.2, hk.1.2⟩)
  · rcases hat with hat | ⟨b, hb, hle⟩
    · rw [hat] at hk; exact h.A k hk
    · rw [hb] at hk; intro he; have := hlt k he.symm; injection hk with hk; omega
  · rcases hat with hat | ⟨b, hb, hle⟩
    · rw [hat] at he; exact (h.AF k hk).1 he
    · rw [hb] at he; have := (h.N k hk).1; injection he with he; omega
  · obtain ⟨cells, hc⟩ := hty gm he.symm
    exact h.M.ne hc rfl
theorem MK.growS (h : MK P ok Q base gx gm bx vL vF vS vn w0 W ML L F S nx) (hg : W.grownBy W' vS.ownBlock) (hat : v1.ownBlock = vS.ownBlock ∨ ∃ b, v1.ownBlock = some b ∧ W.heap.size ≤ b) (hS : Kd.R (Kd.int .i64) 3 W' w0.heap.size (fun _ => True) v1 S') (hB : Below w0.heap.size w0 W') :
    MK P ok Q base gx gm bx vL vF v1 vn w0 W' ML L F S' nx := by
  have hty := Kd.R_typed h.S
  have hlt := Kd.R_lt h.F
  refine ⟨(hg.block gx (blk_lt h.X) (fun he => ?_)).trans h.X, ?_, Kd.R_grown2 h.F rfl hg (fun k hk he => h.A k he hk.symm), hS, Kd.R_grown h.R hg (fun k hk => (h.AF k hk).2), fun k hk => ?_, fun k hk => ⟨(h.AF k hk).1, fun he => ?_⟩, h.M.block (hg.block gm h.M.lt (fun he => ?_)), hB, fun k hk => ⟨Nat.lt_of_lt_of_le (h.N k hk).1 hg.size, (h.N k hk).2⟩, h.GX, h.GM, h.OK, h.BA, h.LB⟩
  · obtain ⟨cells, hc⟩ := hty gx he.symm
    have hx := h.X
    rw [hc] at hx
    injection hx with hx
    injection hx with _ hx
    exact absurd hx (by decide)
  · exact Kd.S_mono (Kd.S_after (ok := fun k => (ok k ∧ ¬ Q k) ∧ some k ≠ vF.ownBlock) (Kd.S_mono h.L (fun k hk => ⟨⟨hk.1, hk.2.1⟩, hk.2.2⟩)) hg hat) (fun k hk => ⟨hk.1.1, hk.1.2, hk.2⟩)
  · rcases hat with hat | ⟨b, hb, hle⟩
    · rw [hat]; exact h.A k hk
    · rw [hb]; intro he; have := hlt k hk.symm; injection he with he; omega
  · rcases hat with hat | ⟨b, hb, hle⟩
    · rw [hat] at he; exact (h.AF k hk).2 he
    · rw [hb] at he; have := (h.N k hk).1; injection he with he; omega
  · obtain ⟨cells, hc⟩ := hty gm he.symm
    exact h.M.ne hc rfl
/-- the box is written -/
theorem MK.put (h : MK P ok Q base gx gm bx vL vF vS vn w0 W ML L F S nx) (j : Nat) (u : Value) {bx' : Array Value} (hbx : (W.setCell ⟨gx, j, none⟩ u).heap[gx]? = some (.cells bx' 81 (0, 0))) : MK P ok Q base gx gm bx' vL vF vS vn w0 (W.setCell ⟨gx, j, none⟩ u) ML L F S nx :=
  ⟨hbx, Kd.S_set h.L h.X (by decide) j u, Kd.R_set h.F h.X (by decide) j u, Kd.R_set h.S h.X (by decide) j u, Kd.R_set h.R h.X (by decide) j u, h.A, h.AF, h.M.block (Below.heap_setCell W ⟨gx, j, none⟩ u gm (fun he => h.M.ne h.X (Eq.symm he))), h.B.setCell (p := ⟨gx, j, none⟩) h.GX u, fun k hk => ⟨by have := (h.N k hk).1; simp; omega, (h.N k hk).2⟩, h.GX, h.GM, h.OK, h.BA, h.LB⟩
end
theorem nk_info4 : (Try.prog.info? 4).map (fun i => i.zero) = some (some (.bool false)) := by kernel_rfl
theorem nk_zero_ {P : Program} {t : TypeId} {z : Value} (h : (P.info? t).map (fun i => i.zero) = some (some z)) (w : World) : (zeroValue t).run P w = .ok z w := by
  cases hi : P.info? t with
  | none => rw [hi] at h; exact absurd h (by simp)
  | some i =>
    rw [hi] at h
    have hz : i.zero = some z := by simpa using h
    simp [zeroValue, typeInfo, hi, hz, Question.forced, Result.andThen]
theorem nkTry : NK Try.prog 98 96 4 3 :=
  ⟨⟨Try.underlying96, by kernel_rfl, by kernel_rfl, by kernel_rfl⟩, Try.underlying3, ⟨Try.prog.types.size - 1, by kernel_rfl⟩, Try.underlying98, Try.underlying4, fun w => nk_zero_ nk_info4 w⟩
theorem nk_map_event {W : World} {ops : Array Oper} {rest : List Oper} {o : Oper} {a : Act} {Q : Exit → Act → World → Prop} (hgd : o.guard = none) (hop : o.op = Op.makeMap 98 none)
    (h : ∀ g, g = W.heap.size → ∀ w1, nkMap Try.prog 96 4 w1 g 0 [] → Below W.heap.size W w1 → W.heap.size < w1.heap.size → wpList Try.prog ops Q rest (a.put o.dst (.map (some g))) w1) : wpList Try.prog ops Q (o :: rest) a W := by
  have hmm := @run_makeMap Try.prog
  refine Kd.event_run hgd (v := .map (some W.heap.size)) (w1 := W.alloc (.map #[] 0)) (by simp [execOp, hop, hmm]) (h _ rfl _ (World.ownsMap_made W _ _ _) (below_alloc (Below.refl _ _) _) (by simp))
theorem nk_look_event {W : World} {ops : Array Oper} {rest : List Oper} {o : Oper} {a : Act} {Q : Exit → Act → World → Prop} (hgd : o.guard = none) {m x : Operand} (hop : o.op = Op.lookup 98 m x false) {b n : Nat} {L : List (List Int)} {y : List Int} {bb : Bool}
    (hm : a.eval m = .map (some b)) (hx : a.eval x = k8 y) (hL : ∀ z ∈ L, wf8 z) (hy : wf8 y) (HM : nkMap Try.prog 96 4 W b n L) (hb : (L.map pad8).contains (pad8 y) = bb) (h : wpList Try.prog ops Q rest (a.put o.dst (.bool bb)) W) : wpList Try.prog ops Q (o :: rest) a W := by
  have hl := nk_look nkTry HM hL hy
  rw [hb] at hl
  exact Kd.event_run hgd (v := .bool bb) (w1 := W) (by simp [execOp, hop, hm, hx, hl]) h
theorem nk_put_event {W : World} {ops : Array Oper} {rest : List Oper} {o : Oper} {a : Act} {Q : Exit → Act → World → Prop} (hgd : o.guard = none) {m x v : Operand} (hop : o.op = Op.insert 98 m x v ∨ o.op = Op.mapUpdate 98 m x v) {b : Nat} {L : List (List Int)} {y : List Int}
    (hm : a.eval m = .map (some b)) (hx : a.eval x = k8 y) (hv : a.eval v = .bool true) (hy : wf8 y) (HM : nkMap Try.prog 96 4 W b L.length L) (hn : L.length < maxLen)
    (h : ∀ w1, nkMap Try.prog 96 4 w1 b (L ++ [y]).length (L ++ [y]) → W.grownBy w1 (some b) → wpList Try.prog ops Q rest (a.put o.dst undef) w1) : wpList Try.prog ops Q (o :: rest) a W := by
  refine wpList_plain hgd fun K' hK' => ?_
  obtain ⟨w1, hrun, r1, r2⟩ := World.ownsMap.update HM nkTry.keyed nkTry.ht hn (keyOf_k8 nkTry hy) (plainElem_bool nkTry.hb true)
  have r1' : nkMap Try.prog 96 4 w1 b (L ++ [y]).length (L ++ [y]) := by rw [List.length_append]; exact nkMap.grow r1
  unfold Oper.wp
  rcases hop with hop | hop <;> (simp [execOp, hop, hm, hx, hv, hrun, Result.andThen]; exact hK' _ _ (h w1 r1' r2))
theorem wf8_of {l : List Int} (h : wf8b l = true) : wf8 l := fun x hx => List.all_eq_true.1 h x hx
theorem info3k : (Try.prog.info? 3).map (·.size) = some 1 := by kernel_rfl
set_option maxHeartbeats 8000000 in
set_option maxRecDepth 100000 in
theorem impl_keyOf.calls (A : Option Addr) (c : Nat) (m : List Int) (w : World) (hm : Kd.C (Kd.int .i64) w A m.length m) :
    Calls Try.prog 85 #[.slice A m.length c] w fun e w' => e = .returned (k8 m) ∧ Below w.heap.size w w' := by
  have hu96 := Try.underlying96
  have HM := Aside0.mk hm
  have HB := Aside0.mk (Below.refl w.heap.size w)
  obtain ⟨a0, a1, a2, a3, a4, a5, a6, a7, h8⟩ := eight (pad8_length m)
  have HK : Aside0 (k8 m = .agg #[.int .i64 a0, .int .i64 a1, .int .i64 a2, .int .i64 a3, .int .i64 a4, .int .i64 a5, .int .i64 a6, .int .i64 a7]) := ⟨by unfold k8; rw [h8]; rfl⟩
  have H8 := Aside0.mk h8
  clear hm h8
  go_enter Try.func85, Try.ntmps85
  go_wp2_with ((with_reducible refine gate_builtin (b := .copy) (xs := #[.tmp 5, .tmp 6]) rfl ?_); (try (refine gate_guard (by rfl) ?_; dsimp only)); refine copy8_event rfl (.tmp 5) (.tmp 6) 33 33 rfl Try.underlying33 info3k (w.heap.size + 1) c A m rfl rfl ?hg ?hC ?_; (case hg => (have h_ := heap_alloc_new (w.alloc (.cells #[.int .i64 0, .int .i64 0, .int .i64 0, .int .i64 0, .int .i64 0, .int .i64 0, .int .i64 0, .int .i64 0] 96)) (.cells #[.int .i64 0, .int .i64 0, .int .i64 0, .int .i64 0, .int .i64 0, .int .i64 0, .int .i64 0, .int .i64 0] 96); simpa using h_)); (case hC => exact Kd.C_below HM.out (by repeat (first | exact HB.out | apply below_alloc | apply pw_below_drewN | apply below_drew1))); intro n1 w1 hg1 ho1 hs1 hb1_; rw [H8.out] at hg1; have hb1 : Below w.heap.size w w1 := hb1_ _ _ (by repeat (first | exact HB.out | apply below_alloc)) (by omega); have hr1 : w1.heap[w.heap.size]? = some (.cells #[.int .i64 0, .int .i64 0, .int .i64 0, .int .i64 0, .int .i64 0, .int .i64 0, .int .i64 0, .int .i64 0] 96 (0, 0)) := (ho1 _ (by omega)).trans (by refine blk_alloc ?_ _; exact heap_alloc_new _ _); have hc0 : w1.cell? ⟨w.heap.size + 1, 0, none⟩ = some (.int .i64 a0) := (blk_cell hg1 0).trans rfl; have hd0 : w1.cell? ⟨w.heap.size, 0, none⟩ = some (.int .i64 0) := (blk_cell hr1 0).trans rfl; have hf0 := blk_frozen hr1 0; have hc1 : w1.cell? ⟨w.heap.size + 1, 1, none⟩ = some (.int .i64 a1) := (blk_cell hg1 1).trans rfl; have hd1 : w1.cell? ⟨w.heap.size, 1, none⟩ = some (.int .i64 0) := (blk_cell hr1 1).trans rfl; have hf1 := blk_frozen hr1 1; have hc2 : w1.cell? ⟨w.heap.size + 1, 2, none⟩ = some (.int .i64 a2) := (blk_cell hg1 2).trans rfl; have hd2 : w1.cell? ⟨w.heap.size, 2, none⟩ = some (.int .i64 0) := (blk_cell hr1 2).trans rfl; have hf2 := blk_frozen hr1 2; have hc3 : w1.cell? ⟨w.heap.size + 1, 3, none⟩ = some (.int .i64 a3) := (blk_cell hg1 3).trans rfl; have hd3 : w1.cell? ⟨w.heap.size, 3, none⟩ = some (.int .i64 0) := (blk_cell hr1 3).trans rfl; have hf3 := blk_frozen hr1 3; have hc4 : w1.cell? ⟨w.heap.size + 1, 4, none⟩ = some (.int .i64 a4) := (blk_cell hg1 4).trans rfl; have hd4 : w1.cell? ⟨w.heap.size, 4, none⟩ = some (.int .i64 0) := (blk_cell hr1 4).trans rfl; have hf4 := blk_frozen hr1 4; have hc5 : w1.cell? ⟨w.heap.size + 1, 5, none⟩ = some (.int .i64 a5) := (blk_cell hg1 5).trans rfl; have hd5 : w1.cell? ⟨w.heap.size, 5, none⟩ = some (.int .i64 0) := (blk_cell hr1 5).trans rfl; have hf5 := blk_frozen hr1 5; have hc6 : w1.cell? ⟨w.heap.size + 1, 6, none⟩ = some (.int .i64 a6) := (blk_cell hg1 6).trans rfl; have hd6 : w1.cell? ⟨w.heap.size, 6, none⟩ = some (.int .i64 0) := (blk_cell hr1 6).trans rfl; have hf6 := blk_frozen hr1 6; have hc7 : w1.cell? ⟨w.heap.size + 1, 7, none⟩ = some (.int .i64 a7) := (blk_cell hg1 7).trans rfl; have hd7 : w1.cell? ⟨w.heap.size, 7, none⟩ = some (.int .i64 0) := (blk_cell hr1 7).trans rfl; have hf7 := blk_frozen hr1 7; have HB1 := Aside0.mk hb1; have HG1 := Aside0.mk hg1; have HR1 := Aside0.mk hr1; clear hg1 ho1 hs1 hb1 hr1 hb1_)
  (try simp only [Exit.inBlock, Exit.then])
  refine bodyPost_ret (results_single rfl (.cell w.heap.size 96 #[.int .i64 a0, .int .i64 a1, .int .i64 a2, .int .i64 a3, .int .i64 a4, .int .i64 a5, .int .i64 a6, .int .i64 a7] (0, 0) _ rfl (by refine blk_put (cs := #[.int .i64 a0, .int .i64 a1, .int .i64 a2, .int .i64 a3, .int .i64 a4, .int .i64 a5, .int .i64 a6, .int .i64 0]) ?_ 7 _ rfl; refine blk_put (cs := #[.int .i64 a0, .int .i64 a1, .int .i64 a2, .int .i64 a3, .int .i64 a4, .int .i64 a5, .int .i64 0, .int .i64 0]) ?_ 6 _ rfl; refine blk_put (cs := #[.int .i64 a0, .int .i64 a1, .int .i64 a2, .int .i64 a3, .int .i64 a4, .int .i64 0, .int .i64 0, .int .i64 0]) ?_ 5 _ rfl; refine blk_put (cs := #[.int .i64 a0, .int .i64 a1, .int .i64 a2, .int .i64 a3, .int .i64 0, .int .i64 0, .int .i64 0, .int .i64 0]) ?_ 4 _ rfl; refine blk_put (cs := #[.int .i64 a0, .int .i64 a1, .int .i64 a2, .int .i64 0, .int .i64 0, .int .i64 0, .int .i64 0, .int .i64 0]) ?_ 3 _ rfl; refine blk_put (cs := #[.int .i64 a0, .int .i64 a1, .int .i64 0, .int .i64 0, .int .i64 0, .int .i64 0, .int .i64 0, .int .i64 0]) ?_ 2 _ rfl; refine blk_put (cs := #[.int .i64 a0, .int .i64 0, .int .i64 0, .int .i64 0, .int .i64 0, .int .i64 0, .int .i64 0, .int .i64 0]) ?_ 1 _ rfl; refine blk_put (cs := #[.int .i64 0, .int .i64 0, .int .i64 0, .int .i64 0, .int .i64 0, .int .i64 0, .int .i64 0, .int .i64 0]) ?_ 0 _ rfl; exact HR1.out) Try.underlying96 rfl (by kernel_rfl) .nil)) rfl ?_
  refine ⟨congrArg Ending.returned HK.out.symm, ?_⟩
  with_reducible (refine below_set ?_ (Nat.le_refl _); refine below_set ?_ (Nat.le_refl _); refine below_set ?_ (Nat.le_refl _); refine below_set ?_ (Nat.le_refl _); refine below_set ?_ (Nat.le_refl _); refine below_set ?_ (Nat.le_refl _); refine below_set ?_ (Nat.le_refl _); refine below_set ?_ (Nat.le_refl _); exact HB1.out)

end Go.Proofs.Ytnfafdlglhbijaa.PFnExactIsSound
