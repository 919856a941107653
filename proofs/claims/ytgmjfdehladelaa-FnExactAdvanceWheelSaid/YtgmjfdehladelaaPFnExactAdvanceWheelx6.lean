-- written by xprint.py (a program of this session's, over the kit's print): printed functions, and some by hand
import Derived.Test.YtgmjfdehladelaaPFnExactAdvanceWheelx0
import Derived.Test.YtgmjfdehladelaaPFnExactAdvanceWheelx3
import Derived.Test.YtgmjfdehladelaaPFnExactAdvanceWheelx5
namespace Go.Proofs.Ytgmjfdehladelaa.PFnExactAdvanceWheel
open Go.RowKit Go.Proofs.YtgmjfdehladelaaW.PrintWords Go.Proofs.YtgmjfdehladelaaW.PrintLast Go.Proofs.YtgmjfdehladelaaW.PrintMore
attribute [local go_sem] max2_int min2_int max_two min_two max_three min_three max_four min_four   -- for this text's walks alone
set_option linter.unusedVariables false
set_option linter.unusedSimpArgs false

/-! ### spec_l5Tick: function 68, by hand; a text alone -/
/-- a row of a wheel, lent (its blocks are rows of timers); the wheel with another row there: its blocks, and those of the rows beside -/
theorem ws_row2 {W : World} {base g n cap : Nat} {ok : Nat → Prop} {xs : List (List S45)} (h : Kd.S (Kd.slice 45 k45) 48 W base ok (.slice (some ⟨g, 0, none⟩) n cap) xs) (j : Nat) (hj : j < n) :
  ∃ (oki : Nat → Prop) (A : Option Addr) (c : Nat), Kd.R k45 45 W base oki (.slice A (xs.getD j []).length c) (xs.getD j []) ∧ W.cell? ⟨g, j, none⟩ = some (.slice A (xs.getD j []).length c) ∧ W.frozen? ⟨g, j, none⟩ = false ∧ (∀ k, oki k → ok k ∧ k ≠ g ∧ k < W.heap.size ∧ ∃ cells, W.heap[k]? = some (.cells cells 45 (0, 0))) ∧
   ∀ {W' : World} {ok' okn : Nat → Prop} {v' : Value} {ys : List S45}, Kept W W' oki → (∀ k, ok k → ¬ oki k → ok' k) → (∀ k, okn k → ok' k) → Kd.R k45 45 W' base okn v' ys → (∀ k, okn k → oki k ∨ W.heap.size ≤ k) →
    Kd.S (Kd.slice 45 k45) 48 (W'.setCell ⟨g, j, none⟩ v') base ok' (.slice (some ⟨g, 0, none⟩) n cap) (xs.set j ys) := by
 have hgl : g < W.heap.size := Kd.S_lt h g rfl
 obtain ⟨oki, c, hcl, hM, hcc, hfr, hok, hH⟩ := Kd.S_elem (Kd.S_bound h) [] (j : Int) (by omega) (by omega)
 rw [Int.toNat_natCast] at hM hcc hfr
 obtain ⟨v, rfl, hR⟩ := hM
 obtain ⟨A, c, rfl⟩ := Kd.R_slice hR
 have hty : ∀ k, oki k ∧ (∃ cells, W.heap[k]? = some (.cells cells 45 (0, 0))) → ∃ cells, W.heap[k]? = some (.cells cells 45 (0, 0)) := fun k hk => hk.2
 refine ⟨fun k => oki k ∧ (∃ cells, W.heap[k]? = some (.cells cells 45 (0, 0))), A, c, Kd.R_mono (Kd.R_bound hR) (fun k hk => ⟨hk.1, ?_⟩), by have h2 := hcc 0 _ rfl; simpa [Kd.slice] using h2, by have h2 := hfr 0; simpa [Kd.slice] using h2, fun k hk => ⟨(hok k hk.1).1.1, (hok k hk.1).2, (hok k hk.1).1.2.2.1, hty k hk⟩, fun {W' ok' okn v' ys} hk ho hn hR' hnew => ?_⟩
 ·obtain ⟨q, hq, cells, hc⟩ := hk.2.2.2
  have hE : q = 45 := by simpa [k45, Kd.iso, Kd.pair, Kd.int, Kd.scalar] using hq
  subst hE
  exact ⟨cells, hc⟩
 ·have h3 := Kd.H_kept hH hk (fun _ _ hn h2 => hn h2.1)
  obtain ⟨_, f, hf⟩ := h3
  have h4 : Kd.H (Kd.slice 45 k45) 48 W' base (fun k => ok' k ∧ ¬ okn k) (.slice (some ⟨g, 0, none⟩) n cap) xs (j : Int) (fun _ => False) [.slice A (xs.getD j []).length c] :=
   ⟨fun _ hh => hh.elim, f, Kd.R_mono hf (fun k hk2 => ⟨⟨ho k hk2.1.1 (fun h5 => hk2.2 h5.1), fun h5 => by
    rcases hnew k h5 with h6 | h6
    ·exact hk2.2 h6.1
    ·have := hk2.1.2.2.1; omega⟩, fun hh => hh.elim⟩)⟩
  have h5 := (Kd.S_seg (okg := okn) (okp := okn) (seg := [v']) (j := 0) (x' := ys) h4 (by omega) (by omega) (by simp [Kd.slice]) ⟨v', by simp, hR'⟩ (fun k hk => .inr hk) (fun k hk => ⟨hn k hk, fun he => by
   rcases hnew k hk with h6 | h6
   ·exact (hok k h6.1).2 he
   ·omega⟩)).1
  rw [Int.toNat_natCast] at h5
  simpa [Kd.slice, World.setCells] using h5
/-- a wheel that is ticked: its rows, what is due, the boxes beside, a row that was taken out -/
structure TK (P : Nat → Prop) (w0 w : World) (g n c : Nat) (bs : List (Nat × Array Value)) (Q : Nat → Prop) (vr : Value) (row : List S45) (W : World) (L : List (List S45)) (vd : Value) (d : List Int) : Prop where
 S : Kd.S (Kd.slice 45 k45) 48 W w0.heap.size (fun k => (P k ∨ w.heap.size ≤ k) ∧ ¬ Q k) (.slice (some ⟨g, 0, none⟩) n c) L
 R : Kd.R k45 45 W w0.heap.size Q vr row
 D : Kd.R (Kd.int .i64) 3 W w.heap.size (fun _ => True) vd d
 B : Below w0.heap.size w0 W
 K : Kept w W P
 X : ∀ p ∈ bs, W.heap[p.1]? = some (.cells p.2 27 (0, 0))
 N : ∀ k, Q k → k < W.heap.size
section
variable {P Q : Nat → Prop} {w0 w : World} {g n c : Nat} {bs : List (Nat × Array Value)} {vr : Value} {row : List S45} {W W' : World} {L : List (List S45)} {vd vd' : Value} {d d' : List Int}
theorem TK.len (h : TK P w0 w g n c bs Q vr row W L vd d) : n = L.length := (Kd.S_reads' h.S).1
theorem TK.below (h : TK P w0 w g n c bs Q vr row W L vd d) (hb : Below W.heap.size W W') : TK P w0 w g n c bs Q vr row W' L vd d :=
 ⟨Kd.S_below h.S hb, Kd.R_below h.R hb, Kd.R_below h.D hb, below_then h.B h.B.size hb, h.K.below hb, fun p hp => blk_below (h.X p hp) hb, fun k hk => Nat.lt_of_lt_of_le (h.N k hk) hb.size⟩
theorem TK.due (h : TK P w0 w g n c bs Q vr row W L vd d) (hd : Kd.R (Kd.int .i64) 3 W w.heap.size (fun _ => True) vd' d') : TK P w0 w g n c bs Q vr row W L vd' d' := ⟨h.S, h.R, hd, h.B, h.K, h.X, h.N⟩
theorem TK.box (h : TK P w0 w g n c bs Q vr row W L vd d) {b : Nat} {cs : Array Value} (hb : (b, cs) ∈ bs) : W.heap[b]? = some (.cells cs 27 (0, 0)) := h.X (b, cs) hb
theorem TK.forget (h : TK P w0 w g n c bs Q vr row W L vd d) : TK P w0 w g n c bs (fun _ => False) (.slice none 0 0) [] W L vd d := ⟨Kd.S_mono h.S (fun _ hk => ⟨hk.1, fun h => h⟩), Kd.R_nil _ _ _ _ _, h.D, h.B, h.K, h.X, fun _ hk => hk.elim⟩
/-- how a row is written: what is kept -/
theorem TK.put (h : TK P w0 w g n c bs Q vr row W L vd d) (hw : w0.heap.size ≤ w.heap.size) (hP : ∀ k, P k → w0.heap.size ≤ k) {oki : Nat → Prop} (hok : ∀ k, oki k → ((P k ∨ w.heap.size ≤ k) ∧ ¬ Q k) ∧ k ≠ g ∧ k < W.heap.size ∧ ∃ cells, W.heap[k]? = some (.cells cells 45 (0, 0)))
  (hk : Kept W W' oki) (hB : Below w0.heap.size w0 W') (j : Nat) (v' : Value) {Q' : Nat → Prop} {vr' : Value} {row' : List S45} {L' : List (List S45)}
  (hS : Kd.S (Kd.slice 45 k45) 48 (W'.setCell ⟨g, j, none⟩ v') w0.heap.size (fun k => (P k ∨ w.heap.size ≤ k) ∧ ¬ Q' k) (.slice (some ⟨g, 0, none⟩) n c) L') (hR : Kd.R k45 45 (W'.setCell ⟨g, j, none⟩ v') w0.heap.size Q' vr' row') (hN : ∀ k, Q' k → k < W.heap.size) :
  TK P w0 w g n c bs Q' vr' row' (W'.setCell ⟨g, j, none⟩ v') L' vd d := by
 have hgl : g < W.heap.size := Kd.S_lt h.S g rfl
 have hgP : P g ∨ w.heap.size ≤ g := by obtain ⟨f, hf2⟩ := h.S; exact (hf2.1 g rfl).1
 obtain ⟨gc, hgc⟩ := Kd.S_typed h.S g rfl
 have hkeep : ∀ (b t : Nat) (cs : Array Value), t ≠ 45 → t ≠ 48 → W.heap[b]? = some (.cells cs t (0, 0)) → (W'.setCell ⟨g, j, none⟩ v').heap[b]? = some (.cells cs t (0, 0)) := by
  intro b t cs h1 h2 hb
  have hnb : ¬ oki b := fun ho => by
   obtain ⟨cells, hc⟩ := (hok b ho).2.2.2
   rw [hb] at hc
   injection hc with hc
   injection hc with _ hc
   exact h1 hc
  have hbg : b ≠ g := fun e => by
   rw [e, hgc] at hb
   injection hb with hb
   injection hb with _ hb
   exact h2 hb.symm
  exact (Below.heap_setCell W' ⟨g, j, none⟩ v' b hbg).trans ((hk.2 b (blk_lt hb) hnb).trans hb)
 refine ⟨hS, hR, ?_, ?_, ?_, fun p hp => hkeep p.1 27 p.2 (by decide) (by decide) (h.X p hp), fun k hk2 => by have := hN k hk2; have := hk.1; simp; omega⟩
 ·refine Kd.R_mono (Kd.R_step (Kd.R_tight rfl h.D) (fun k hk1 hlt => ?_)) (fun _ _ => trivial)
  obtain ⟨cells, hc⟩ := Kd.R_typed h.D k hk1.symm
  rw [hkeep k 3 cells (by decide) (by decide) hc, hc]
 ·exact hB.setCell (p := ⟨g, j, none⟩) (by rcases hgP with h1 | h1; exact hP g h1; exact Nat.le_trans hw h1) v'
 ·refine (h.K.then_ hk (fun k h1 => ?_)).setCell (p := ⟨g, j, none⟩) hgP v'
  exact (hok k h1).1.1
/-- a row, and the wheel with another row there -/
theorem TK.row_at (h : TK P w0 w g n c bs Q vr row W L vd d) (hw : w0.heap.size ≤ w.heap.size) (hP : ∀ k, P k → w0.heap.size ≤ k) (j : Nat) (hj : j < n) :
  ∃ (oki : Nat → Prop) (A : Option Addr) (c2 : Nat), Kd.R k45 45 W w0.heap.size oki (.slice A (L.getD j []).length c2) (L.getD j []) ∧ W.cell? ⟨g, j, none⟩ = some (.slice A (L.getD j []).length c2) ∧ W.frozen? ⟨g, j, none⟩ = false ∧ ¬ oki g ∧ g < W.heap.size ∧
   ∀ {W' : World} {okn : Nat → Prop} {v' : Value} {ys : List S45}, Kept W W' oki → Kd.R k45 45 W' w0.heap.size okn v' ys → (∀ k, okn k → oki k ∨ W.heap.size ≤ k) → Below w0.heap.size w0 W' →
    TK P w0 w g n c bs Q vr row (W'.setCell ⟨g, j, none⟩ v') (L.set j ys) vd d := by
 obtain ⟨oki, A, c2, hR, hx, hf, hok, hback⟩ := ws_row2 h.S j hj
 have hgl : g < W.heap.size := Kd.S_lt h.S g rfl
 have hgQ : ¬ Q g := by obtain ⟨f, hf2⟩ := h.S; exact (hf2.1 g rfl).2
 refine ⟨oki, A, c2, hR, hx, hf, fun ho => (hok g ho).2.1 rfl, hgl, fun {W' okn v' ys} hk hR' hnew hB => ?_⟩
 have hRb := Kd.R_bound h.R
 refine h.put hw hP hok hk hB j v' (hback hk (fun k h1 _ => h1) (fun k h1 => ?_) hR' hnew) ?_ h.N
 ·rcases hnew k h1 with h2 | h2
  ·exact (hok k h2).1
  ·exact ⟨.inr (Nat.le_trans h.K.1 h2), fun hq => by have := h.N k hq; omega⟩
 ·exact Kd.R_far (Kd.R_kept h.R hk (fun k h1 h2 => (hok k h2).1.2 h1)) (p := ⟨g, j, none⟩) (fun k h1 e => hgQ ((show k = g from e) ▸ h1)) v'
/-- a row is taken out of the wheel -/
theorem TK.take_out (h : TK P w0 w g n c bs (fun _ => False) (.slice none 0 0) [] W L vd d) (hw : w0.heap.size ≤ w.heap.size) (hP : ∀ k, P k → w0.heap.size ≤ k) (j : Nat) (hj : j < n) :
  ∃ (Q : Nat → Prop) (A : Option Addr) (c2 : Nat), W.cell? ⟨g, j, none⟩ = some (.slice A (L.getD j []).length c2) ∧ W.frozen? ⟨g, j, none⟩ = false ∧ TK P w0 w g n c bs Q (.slice A (L.getD j []).length c2) (L.getD j []) (W.setCell ⟨g, j, none⟩ (.slice none 0 0)) (L.set j []) vd d := by
 obtain ⟨oki, A, c2, hR, hx, hf, hok, hback⟩ := ws_row2 h.S j hj
 refine ⟨oki, A, c2, hx, hf, h.put hw hP hok (Kept.refl W oki) h.B j _ (hback (Kept.refl W oki) (fun k h1 h2 => ⟨h1.1, h2⟩) (okn := fun _ => False) (fun _ h1 => h1.elim) (Kd.R_nil _ _ _ _ _) (fun _ h1 => h1.elim)) ?_ (fun k hk => (hok k hk).2.2.1)⟩
 exact Kd.R_far hR (p := ⟨g, j, none⟩) (fun k h1 e => (hok k h1).2.1 e) _
/-- the result's box is written: a wheel and what is due, as they are -/
theorem TK.fin (h : TK P w0 w g n c bs (fun _ => False) (.slice none 0 0) [] W L vd d) {b : Nat} {cs : Array Value} (hb : (b, cs) ∈ bs) (hw : w0.heap.size ≤ w.heap.size) (hbw : w.heap.size ≤ b) (v0 v1 : Value) :
  TK P w0 w g n c [] (fun _ => False) (.slice none 0 0) [] ((W.setCell ⟨b, 0, none⟩ v0).setCell ⟨b, 1, none⟩ v1) L vd d := by
 have hB := h.X (b, cs) hb
 have hS := Kd.S_types h.S hB (by decide)
 refine ⟨Kd.S_mono (Kd.S_far (p := ⟨b, 1, none⟩) (Kd.S_far (p := ⟨b, 0, none⟩) hS (fun k hk => hk.2) v0) (fun k hk => hk.2) v1) (fun k hk => hk.1), Kd.R_nil _ _ _ _ _, ?_, (h.B.setCell (p := ⟨b, 0, none⟩) (Nat.le_trans hw hbw) v0).setCell (p := ⟨b, 1, none⟩) (Nat.le_trans hw hbw) v1, (h.K.setCell (p := ⟨b, 0, none⟩) (.inr hbw) v0).setCell (p := ⟨b, 1, none⟩) (.inr hbw) v1, fun _ hp => by simp at hp, fun _ hk => hk.elim⟩
 have hne : ∀ k, some k = vd.ownBlock → k ≠ b := fun k hk e => by
  obtain ⟨cells, hc⟩ := Kd.R_typed h.D k hk.symm
  rw [e, hB] at hc
  injection hc with hc
  injection hc with _ hc
  exact absurd hc (by decide)
 exact Kd.R_mono (Kd.R_far (p := ⟨b, 1, none⟩) (Kd.R_far (p := ⟨b, 0, none⟩) (Kd.R_tight rfl h.D) hne v0) hne v1) (fun _ _ => trivial)
/-- what is due was written in its own block: the rest stays -/
theorem TK.grow (h : TK P w0 w g n c bs Q vr row W L vd d) (hw : w0.heap.size ≤ w.heap.size) (hg : W.grownBy W' vd.ownBlock) (hd : Kd.R (Kd.int .i64) 3 W' w.heap.size (fun _ => True) vd' d') : TK P w0 w g n c bs Q vr row W' L vd' d' := by
 have hty := Kd.R_typed h.D
 have hb := Kd.R_base h.D
 refine ⟨?_, Kd.R_over' h.R hty (by decide) hg, hd, h.B.grown hg h.B.size (fun k hk => Nat.le_trans hw (hb k hk)), Kept.of_grown hg h.K (fun k hk => .inr (hb k hk)), fun p hp => (hg.block p.1 (blk_lt (h.X p hp)) (fun he => ?_)).trans (h.X p hp), fun k hk => Nat.lt_of_lt_of_le (h.N k hk) hg.size⟩
 ·cases hvo : vd.ownBlock with
  | none => exact Kd.S_step h.S (fun k _ hlt => hg.block k hlt (by rw [hvo]; simp))
  | some b =>
   obtain ⟨cells, hc⟩ := hty b hvo
   exact Kd.S_mono (Kd.S_step (Kd.S_types h.S hc (by decide)) (fun k hk hlt => hg.block k hlt (by rw [hvo]; simpa using hk.2))) (fun k hk => hk.1)
 ·obtain ⟨cells, hc⟩ := hty p.1 he.symm
  have h2 := h.X p hp
  rw [hc] at h2
  injection h2 with h2
  injection h2 with _ h2
  exact absurd h2 (by decide)
/-- a row's cell, when what is due was written -/
theorem TK.cell_grow (h : TK P w0 w g n c bs Q vr row W L vd d) {j : Nat} {v : Value} (hx : W.cell? ⟨g, j, none⟩ = some v) (hg : W.grownBy W' vd.ownBlock) : W'.cell? ⟨g, j, none⟩ = some v := by
 have hgl : g < W.heap.size := Kd.S_lt h.S g rfl
 refine (World.cell?_of_block (hg.block g hgl (fun he => ?_))).trans hx
 obtain ⟨cells, hc⟩ := Kd.R_typed h.D g he.symm
 obtain ⟨gc, hgc⟩ := Kd.S_typed h.S g rfl
 rw [hc] at hgc
 injection hgc with hgc
 injection hgc with _ hgc
 exact absurd hgc (by decide)
/-- a row, read -/
theorem TK.row_C (h : TK P w0 w g n c bs Q vr row W L vd d) (hw : w0.heap.size ≤ w.heap.size) (hP : ∀ k, P k → w0.heap.size ≤ k) (j : Nat) (hj : j < n) {A : Option Addr} {m c2 : Nat} (hx : W.cell? ⟨g, j, none⟩ = some (.slice A m c2)) : Kd.C k45 W A (L.getD j []).length (L.getD j []) := by
 obtain ⟨oki, A3, c3, hR, hx3, -⟩ := h.row_at hw hP j hj
 rw [hx] at hx3
 injection hx3 with hx3
 injection hx3 with ha
 subst ha
 exact (Kd.R_reads' hR).2.2
end
/-- the timers of a row that was taken out: due, or put where they belong -/
def tkPut (put : List Int → Int → Option (List Int)) (slot : Int → Option Int) (e : Bool) (now : Int) : List S45 → List (List S45) → List Int → Int → Option (List (List S45) × List Int × Int)
 | [], L, d, c => some (L, d, c)
 | t :: r, L, d, c => if t.f0 = now then ((put d t.f1).bind fun d2 => tkPut put slot e now r L d2 (if e = true then wrap64 (c + 1) else c)) else ((slot t.f0).bind fun s => if 0 ≤ s ∧ s < (L.length : Int) ∧ (L.getD s.toNat []).length < 4000000 then tkPut put slot e now r (L.set s.toNat (L.getD s.toNat [] ++ [t])) d (wrap64 (c + 1)) else none)
def tkLev (put : List Int → Int → Option (List Int)) (slot : Int → Option Int) (e : Bool) (now : Int) (rem sat : Int → Option Int) (lev : Int) (L : List (List S45)) (d : List Int) (c : Int) : Option (List (List S45) × List Int × Int) :=
 (rem lev).bind fun q => if q = 0 then ((sat lev).bind fun s => if 0 ≤ s ∧ s < (L.length : Int) ∧ (L.getD s.toNat []).length < 4000000 then tkPut put slot e now (L.getD s.toNat []) (L.set s.toNat []) d c else none) else some (L, d, c)
def tkDue (put : List Int → Int → Option (List Int)) (e : Bool) : List S45 → List Int → Int → Option (List Int × Int)
 | [], d, c => some (d, c)
 | t :: r, d, c => (put d t.f1).bind fun d2 => tkDue put e r d2 (if e = true then wrap64 (c + 1) else c)
def tkRest (put : List Int → Int → Option (List Int)) (slot : Int → Option Int) (e : Bool) (now : Int) (rem sat : Int → Option Int) (fin : Option Int) : Nat → List (List S45) → List Int → Int → Option (List (List S45) × List Int × Int)
 | 0, L, d, c => fin.bind fun s => if 0 ≤ s ∧ s < (L.length : Int) ∧ (L.getD s.toNat []).length < 4000000 then ((tkDue put e (L.getD s.toNat []) d c).bind fun a => some (L.set s.toNat [], a.1, a.2)) else none
 | m + 1, L, d, c => (tkLev put slot e now rem sat ((m + 1 : Nat) : Int) L d c).bind fun a => tkRest put slot e now rem sat fin m a.1 a.2.1 a.2.2
theorem tkPut_le {put put' : List Int → Int → Option (List Int)} {slot slot' : Int → Option Int} (hp : ∀ d x, LeO (put d x) (put' d x)) (hs : ∀ x, LeO (slot x) (slot' x)) (e : Bool) (now : Int) : ∀ r L d c, LeO (tkPut put slot e now r L d c) (tkPut put' slot' e now r L d c)
 | [], _, _, _ => LeO.refl _
 | t :: r, L, d, c => LeO.ite (LeO.bind (hp d t.f1) (fun _ => tkPut_le hp hs e now r _ _ _)) (LeO.bind (hs t.f0) (fun _ => LeO.ite (tkPut_le hp hs e now r _ _ _) (LeO.refl _)))
theorem tkDue_le {put put' : List Int → Int → Option (List Int)} (hp : ∀ d x, LeO (put d x) (put' d x)) (e : Bool) : ∀ r d c, LeO (tkDue put e r d c) (tkDue put' e r d c)
 | [], _, _ => LeO.refl _
 | t :: r, d, c => LeO.bind (hp d t.f1) (fun _ => tkDue_le hp e r _ _)
theorem tkRest_le {put put' : List Int → Int → Option (List Int)} {slot slot' rem rem' sat sat' : Int → Option Int} {fin fin' : Option Int} (hp : ∀ d x, LeO (put d x) (put' d x)) (hs : ∀ x, LeO (slot x) (slot' x)) (hr : ∀ x, LeO (rem x) (rem' x)) (ha : ∀ x, LeO (sat x) (sat' x)) (hf : LeO fin fin') (e : Bool) (now : Int) : ∀ m L d c, LeO (tkRest put slot e now rem sat fin m L d c) (tkRest put' slot' e now rem' sat' fin' m L d c)
 | 0, _, _, _ => LeO.bind hf (fun _ => LeO.ite (LeO.bind (tkDue_le hp e _ _ _) (fun _ => LeO.refl _)) (LeO.refl _))
 | m + 1, _, _, _ => LeO.bind (LeO.bind (hr _) (fun _ => LeO.ite (LeO.bind (ha _) (fun _ => LeO.ite (tkPut_le hp hs e now _ _ _ _) (LeO.refl _))) (LeO.refl _))) (fun _ => tkRest_le hp hs hr ha hf e now m _ _ _)
def spRem (k : Nat) (now lev : Int) : Option Int := (spec_l5Pow.f k lev).bind fun p => if p = 0 then none else some (Int.tmod now p)
def spSat (k : Nat) (now lev : Int) : Option Int := (spec_l5Pow.f k lev).bind fun p => if p = 0 then none else some (wrap64 (wrap64 (lev * 8) + Int.tmod (wrap64 (Int.tdiv now p)) 8))
def spec_l5Tick.f (k : Nat) (n0 : Int) (L : List (List S45)) : Option (Int × List (List S45) × List Int × Int) := if 0 < L.length then ((tkRest (spec_l5PutInt.f k) (spec_l5Slot.f k (wrap64 (n0 + 1))) true (wrap64 (n0 + 1)) (spRem k (wrap64 (n0 + 1))) (spSat k (wrap64 (n0 + 1))) (some (Int.tmod (wrap64 (n0 + 1)) 8)) 2 L [] 0).bind fun a => some (wrap64 (n0 + 1), a.1, a.2.1, a.2.2)) else none
theorem spec_l5Tick.mono : ∀ a0 a1 k, LeO (spec_l5Tick.f k a0 a1) (spec_l5Tick.f (k + 1) a0 a1) := fun a0 a1 k => LeO.ite (LeO.bind (tkRest_le (fun d x => spec_l5PutInt.mono d x k) (fun x => spec_l5Slot.mono _ x k) (fun x => LeO.bind (spec_l5Pow.mono x k) (fun _ => LeO.refl _)) (fun x => LeO.bind (spec_l5Pow.mono x k) (fun _ => LeO.refl _)) (LeO.refl _) true _ 2 a1 [] 0) (fun _ => LeO.refl _)) (LeO.refl _)
set_option maxHeartbeats 16000000 in
set_option maxRecDepth 100000 in
theorem spec_l5Tick.own (k : Nat) (n0 : Int) (A : Option Addr) (c : Nat) (L : List (List S45)) (r1 : Int) (r2 : List (List S45)) (r3 : List Int) (r4 : Int) (P : Nat → Prop) (w0 w : World) (hB : Below w0.heap.size w0 w) (hP : ∀ k, P k → w0.heap.size ≤ k) (hS : Kd.S (Kd.slice 45 k45) 48 w w0.heap.size P (.slice A L.length c) L) (h : spec_l5Tick.f k n0 L = some (r1, r2, r3, r4)) :
  Calls Try.prog 68 #[.agg #[.int .i64 n0, .slice A L.length c]] w fun e w' => ∃ vd : Value, e = .returned (.tuple #[.agg #[.int .i64 r1, .slice A L.length c], vd, .int .i64 r4]) ∧ Kd.S (Kd.slice 45 k45) 48 w' w0.heap.size (fun k => P k ∨ w.heap.size ≤ k) (.slice A L.length c) r2 ∧ Kd.R (Kd.int .i64) 3 w' w.heap.size (fun _ => True) vd r3 ∧ Below w0.heap.size w0 w' ∧ Kept w w' P := by
 have hu27 := Try.underlying27
 have hu45 := Try.underlying45
 unfold spec_l5Tick.f at h
 by_cases hl : 0 < L.length
 case neg => rw [if_neg hl] at h; cases h
 rw [if_pos hl] at h
 replace h := Option.bind_eq_some_iff.1 h
 obtain ⟨⟨a1, a2, a3⟩, hF, h⟩ := h
 simp only [Option.some.injEq, Prod.mk.injEq] at h
 obtain ⟨hr1, rfl, rfl, rfl⟩ := h
 obtain ⟨g, cap, hv, hbg, hgl, _⟩ := Kd.S_form hS hl
 injection hv with ha he_ hc
 subst ha
 subst hc
 clear he_ hl
 obtain ⟨now, hnow⟩ : ∃ now, now = wrap64 (n0 + 1) := ⟨_, rfl⟩
 rw [← hnow] at hF hr1
 subst hr1
 obtain ⟨n, hn⟩ : ∃ n, n = L.length := ⟨_, rfl⟩
 rw [← hn]
 rw [← hn] at hS
 have HN := Aside0.mk hn
 have HNOW := Aside0.mk hnow
 have HF := Aside0.mk hF
 have HP := Aside0.mk hP
 have HB := Aside0.mk hB
 have HW := Aside0.mk hB.size
 have HS := Aside0.mk hS
 clear hn hF hP hB hS hbg hgl hnow
 go_enter Try.func68, Try.ntmps68
 go_wp2
 rw [← HNOW.out]
 obtain ⟨bs, hbs⟩ : ∃ bs : List (Nat × Array Value), bs = [(w.heap.size, #[.int .i64 now, .slice (some ⟨g, 0, none⟩) n c]), (w.heap.size + 1, #[.int .i64 0, .slice none 0 0])] := ⟨_, rfl⟩
 have HX0 : Aside0 ((w.heap.size, #[.int .i64 now, .slice (some ⟨g, 0, none⟩) n c]) ∈ bs) := ⟨by rw [hbs]; simp⟩
 have HX1 : Aside0 ((w.heap.size + 1, #[.int .i64 0, .slice none 0 0]) ∈ bs) := ⟨by rw [hbs]; simp⟩
 have HTK : Aside0 (TK P w0 w g n c bs (fun _ => False) (.slice none 0 0) [] ((w.alloc (.cells #[.int .i64 now, .slice (some ⟨g, 0, none⟩) n c] 27)).alloc (.cells #[.int .i64 0, .slice none 0 0] 27)) L (.slice none 0 0) []) := ⟨⟨Kd.S_mono (Kd.S_bound (Kd.S_alloc (Kd.S_alloc HS.out _) _)) (fun k hk => ⟨.inl hk.1, fun h => h⟩), Kd.R_nil _ _ _ _ _, Kd.R_nil _ _ _ _ _, below_then HB.out HB.out.size (below_alloc (below_alloc (Below.refl _ _) _) _), Kept.of_below (below_alloc (below_alloc (Below.refl _ _) _) _) _, fun p hp => by
  rw [hbs] at hp
  simp only [List.mem_cons, List.not_mem_nil, or_false] at hp
  rcases hp with rfl | rfl
  ·exact blk_alloc (heap_alloc_new _ _) _
  ·have h_ := heap_alloc_new (w.alloc (.cells #[.int .i64 now, .slice (some ⟨g, 0, none⟩) n c] 27)) (.cells #[.int .i64 0, .slice none 0 0] 27); simpa using h_, fun _ hk => hk.elim⟩⟩
 clear hbs HS
 go_loopg [5, 6, 7] 3 (fun kq v5 v6 v7 w' => ∃ (m : Nat) (lev cnt : Int) (vd : Value) (d : List Int) (L1 : List (List S45)), v5 = vd ∧ v6 = .int .i64 cnt ∧ v7 = .int .i64 lev ∧ Aside0 (lev = (m : Int) ∧ m < kq ∧ m ≤ 2) ∧ Aside0 (TK P w0 w g n c bs (fun _ => False) (.slice none 0 0) [] w' L1 vd d) ∧ Aside0 (tkRest (spec_l5PutInt.f k) (spec_l5Slot.f k now) true now (spRem k now) (spSat k now) (some (Int.tmod now 8)) m L1 d cnt = some (a1, a2, a3)))
 case atStart => exact ⟨2, 2, 0, _, [], L, rfl, rfl, rfl, ⟨rfl, by omega, by omega⟩, HTK, HF⟩
 case round =>
  clear HTK HF
  obtain ⟨m, lev, cnt, vd, d, L1, rfl, rfl, rfl, HM, HTK, HF⟩ := hrel
  cases gk with
  | zero => exact absurd HM.out.2.1 (by omega)
  | succ k1 =>
  cases m with
  | zero =>
   have hlev : lev = 0 := HM.out.1
   subst hlev
   have hF := HF.out
   obtain ⟨s, hs⟩ : ∃ s, now.tmod 8 = s := ⟨_, rfl⟩
   simp only [tkRest, Option.bind_some, hs] at hF
   by_cases hsb : 0 ≤ s ∧ s < (L1.length : Int) ∧ (L1.getD s.toNat []).length < 4000000
   case neg => rw [if_neg hsb] at hF; cases hF
   rw [if_pos hsb] at hF
   replace hF := Option.bind_eq_some_iff.1 hF
   obtain ⟨⟨e1, e2⟩, hDue, hF⟩ := hF
   simp only [Option.some.injEq, Prod.mk.injEq] at hF
   obtain ⟨rfl, rfl, rfl⟩ := hF
   have HSB := Aside0.mk hsb
   have HNL := Aside0.mk HTK.out.len
   obtain ⟨oki, A2, c2, hR, hx, -⟩ := HTK.out.row_at HW.out HP.out s.toNat (by rw [HNL.out]; have := HSB.out; omega)
   obtain ⟨row, hrow⟩ : ∃ row, row = L1.getD s.toNat [] := ⟨_, rfl⟩
   rw [← hrow] at hR hx hDue HSB
   have HC2 := Aside0.mk (Kd.R_reads' hR).2.2
   have HIN := Aside0.mk hDue
   have hz0 : wr.cell? ⟨w.heap.size, 0, none⟩ = some (.int .i64 now) := (blk_cell (HTK.out.box HX0.out) 0).trans rfl
   have hz1 : wr.cell? ⟨w.heap.size, 1, none⟩ = some (.slice (some ⟨g, 0, none⟩) n c) := (blk_cell (HTK.out.box HX0.out) 1).trans rfl
   have hs0 : decide (0 ≤ s) = true := decide_eq_true HSB.out.1
   have hs1 : (s < (n : Int)) = True := eq_true (by rw [HNL.out]; exact HSB.out.2.1)
   have hs2 : decide (s < (n : Int)) = true := decide_eq_true (by rw [HNL.out]; exact HSB.out.2.1)
   have hs3 : (0 ≤ s) = True := eq_true HSB.out.1
   clear hrow hR hDue hsb HF
   go_wp2
   clear hz0 hz1 hx
   go_loopg [5, 6, 92] row.length (fun kq v5 v6 v92 w' => ∃ (x cnt : Int) (vd : Value) (d : List Int), v5 = vd ∧ v6 = .int .i64 cnt ∧ v92 = .int .i64 x ∧ Aside0 (0 ≤ x ∧ x.toNat + kq = row.length) ∧ Aside0 (TK P w0 w g n c bs (fun _ => False) (.slice none 0 0) [] w' L1 vd d) ∧ Aside0 (Kd.C k45 w' A2 row.length row) ∧ Aside0 (tkDue (spec_l5PutInt.f k) true (row.drop x.toNat) d cnt = some (e1, e2)))
   case atStart => exact ⟨0, cnt, _, d, rfl, rfl, rfl, ⟨by omega, by simp⟩, HTK, HC2, ⟨by simpa using HIN.out⟩⟩
   case round =>
    clear HTK HIN HC2
    obtain ⟨x, cnt2, vd2, d2, rfl, rfl, rfl, HJ, HTK, HC2, HIN⟩ := hrel
    by_cases hlt : x < (row.length : Int)
    ·have p8 : 0 ≤ x := HJ.out.1
     obtain ⟨ad, e0, hx0, hx1⟩ := at_T45 HC2.out x p8 hlt
     cases e0
     have hltb : decide (x < (row.length : Int)) = true := decide_eq_true hlt
     have HJ2 := Aside0.mk hlt
     replace p8 := eq_true p8
     have q8 := eq_true hlt
     obtain ⟨t, ht⟩ : ∃ t, t = rd_T45 row x := ⟨_, rfl⟩
     rw [← ht] at hx0 hx1
     have hdr : row.drop x.toNat = t :: row.drop (x.toNat + 1) := by
      have hl2 : x.toNat < row.length := by have := HJ.out.1; omega
      rw [List.drop_eq_getElem_cons hl2, ht]
      unfold rd_T45
      rw [List.getD_eq_getElem?_getD, List.getElem?_eq_getElem hl2]; rfl
     have hI := HIN.out
     rw [hdr] at hI
     simp only [tkDue] at hI
     replace hI := Option.bind_eq_some_iff.1 hI
     obtain ⟨d3, hpi, hI⟩ := hI
     have HPI := Aside0.mk hpi
     clear hdr ht hlt HIN hpi
     have HIN := Aside0.mk hI
     clear hI
     have HBA := Aside0.mk (below_alloc (Below.refl wr.heap.size wr) (.cells #[.int .i64 t.f0, .int .i64 t.f1] 45))
     have HTA := Aside0.mk (HTK.out.below HBA.out)
     have HW2 := Aside0.mk (show wrap64 (x + 1) = x + 1 by unfold wrap64; have := HJ2.out; have := HJ.out.1; have := HSB.out.2.2; omega)
     cases gk with
     | zero => exact absurd HJ.out.2 (by have := HJ2.out; have := HJ.out.1; omega)
     | succ k2 =>
      obtain ⟨Ad, cd, rfl, hcd, hCd⟩ := Kd.R_reads HTA.out.D
      have HCD := Aside0.mk hCd
      have HCDL := Aside0.mk hcd
      clear hcd hCd
      go_wp2_with (go_at_call 81; refine (spec_l5PutInt.calls k Ad cd d2 t.f1 d3 _ HCD.out HCDL.out HPI.out).mono ?_; rintro e w2 ⟨vd3, rfl, hr3, hb3⟩; have HTB := Aside0.mk ((HTA.out.below hb3).due (Kd.R_lower hr3 HTA.out.K.1)); have HCB := Aside0.mk (Kd.C_below (Kd.C_below HC2.out HBA.out) hb3); clear hr3 hb3)
      go_roundg k2
      case measure => omega
      case rel =>
       refine ⟨wrap64 (x + 1), _, _, d3, rfl, rfl, rfl, ⟨?_, ?_⟩, HTB, HCB, ⟨?_⟩⟩
       ·rw [HW2.out]; have := HJ.out.1; omega
       ·rw [HW2.out]; have := HJ.out; omega
       ·rw [HW2.out, show (x + 1).toNat = x.toNat + 1 by have := HJ.out.1; omega]; exact HIN.out
    ·have hltb : decide (x < (row.length : Int)) = false := decide_eq_false hlt
     have HJ2 := Aside0.mk hlt
     clear hlt
     have hI := HIN.out
     rw [List.drop_of_length_le (by have := HJ2.out; have := HJ.out.1; omega)] at hI
     simp only [tkDue, Option.some.injEq, Prod.mk.injEq] at hI
     obtain ⟨rfl, rfl⟩ := hI
     obtain ⟨Q, A3, c3, hx, hf, htk⟩ := HTK.out.take_out HW.out HP.out s.toNat (by rw [HNL.out]; have := HSB.out; omega)
     have HTE := Aside0.mk (htk.forget.fin HX1.out HW.out (Nat.le_succ _) (.int .i64 now) (.slice (some ⟨g, 0, none⟩) n c))
     have hz0 : wr.cell? ⟨w.heap.size, 0, none⟩ = some (.int .i64 now) := (blk_cell (HTK.out.box HX0.out) 0).trans rfl
     have hz1 : wr.cell? ⟨w.heap.size, 1, none⟩ = some (.slice (some ⟨g, 0, none⟩) n c) := (blk_cell (HTK.out.box HX0.out) 1).trans rfl
     have hz2 : wr.cell? ⟨w.heap.size + 1, 0, none⟩ = some (.int .i64 0) := (blk_cell (HTK.out.box HX1.out) 0).trans rfl
     have hz3 : wr.cell? ⟨w.heap.size + 1, 1, none⟩ = some (.slice none 0 0) := (blk_cell (HTK.out.box HX1.out) 1).trans rfl
     have hz4 := blk_frozen (HTK.out.box HX1.out) 0
     have hz5 := blk_frozen (HTK.out.box HX1.out) 1
     have hg0 : (w.heap.size = g) = False := eq_false (by intro he; have h2 := Kd.S_ne HTK.out.S (HTK.out.box HX0.out) (by decide); simp [Value.ownBlock] at h2; first | exact h2 he | exact h2 he.symm)
     have hg1 : (w.heap.size + 1 = g) = False := eq_false (by intro he; have h2 := Kd.S_ne HTK.out.S (HTK.out.box HX1.out) (by decide); simp [Value.ownBlock] at h2; first | exact h2 he | exact h2 he.symm)
     have hg0' : (g = w.heap.size) = False := eq_false (fun he => (of_eq_false hg0) he.symm)
     have hg1' : (g = w.heap.size + 1) = False := eq_false (fun he => (of_eq_false hg1) he.symm)
     have HG1 := Aside0.mk (of_eq_false hg1)
     have B1 := Aside0.mk (HTK.out.box HX1.out)
     clear htk
     go_wp2
     refine bodyPost_ret (results_ctt rfl _ _ (w.heap.size + 1) 27 #[.int .i64 now, .slice (some ⟨g, 0, none⟩) n c] (0, 0) _ rfl (by refine blk_put (cs := #[.int .i64 now, .slice none 0 0]) ?_ 1 _ rfl; refine blk_put (cs := #[.int .i64 0, .slice none 0 0]) ?_ 0 _ rfl; exact blk_far B1.out (p := ⟨g, s.toNat, none⟩) HG1.out _) Try.underlying27 rfl (by kernel_rfl)) rfl ?_
     exact ⟨_, rfl, Kd.S_mono HTE.out.S (fun _ hk => hk.1), HTE.out.D, HTE.out.B, HTE.out.K⟩
  | succ m =>
   have hF := HF.out
   simp only [tkRest] at hF
   replace hF := Option.bind_eq_some_iff.1 hF
   obtain ⟨⟨b1, b2, b3⟩, hLev, hF⟩ := hF
   have HF2 := Aside0.mk hF
   unfold tkLev at hLev
   replace hLev := Option.bind_eq_some_iff.1 hLev
   obtain ⟨q, hq, hLev⟩ := hLev
   unfold spRem at hq
   replace hq := Option.bind_eq_some_iff.1 hq
   obtain ⟨p, hp, hq⟩ := hq
   rw [← HM.out.1] at hp
   have HPW := Aside0.mk hp
   by_cases hp0 : p = 0
   case pos => rw [if_pos hp0] at hq; cases hq
   rw [if_neg hp0] at hq
   have hq2 := Option.some.inj hq
   have hpb : (p == 0) = false := beq_eq_false_iff_ne.mpr hp0
   have hpf : (p = 0) = False := eq_false hp0
   have hl0 : decide (lev > 0) = true := decide_eq_true (by have := HM.out; omega)
   have hl1 : decide (0 < lev) = true := decide_eq_true (by have := HM.out; omega)
   have HLQ := Aside0.mk hLev
   have HQ2 := Aside0.mk hq2
   have HP0 := Aside0.mk hp0
   clear hF HF hp hq hLev hq2 hp0
   have hdec : wrap64 (lev - 1) = (m : Int) := by have h1 := HM.out.1; have h2 := HM.out.2; unfold wrap64; omega
   have HDEC := Aside0.mk hdec
   clear hdec
   go_wp2
   refine start_ (n := 6) (S := fun w' => w'.cell? ⟨w.heap.size, 0, none⟩ = some (.int .i64 now)) (ds := []) #[false, false, false, false, false, false] (by kernel_rfl) rfl rfl ((blk_cell (TK.box HTK.out HX0.out) 0).trans rfl) (fun hHeld => ?_)
   have nTK := Aside0.mk (HTK.out.below (below_drew1 (Below.refl _ _)))
   clear HTK
   generalize World.drew wr = wa at nTK hHeld ⊢
   have HTK := nTK
   clear nTK
   refine pure_ (i := 0) (N := some 24) (v := ?_) (a' := ?_) #[true, false, false, false, false, false] rfl rfl (by kernel_rfl) (fun _ _ _ h => h) (Or.inl ⟨by rfl, ?_⟩) ?_ ?_
   rotate_left
   ·intro w'
    go_simp
    with_reducible rfl
   rotate_left
   ·simp only [Act.put, List.setIfInBounds_toArray, List.set_cons_zero, List.set_cons_succ, i64_w, i32_w]
    rfl
   refine take_ (i := 1) (N := some 25) (v := ?_) (a' := ?_) #[true, true, false, false, false, false] rfl rfl (by kernel_rfl) (fun _ _ _ h => h) (Or.inl ⟨by rfl, ?_⟩) hHeld ?_ ?_
   rotate_left
   ·rintro w' s0
    go_simp
    with_reducible rfl
   rotate_left
   ·simp only [Act.put, List.setIfInBounds_toArray, List.set_cons_zero, List.set_cons_succ, i64_w, i32_w]
    rfl
   refine pure_ (i := 2) (N := some 26) (v := ?_) (a' := ?_) #[true, true, true, false, false, false] rfl rfl (by kernel_rfl) (fun _ _ _ h => h) (Or.inl ⟨by rfl, ?_⟩) ?_ ?_
   rotate_left
   ·intro w'
    go_simp
    with_reducible rfl
   rotate_left
   ·simp only [Act.put, List.setIfInBounds_toArray, List.set_cons_zero, List.set_cons_succ, i64_w, i32_w]
    rfl
   refine one_ (i := 3) (N := some 27) #[true, true, true, true, false, false] rfl rfl (by kernel_rfl) (by decide) (fun K hK => ?_)
   refine goes_ Try.func51 (by kernel_rfl) rfl #[.int .i64 lev] (by rfl) rfl rfl (by (try simp only [List.map_toArray, List.map_cons, List.map_nil]); first | done | rfl) ?_
   refine (spec_l5Pow.calls k lev p _ HPW.out).mono ?_
   rintro e w' ⟨rfl, ⟨nd, rfl⟩⟩
   refine ⟨_, rfl, ?_⟩
   have nTK := Aside0.mk (HTK.out.below (pw_below_drewN (Below.refl _ _) nd))
   clear HTK
   refine hK.out _ _ ((blk_cell (TK.box nTK.out HX0.out) 0).trans rfl) (fun hHeld => ?_)
   clear hK K
   refine norm_ (a' := ?_) ?_ ?_
   rotate_left
   ·show Act.put _ (some 27) _ = _
    simp only [Act.put, List.setIfInBounds_toArray, List.set_cons_zero, List.set_cons_succ, i64_w, i32_w]
    rfl
   generalize World.drewN wa nd = wb at nTK hHeld ⊢
   have HTK := nTK
   clear nTK
   refine pure_ (i := 4) (N := some 28) (v := ?_) (a' := ?_) #[true, true, true, true, true, false] rfl rfl (by kernel_rfl) (fun _ _ _ h => h) (Or.inl ⟨by rfl, ?_⟩) ?_ ?_
   rotate_left
   ·intro w'
    go_simp
    with_reducible rfl
   rotate_left
   ·simp only [Act.put, List.setIfInBounds_toArray, List.set_cons_zero, List.set_cons_succ, i64_w, i32_w]
    rfl
   refine pure_ (i := 5) (N := some 29) (v := ?_) (a' := ?_) #[true, true, true, true, true, true] rfl rfl (by kernel_rfl) (fun _ _ _ h => h) (Or.inl ⟨by rfl, ?_⟩) ?_ ?_
   rotate_left
   ·intro w'
    go_simp
    with_reducible rfl
   rotate_left
   ·simp only [Act.put, List.setIfInBounds_toArray, List.set_cons_zero, List.set_cons_succ, i64_w, i32_w]
    rfl
   refine done_ (by kernel_rfl) ?_
   clear hHeld
   by_cases hq0 : q = 0
   case neg =>
    have hqb : (now.tmod p != 0) = true := by rw [HQ2.out]; exact bne_iff_ne.mpr hq0
    have hL := HLQ.out
    rw [if_neg hq0] at hL
    simp only [Option.some.injEq, Prod.mk.injEq] at hL
    obtain ⟨rfl, rfl, rfl⟩ := hL
    clear hq0
    go_wp2
    go_roundg k1
    case measure => omega
    case rel => exact ⟨m, wrap64 (lev - 1), cnt, _, d, L1, rfl, rfl, rfl, ⟨HDEC.out, by have := HM.out; omega, by have := HM.out; omega⟩, HTK, HF2⟩
   case pos =>
    have hqb : (now.tmod p != 0) = false := by rw [HQ2.out, hq0]; rfl
    have hL := HLQ.out
    rw [if_pos hq0] at hL
    replace hL := Option.bind_eq_some_iff.1 hL
    obtain ⟨s, hs, hL⟩ := hL
    unfold spSat at hs
    rw [← HM.out.1, HPW.out, Option.bind_some, if_neg HP0.out] at hs
    have HSE := Aside0.mk (Option.some.inj hs)
    by_cases hsb : 0 ≤ s ∧ s < (L1.length : Int) ∧ (L1.getD s.toNat []).length < 4000000
    case neg => rw [if_neg hsb] at hL; cases hL
    rw [if_pos hsb] at hL
    have HSB := Aside0.mk hsb
    have HIN := Aside0.mk hL
    clear hs hsb hL HLQ hq0
    simp only [hqb]
    go_wp2
    refine start_ (n := 10) (S := fun w' => w'.cell? ⟨w.heap.size, 0, none⟩ = some (.int .i64 now)) (ds := []) #[false, false, false, false, false, false, false, false, false, false] (by kernel_rfl) rfl rfl ((blk_cell (TK.box HTK.out HX0.out) 0).trans rfl) (fun hHeld => ?_)
    have nTK := Aside0.mk (HTK.out.below (below_drew1 (Below.refl _ _)))
    clear HTK
    generalize World.drew wb = wc_ at nTK hHeld ⊢
    have HTK := nTK
    clear nTK
    refine pure_ (i := 0) (N := some 30) (v := ?_) (a' := ?_) #[true, false, false, false, false, false, false, false, false, false] rfl rfl (by kernel_rfl) (fun _ _ _ h => h) (Or.inl ⟨by rfl, ?_⟩) ?_ ?_
    rotate_left
    ·intro w'
     go_simp
     with_reducible rfl
    rotate_left
    ·simp only [Act.put, List.setIfInBounds_toArray, List.set_cons_zero, List.set_cons_succ, i64_w, i32_w]
     rfl
    refine pure_ (i := 1) (N := some 31) (v := ?_) (a' := ?_) #[true, true, false, false, false, false, false, false, false, false] rfl rfl (by kernel_rfl) (fun _ _ _ h => h) (Or.inl ⟨by rfl, ?_⟩) ?_ ?_
    rotate_left
    ·intro w'
     go_simp
     with_reducible rfl
    rotate_left
    ·simp only [Act.put, List.setIfInBounds_toArray, List.set_cons_zero, List.set_cons_succ, i64_w, i32_w]
     rfl
    refine pure_ (i := 2) (N := some 32) (v := ?_) (a' := ?_) #[true, true, true, false, false, false, false, false, false, false] rfl rfl (by kernel_rfl) (fun _ _ _ h => h) (Or.inl ⟨by rfl, ?_⟩) ?_ ?_
    rotate_left
    ·intro w'
     go_simp
     with_reducible rfl
    rotate_left
    ·simp only [Act.put, List.setIfInBounds_toArray, List.set_cons_zero, List.set_cons_succ, i64_w, i32_w]
     rfl
    refine take_ (i := 3) (N := some 33) (v := ?_) (a' := ?_) #[true, true, true, true, false, false, false, false, false, false] rfl rfl (by kernel_rfl) (fun _ _ _ h => h) (Or.inl ⟨by rfl, ?_⟩) hHeld ?_ ?_
    rotate_left
    ·rintro w' s0
     go_simp
     with_reducible rfl
    rotate_left
    ·simp only [Act.put, List.setIfInBounds_toArray, List.set_cons_zero, List.set_cons_succ, i64_w, i32_w]
     rfl
    refine pure_ (i := 4) (N := some 34) (v := ?_) (a' := ?_) #[true, true, true, true, true, false, false, false, false, false] rfl rfl (by kernel_rfl) (fun _ _ _ h => h) (Or.inl ⟨by rfl, ?_⟩) ?_ ?_
    rotate_left
    ·intro w'
     go_simp
     with_reducible rfl
    rotate_left
    ·simp only [Act.put, List.setIfInBounds_toArray, List.set_cons_zero, List.set_cons_succ, i64_w, i32_w]
     rfl
    refine one_ (i := 5) (N := some 35) #[true, true, true, true, true, true, false, false, false, false] rfl rfl (by kernel_rfl) (by decide) (fun K hK => ?_)
    refine goes_ Try.func51 (by kernel_rfl) rfl #[.int .i64 lev] (by rfl) rfl rfl (by (try simp only [List.map_toArray, List.map_cons, List.map_nil]); first | done | rfl) ?_
    refine (spec_l5Pow.calls k lev p _ HPW.out).mono ?_
    rintro e w' ⟨rfl, ⟨nd, rfl⟩⟩
    refine ⟨_, rfl, ?_⟩
    have nTK := Aside0.mk (HTK.out.below (pw_below_drewN (Below.refl _ _) nd))
    clear HTK
    refine hK.out _ _ ((blk_cell (TK.box nTK.out HX0.out) 0).trans rfl) (fun hHeld => ?_)
    clear hK K
    refine norm_ (a' := ?_) ?_ ?_
    rotate_left
    ·show Act.put _ (some 35) _ = _
     simp only [Act.put, List.setIfInBounds_toArray, List.set_cons_zero, List.set_cons_succ, i64_w, i32_w]
     rfl
    generalize World.drewN wc_ nd = wd at nTK hHeld ⊢
    have HTK := nTK
    clear nTK
    refine pure_ (i := 6) (N := some 36) (v := ?_) (a' := ?_) #[true, true, true, true, true, true, true, false, false, false] rfl rfl (by kernel_rfl) (fun _ _ _ h => h) (Or.inl ⟨by rfl, ?_⟩) ?_ ?_
    rotate_left
    ·intro w'
     go_simp
     with_reducible rfl
    rotate_left
    ·simp only [Act.put, List.setIfInBounds_toArray, List.set_cons_zero, List.set_cons_succ, i64_w, i32_w]
     rfl
    refine pure_ (i := 7) (N := some 37) (v := ?_) (a' := ?_) #[true, true, true, true, true, true, true, true, false, false] rfl rfl (by kernel_rfl) (fun _ _ _ h => h) (Or.inl ⟨by rfl, ?_⟩) ?_ ?_
    rotate_left
    ·intro w'
     go_simp
     with_reducible rfl
    rotate_left
    ·simp only [Act.put, List.setIfInBounds_toArray, List.set_cons_zero, List.set_cons_succ, i64_w, i32_w]
     rfl
    refine pure_ (i := 8) (N := some 38) (v := ?_) (a' := ?_) #[true, true, true, true, true, true, true, true, true, false] rfl rfl (by kernel_rfl) (fun _ _ _ h => h) (Or.inl ⟨by rfl, ?_⟩) ?_ ?_
    rotate_left
    ·intro w'
     go_simp
     with_reducible rfl
    rotate_left
    ·simp only [Act.put, List.setIfInBounds_toArray, List.set_cons_zero, List.set_cons_succ, i64_w, i32_w]
     rfl
    refine pure_ (i := 9) (N := some 8) (v := ?_) (a' := ?_) #[true, true, true, true, true, true, true, true, true, true] rfl rfl (by kernel_rfl) (fun _ _ _ h => h) (Or.inl ⟨by rfl, ?_⟩) ?_ ?_
    rotate_left
    ·intro w'
     go_simp
     with_reducible rfl
    rotate_left
    ·simp only [Act.put, List.setIfInBounds_toArray, List.set_cons_zero, List.set_cons_succ, i64_w, i32_w]
     rfl
    refine done_ (by kernel_rfl) ?_
    clear hHeld
    rw [HSE.out]
    have HNL := Aside0.mk HTK.out.len
    obtain ⟨Q, A2, c2, hx, hf, htk⟩ := HTK.out.take_out HW.out HP.out s.toNat (by rw [HNL.out]; have := HSB.out; omega)
    have HTK2 := Aside0.mk htk
    have hz1 : wd.cell? ⟨w.heap.size, 1, none⟩ = some (.slice (some ⟨g, 0, none⟩) n c) := (blk_cell (HTK.out.box HX0.out) 1).trans rfl
    obtain ⟨row, hrow⟩ : ∃ row, row = L1.getD s.toNat [] := ⟨_, rfl⟩
    rw [← hrow] at HTK2 HIN HSB hx
    clear htk hrow
    have hs0 : decide (0 ≤ s) = true := decide_eq_true HSB.out.1
    have hs1 : (s < (n : Int)) = True := eq_true (by rw [HNL.out]; exact HSB.out.2.1)
    have hs2 : decide (s < (n : Int)) = true := decide_eq_true (by rw [HNL.out]; exact HSB.out.2.1)
    have hs3 : (0 ≤ s) = True := eq_true HSB.out.1
    go_wp2
    clear hz1 hx hf HTK
    go_loopg [5, 6, 50] row.length (fun kq v5 v6 v50 w' => ∃ (x cnt : Int) (vd : Value) (d : List Int) (L2 : List (List S45)), v5 = vd ∧ v6 = .int .i64 cnt ∧ v50 = .int .i64 x ∧ Aside0 (0 ≤ x ∧ x.toNat + kq = row.length) ∧ Aside0 (TK P w0 w g n c bs Q (.slice A2 row.length c2) row w' L2 vd d) ∧ Aside0 (tkPut (spec_l5PutInt.f k) (spec_l5Slot.f k now) true now (row.drop x.toNat) L2 d cnt = some (b1, b2, b3)))
    case atStart => exact ⟨0, cnt, _, d, L1.set s.toNat [], rfl, rfl, rfl, ⟨by omega, by simp⟩, HTK2, ⟨by simpa using HIN.out⟩⟩
    case round =>
     clear HTK2 HIN HSE
     obtain ⟨x, cnt2, vd2, d2, L2, rfl, rfl, rfl, HJ, HTK, HIN⟩ := hrel
     by_cases hlt : x < (row.length : Int)
     ·have p8 : 0 ≤ x := HJ.out.1
      obtain ⟨ad, e0, hx0, hx1⟩ := at_T45 (Kd.R_reads' HTK.out.R).2.2 x p8 hlt
      cases e0
      have hltb : decide (x < (row.length : Int)) = true := decide_eq_true hlt
      have HJ2 := Aside0.mk hlt
      replace p8 := eq_true p8
      have q8 := eq_true hlt
      obtain ⟨t, ht⟩ : ∃ t, t = rd_T45 row x := ⟨_, rfl⟩
      rw [← ht] at hx0 hx1
      have hdr : row.drop x.toNat = t :: row.drop (x.toNat + 1) := by
       have hl2 : x.toNat < row.length := by have := HJ.out.1; omega
       rw [List.drop_eq_getElem_cons hl2, ht]
       unfold rd_T45
       rw [List.getD_eq_getElem?_getD, List.getElem?_eq_getElem hl2]; rfl
      have hI := HIN.out
      rw [hdr] at hI
      simp only [tkPut] at hI
      clear hdr ht hlt HIN
      have HTA := Aside0.mk (HTK.out.below (below_alloc (Below.refl wr.heap.size wr) (.cells #[.int .i64 t.f0, .int .i64 t.f1] 45)))
      have HBT : Aside0 ((wr.alloc (.cells #[.int .i64 t.f0, .int .i64 t.f1] 45)).heap[wr.heap.size]? = some (.cells #[.int .i64 t.f0, .int .i64 t.f1] 45 (0, 0))) := ⟨heap_alloc_new _ _⟩
      have hzn : (wr.alloc (.cells #[.int .i64 t.f0, .int .i64 t.f1] 45)).cell? ⟨w.heap.size, 0, none⟩ = some (.int .i64 now) := (blk_cell (HTA.out.box HX0.out) 0).trans rfl
      have HW2 := Aside0.mk (show wrap64 (x + 1) = x + 1 by unfold wrap64; have := HJ2.out; have := HJ.out.1; have := HSB.out.2.2; omega)
      cases gk with
      | zero => exact absurd HJ.out.2 (by have := HJ2.out; have := HJ.out.1; omega)
      | succ k2 =>
      by_cases hdue : t.f0 = now
      ·rw [if_pos hdue] at hI
       replace hI := Option.bind_eq_some_iff.1 hI
       obtain ⟨d3, hpi, hI⟩ := hI
       have HPI := Aside0.mk hpi
       have HIN := Aside0.mk hI
       have hdb : (t.f0 == now) = true := beq_iff_eq.mpr hdue
       obtain ⟨Ad, cd, rfl, hcd, hCd⟩ := Kd.R_reads HTA.out.D
       have HCD := Aside0.mk hCd
       have HCDL := Aside0.mk hcd
       clear hpi hI hdue hcd hCd
       go_wp2_with (go_at_call 81; refine (spec_l5PutInt.calls k Ad cd d2 t.f1 d3 _ HCD.out HCDL.out HPI.out).mono ?_; rintro e w2 ⟨vd3, rfl, hr3, hb3⟩; have HTB := Aside0.mk ((HTA.out.below hb3).due (Kd.R_lower hr3 HTA.out.K.1)); clear hr3 hb3)
       go_roundg k2
       case measure => omega
       case rel =>
        refine ⟨wrap64 (x + 1), _, _, d3, L2, rfl, rfl, rfl, ⟨?_, ?_⟩, HTB, ⟨?_⟩⟩
        ·rw [HW2.out]; have := HJ.out.1; omega
        ·rw [HW2.out]; have := HJ.out; omega
        ·rw [HW2.out, show (x + 1).toNat = x.toNat + 1 by have := HJ.out.1; omega]; exact HIN.out
      ·rw [if_neg hdue] at hI
       replace hI := Option.bind_eq_some_iff.1 hI
       obtain ⟨s2, hsl, hI⟩ := hI
       by_cases hsb2 : 0 ≤ s2 ∧ s2 < (L2.length : Int) ∧ (L2.getD s2.toNat []).length < 4000000
       case neg => rw [if_neg hsb2] at hI; cases hI
       rw [if_pos hsb2] at hI
       have HSL := Aside0.mk hsl
       have HSB2 := Aside0.mk hsb2
       have HIN := Aside0.mk hI
       have hdb : (t.f0 == now) = false := beq_eq_false_iff_ne.mpr hdue
       have HNL2 := Aside0.mk HTK.out.len
       obtain ⟨oki, A3, c3, hR3, hx3, hf3, hog, hgw, hback⟩ := HTK.out.row_at HW.out HP.out s2.toNat (by rw [HNL2.out]; have := hsb2; omega)
       obtain ⟨row3, hrow3⟩ : ∃ row3, row3 = L2.getD s2.toNat [] := ⟨_, rfl⟩
       rw [← hrow3] at hR3 hx3 HSB2 HIN
       have HROW3 := Aside0.mk hrow3
       have HR3 := Aside0.mk hR3
       have HX3 := Aside0.mk hx3
       have HF3 := Aside0.mk hf3
       have HOG := Aside0.mk hog
       have HGW := Aside0.mk hgw
       have HBK := Aside0.mk (fun {W' : World} {okn : Nat → Prop} {v' : Value} {ys : List S45} => hback (W' := W') (okn := okn) (v' := v') (ys := ys))
       have hs20 : decide (0 ≤ s2) = true := decide_eq_true HSB2.out.1
       have hs21 : (s2 < (n : Int)) = True := eq_true (by rw [HNL2.out]; exact HSB2.out.2.1)
       have hs22 : decide (s2 < (n : Int)) = true := decide_eq_true (by rw [HNL2.out]; exact HSB2.out.2.1)
       have hs23 : (0 ≤ s2) = True := eq_true HSB2.out.1
       clear hsl hsb2 hI hdue hrow3 hR3 hx3 hf3 hog hgw hback
       go_wp2_with (go_at_call 41; refine (spec_l5Slot.calls k now t.f0 s2 _ HSL.out).mono ?_; rintro e w2 ⟨rfl, ⟨nd, rfl⟩⟩)
       have HS1_ := Aside0.mk (pw_below_drewN (below_alloc (Below.refl wr.heap.size wr) (.cells #[.int .i64 t.f0, .int .i64 t.f1] 45)) nd)
       have HT1_ := Aside0.mk (HTK.out.below HS1_.out)
       have HX1_ := Aside0.mk (pw_cell_below HS1_.out HX3.out)
       have HB1_ := Aside0.mk (blk_drewN HBT.out nd)
       clear HTA HBT hzn
       refine start_ (n := 13) (S := fun w' => w'.cell? ⟨w.heap.size, 1, none⟩ = some (.slice (some ⟨g, 0, none⟩) n c) ∧ w'.cell? ⟨g, s2.toNat, none⟩ = some (.slice A3 row3.length c3) ∧ w'.cell? ⟨wr.heap.size, 0, none⟩ = some (.int .i64 t.f0) ∧ w'.cell? ⟨wr.heap.size, 1, none⟩ = some (.int .i64 t.f1)) (ds := [12]) #[false, false, false, false, false, false, false, false, false, false, false, false, false] (by kernel_rfl) rfl rfl ⟨(blk_cell (HT1_.out.box HX0.out) 1).trans rfl, HX1_.out, (blk_cell HB1_.out 0).trans rfl, (blk_cell HB1_.out 1).trans rfl⟩ (fun hHeld => ?_)
       have nHS := Aside0.mk (below_drew1 HS1_.out)
       have nHT := Aside0.mk (HTK.out.below nHS.out)
       have nHX := Aside0.mk (pw_cell_below nHS.out HX3.out)
       have nHB := Aside0.mk (blk_drew HB1_.out)
       clear HS1_ HT1_ HX1_ HB1_
       generalize World.drew (World.drewN (World.alloc wr (.cells #[.int .i64 t.f0, .int .i64 t.f1] 45)) nd) = we at nHS nHT nHX nHB hHeld ⊢
       have HS2_ := nHS
       have HT2_ := nHT
       have HX2_ := nHX
       have HB2_ := nHB
       clear nHS nHT nHX nHB
       refine pure_ (i := 0) (N := some 70) (v := ?_) (a' := ?_) #[true, false, false, false, false, false, false, false, false, false, false, false, false] rfl rfl (by kernel_rfl) (fun _ _ _ h => h) (Or.inl ⟨by rfl, ?_⟩) ?_ ?_
       rotate_left
       ·intro w'
        go_simp
        with_reducible rfl
       rotate_left
       ·simp only [Act.put, List.setIfInBounds_toArray, List.set_cons_zero, List.set_cons_succ, i64_w, i32_w]
        rfl
       refine take_ (i := 1) (N := some 71) (v := ?_) (a' := ?_) #[true, true, false, false, false, false, false, false, false, false, false, false, false] rfl rfl (by kernel_rfl) (fun _ _ _ h => h) (Or.inl ⟨by rfl, ?_⟩) hHeld ?_ ?_
       rotate_left
       ·rintro w' ⟨s0, s1, s2_, s3⟩
        go_simp
        with_reducible rfl
       rotate_left
       ·simp only [Act.put, List.setIfInBounds_toArray, List.set_cons_zero, List.set_cons_succ, i64_w, i32_w]
        rfl
       refine pure_ (i := 2) (N := some 72) (v := ?_) (a' := ?_) #[true, true, true, false, false, false, false, false, false, false, false, false, false] rfl rfl (by kernel_rfl) (fun _ _ _ h => h) (Or.inl ⟨by rfl, ?_⟩) ?_ ?_
       rotate_left
       ·intro w'
        go_simp
        with_reducible rfl
       rotate_left
       ·simp only [Act.put, List.setIfInBounds_toArray, List.set_cons_zero, List.set_cons_succ, i64_w, i32_w]
        rfl
       refine pure_ (i := 3) (N := some 73) (v := ?_) (a' := ?_) #[true, true, true, true, false, false, false, false, false, false, false, false, false] rfl rfl (by kernel_rfl) (fun _ _ _ h => h) (Or.inl ⟨by rfl, ?_⟩) ?_ ?_
       rotate_left
       ·intro w'
        go_simp
        with_reducible rfl
       rotate_left
       ·simp only [Act.put, List.setIfInBounds_toArray, List.set_cons_zero, List.set_cons_succ, i64_w, i32_w]
        rfl
       refine take_ (i := 4) (N := some 74) (v := ?_) (a' := ?_) #[true, true, true, true, true, false, false, false, false, false, false, false, false] rfl rfl (by kernel_rfl) (fun _ _ _ h => h) (Or.inl ⟨by rfl, ?_⟩) hHeld ?_ ?_
       rotate_left
       ·rintro w' ⟨s0, s1, s2_, s3⟩
        go_simp
        with_reducible rfl
       rotate_left
       ·simp only [Act.put, List.setIfInBounds_toArray, List.set_cons_zero, List.set_cons_succ, i64_w, i32_w]
        rfl
       refine pure_ (i := 5) (N := some 75) (v := ?_) (a' := ?_) #[true, true, true, true, true, true, false, false, false, false, false, false, false] rfl rfl (by kernel_rfl) (fun _ _ _ h => h) (Or.inl ⟨by rfl, ?_⟩) ?_ ?_
       rotate_left
       ·intro w'
        go_simp
        with_reducible rfl
       rotate_left
       ·simp only [Act.put, List.setIfInBounds_toArray, List.set_cons_zero, List.set_cons_succ, i64_w, i32_w]
        rfl
       refine pure_ (i := 6) (N := some 76) (v := ?_) (a' := ?_) #[true, true, true, true, true, true, true, false, false, false, false, false, false] rfl rfl (by kernel_rfl) (fun _ _ _ h => h) (Or.inl ⟨by rfl, ?_⟩) ?_ ?_
       rotate_left
       ·intro w'
        go_simp
        with_reducible rfl
       rotate_left
       ·simp only [Act.put, List.setIfInBounds_toArray, List.set_cons_zero, List.set_cons_succ, i64_w, i32_w]
        rfl
       refine take_ (i := 7) (N := some 77) (v := ?_) (a' := ?_) #[true, true, true, true, true, true, true, true, false, false, false, false, false] rfl rfl (by kernel_rfl) (fun _ _ _ h => h) (Or.inl ⟨by rfl, ?_⟩) hHeld ?_ ?_
       rotate_left
       ·rintro w' ⟨s0, s1, s2_, s3⟩
        go_simp
        with_reducible rfl
       rotate_left
       ·simp only [Act.put, List.setIfInBounds_toArray, List.set_cons_zero, List.set_cons_succ, i64_w, i32_w]
        rfl
       refine take_ (i := 8) (N := some 78) (v := ?_) (a' := ?_) #[true, true, true, true, true, true, true, true, true, false, false, false, false] rfl rfl (by kernel_rfl) (fun _ _ _ h => h) (Or.inl ⟨by rfl, ?_⟩) hHeld ?_ ?_
       rotate_left
       ·rintro w' ⟨s0, s1, s2_, s3⟩
        go_simp
        with_reducible rfl
       rotate_left
       ·simp only [Act.put, List.setIfInBounds_toArray, List.set_cons_zero, List.set_cons_succ, i64_w, i32_w]
        rfl
       refine one_ (i := 9) (N := some 79) #[true, true, true, true, true, true, true, true, true, true, false, false, false] rfl rfl (by kernel_rfl) (by decide) (fun K hK => ?_)
       refine Kd.R_lit_step k45 (w0 := we) we.heap.size 45 (by rfl) (N := 79) rfl (xs := [t]) (inner := [.int .i64 t.f0, .int .i64 t.f1]) (ok := fun _ => True) (okp := fun _ => True) ?hr (Reps.snoc (Reps.none _ _) (k45_mkM _ _ _ t) rfl) (fun _ hk => hk) trivial (Below.refl _ _) (Nat.le_refl _) (by simp) ?_
       case hr => first | (go_simp; done) | (go_simp; rfl)
       intro v4 w4 ho4 hb4 _ _
       obtain ⟨A4, c4, rfl, hc4, hC4⟩ := Kd.R_reads ho4
       have HC4 := Aside0.mk hC4
       have HS3_ := Aside0.mk (below_then HS2_.out HS2_.out.size hb4)
       have HT3_ := Aside0.mk (HTK.out.below HS3_.out)
       have HX3_ := Aside0.mk (pw_cell_below HS3_.out HX3.out)
       have HB3_ := Aside0.mk (blk_below HB2_.out hb4)
       clear ho4 hb4 hC4 hc4 HS2_ HT2_ HX2_ HB2_
       refine hK.out _ _ ⟨(blk_cell (HT3_.out.box HX0.out) 1).trans rfl, HX3_.out, (blk_cell HB3_.out 0).trans rfl, (blk_cell HB3_.out 1).trans rfl⟩ (fun hHeld => ?_)
       clear hK K
       refine norm_ (a' := ?_) ?_ ?_
       rotate_left
       ·show Act.put _ (some 79) _ = _
        simp only [Act.put, List.setIfInBounds_toArray, List.set_cons_zero, List.set_cons_succ, i64_w, i32_w]
        rfl
       refine one_ (i := 10) (N := some 80) #[true, true, true, true, true, true, true, true, true, true, true, false, false] rfl rfl (by kernel_rfl) (by decide) (fun K hK => ?_)
       refine Kd.R_append_rows_step k45 (w0 := w0) w0.heap.size (by rfl) (.tmp 77) (.tmp 79) 48 45 (.agg #[(.int .i64 0), (.int .i64 0)]) 16 rfl Try.underlying48 info45 rfl (by decide) (by omega) (.slice A3 row3.length c3) row3 [t] A4 1 c4 (fun k => oki k ∨ wr.heap.size ≤ k) (fun _ => False) rfl rfl (Kd.R_mono (Kd.R_below HR3.out HS3_.out) (fun _ hk => .inl hk)) HC4.out (fun _ _ h => h) (fun _ h => h.elim) (fun k hk => .inr (Nat.le_trans HS3_.out.size hk)) HT3_.out.B HT3_.out.B.size (by have := HSB2.out.2.2; omega) ?_
       intro v5 w5 ho5 hb5 hg5 _
       have HO5 := Aside0.mk ho5
       have HB5 := Aside0.mk hb5
       have HOWN := Aside0.mk (fun (k : Nat) (hk : (Value.slice A3 row3.length c3).ownBlock = some k) => (⟨HR3.out.1 k hk, Kd.R_lt HR3.out k hk⟩ : oki k ∧ k < wr.heap.size))
       have HK5 : Aside0 (Kept wr w5 oki) := ⟨(Kept.of_below HS3_.out oki).then_ (Kept.of_grown (S := oki) hg5 (Kept.refl _ _) (fun k hk => .inl (HOWN.out k hk).1)) (fun k hk => .inl hk)⟩
       have HXN := Aside0.mk (cell_kept HX3.out HK5.out HOG.out)
       have hnw : ¬ oki wr.heap.size ∨ True := .inr trivial
       have HBN := Aside0.mk (show w5.heap[wr.heap.size]? = some (.cells #[.int .i64 t.f0, .int .i64 t.f1] 45 (0, 0)) from (hg5.block _ (blk_lt HB3_.out) (fun he => by have := (HOWN.out _ he.symm).2; omega)).trans HB3_.out)
       have HBX5 := Aside0.mk (show w5.cell? ⟨w.heap.size, 1, none⟩ = some (.slice (some ⟨g, 0, none⟩) n c) from by
        have h1 := HT3_.out.box HX0.out
        have h2 : w5.heap[w.heap.size]? = some (.cells #[.int .i64 now, .slice (some ⟨g, 0, none⟩) n c] 27 (0, 0)) := (hg5.block _ (blk_lt h1) (fun he => by
         have h3 := Kd.R_typed (Kd.R_below HR3.out HS3_.out) _ he.symm
         obtain ⟨cells, h4⟩ := h3
         rw [h1] at h4
         injection h4 with h4
         injection h4 with _ h4
         exact absurd h4 (by decide))).trans h1
        exact (blk_cell h2 1).trans rfl)
       obtain ⟨A5, c5, hv5⟩ := Kd.R_slice ho5
       obtain ⟨n5, hn5⟩ : ∃ q, q = (row3 ++ [t]).length := ⟨_, rfl⟩
       rw [← hn5] at hv5
       subst hv5
       clear hn5 ho5 hb5 hg5 hnw
       refine hK.out _ _ ⟨HBX5.out, HXN.out, (blk_cell HBN.out 0).trans rfl, (blk_cell HBN.out 1).trans rfl⟩ (fun hHeld => ?_)
       clear hK K
       refine norm_ (a' := ?_) ?_ ?_
       rotate_left
       ·show Act.put _ (some 80) _ = _
        simp only [Act.put, List.setIfInBounds_toArray, List.set_cons_zero, List.set_cons_succ, i64_w, i32_w]
        rfl
       refine pure_ (i := 11) (N := some 81) (v := ?_) (a' := ?_) #[true, true, true, true, true, true, true, true, true, true, true, true, false] rfl rfl (by kernel_rfl) (fun _ _ _ h => h) (Or.inl ⟨by rfl, ?_⟩) ?_ ?_
       rotate_left
       ·intro w'
        go_simp
        with_reducible rfl
       rotate_left
       ·simp only [Act.put, List.setIfInBounds_toArray, List.set_cons_zero, List.set_cons_succ, i64_w, i32_w]
        rfl
       refine last_ (i := 12) (N := none) #[true, true, true, true, true, true, true, true, true, true, true, true, true] rfl rfl (by kernel_rfl) (by decide) (fun K hK => ?_)
       have hs0_ := HXN.out
       have hf0_ : w5.frozen? ⟨g, s2.toNat, none⟩ = false := by have h2 := HF3.out; unfold World.frozen? at h2 ⊢; rw [HK5.out.2 g HGW.out HOG.out]; exact h2
       refine skip_ (w1 := ?_) (by rfl) rfl ?_ ?_
       rotate_left
       ·go_simp
        rfl
       clear hs0_ hf0_
       have HTN := Aside0.mk (HBK.out HK5.out HO5.out (fun _ hk => hk) HB5.out)
       refine hK.out _ _ ?_
       clear hK K
       refine done_ (by kernel_rfl) ?_
       clear hHeld
       go_wp2
       go_roundg k2
       case measure => omega
       case rel =>
        refine ⟨wrap64 (x + 1), _, _, d2, _, rfl, rfl, rfl, ⟨?_, ?_⟩, HTN, ⟨?_⟩⟩
        ·rw [HW2.out]; have := HJ.out.1; omega
        ·rw [HW2.out]; have := HJ.out; omega
        ·rw [HW2.out, show (x + 1).toNat = x.toNat + 1 by have := HJ.out.1; omega]; exact HIN.out
     ·have hltb : decide (x < (row.length : Int)) = false := decide_eq_false hlt
      have HJ2 := Aside0.mk hlt
      clear hlt
      have hI := HIN.out
      rw [List.drop_of_length_le (by have := HJ2.out; have := HJ.out.1; omega)] at hI
      simp only [tkPut, Option.some.injEq, Prod.mk.injEq] at hI
      obtain ⟨rfl, rfl, rfl⟩ := hI
      go_wp2
      go_roundg k1
      case measure => omega
      case rel => exact ⟨m, wrap64 (lev - 1), _, _, _, _, rfl, rfl, rfl, ⟨HDEC.out, by have := HM.out; omega, by have := HM.out; omega⟩, ⟨HTK.out.forget⟩, HF2⟩

end Go.Proofs.Ytgmjfdehladelaa.PFnExactAdvanceWheel
