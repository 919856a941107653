-- written by xprint.py (a program of this session's, over the kit's print): printed functions, and some by hand
import Derived.Test.YtnfafdlglhbijaaPFnExactIsSoundx0
import Derived.Test.YtnfafdlglhbijaaPFnExactIsSoundx1
import Derived.Test.YtnfafdlglhbijaaPFnExactIsSoundx2
import Derived.Test.YtnfafdlglhbijaaPFnExactIsSoundx5
import Derived.Test.YtnfafdlglhbijaaPFnExactIsSoundx9
namespace Go.Proofs.Ytnfafdlglhbijaa.PFnExactIsSound
open Go.RowKit Go.Proofs.YtnfafdlglhbijaaW.PrintWords Go.Proofs.YtnfafdlglhbijaaW.PrintLast Go.Proofs.YtnfafdlglhbijaaW.PrintMore
attribute [local go_sem] max2_int min2_int max_two min_two max_three min_three max_four min_four   -- for this text's walks alone
set_option linter.unusedVariables false
set_option linter.unusedSimpArgs false

/-! ### laws_FnExactIsSound: function 11, by hand -/
/-- Whole numbers may be written over, in blocks of S; nothing else changes. -/
def Sh (S : Nat → Prop) (w w' : World) : Prop :=
  w.heap.size ≤ w'.heap.size ∧ (∀ k, k < w.heap.size → ¬ S k → w'.heap[k]? = w.heap[k]?) ∧
  (∀ (p : Addr) (v : Value), w.cell? p = some v → ∃ v', w'.cell? p = some v' ∧ (v' = v ∨ ((∃ a, v = .int .i64 a) ∧ ∃ b, v' = .int .i64 b))) ∧
  (∀ p : Addr, p.block < w.heap.size → w'.frozen? p = w.frozen? p)
theorem Sh.refl (S : Nat → Prop) (w : World) : Sh S w w := ⟨Nat.le_refl _, fun _ _ _ => rfl, fun _ v h => ⟨v, h, .inl rfl⟩, fun _ _ => rfl⟩
theorem Sh.trans {S : Nat → Prop} {w1 w2 w3 : World} (h : Sh S w1 w2) (k : Sh S w2 w3) : Sh S w1 w3 := by
  obtain ⟨a1, a2, a3, a4⟩ := h
  obtain ⟨b1, b2, b3, b4⟩ := k
  refine ⟨Nat.le_trans a1 b1, fun i hi hn => (b2 i (Nat.lt_of_lt_of_le hi a1) hn).trans (a2 i hi hn), fun p v hp => ?_, fun p hp => (b4 p (Nat.lt_of_lt_of_le hp a1)).trans (a4 p hp)⟩
  obtain ⟨v', h1, h2⟩ := a3 p v hp
  obtain ⟨v'', h3, h4⟩ := b3 p v' h1
  refine ⟨v'', h3, ?_⟩
  rcases h2 with rfl | ⟨hx, y, rfl⟩
  · exact h4
  · rcases h4 with rfl | ⟨_, hz⟩
    · exact .inr ⟨hx, y, rfl⟩
    · exact .inr ⟨hx, hz⟩
theorem Sh.mono {S S' : Nat → Prop} {w w' : World} (h : Sh S w w') (hs : ∀ k, S k → S' k) : Sh S' w w' :=
  ⟨h.1, fun i hi hn => h.2.1 i hi (fun hk => hn (hs i hk)), h.2.2.1, h.2.2.2⟩
theorem Sh.kept {S : Nat → Prop} {w w' : World} (h : Sh S w w') : Kept w w' S := ⟨h.1, h.2.1⟩
theorem Sh.drew {S : Nat → Prop} {w w' : World} (h : Sh S w w') : Sh S w w'.drew := h
theorem Sh.drewN {S : Nat → Prop} {w w' : World} (h : Sh S w w') (n : Nat) : Sh S w (w'.drewN n) := h
theorem Sh.set {S : Nat → Prop} {w w' : World} (h : Sh S w w') {p : Addr} {a : Int} (hc : w'.cell? p = some (.int .i64 a)) (hS : S p.block) (b : Int) : Sh S w (w'.setCell p (.int .i64 b)) := by
  refine h.trans ⟨by simp, fun k _ hn => Below.heap_setCell w' p _ k (fun e => hn (e ▸ hS)), fun q v hq => ?_, fun q _ => by simp⟩
  by_cases e : p = q
  · subst e
    rw [hc] at hq
    exact ⟨_, World.cell?_setCell_same _ _ _ hc, .inr ⟨⟨a, (Option.some.inj hq).symm⟩, b, rfl⟩⟩
  · exact ⟨v, by rw [World.cell?_setCell_other _ _ _ _ e]; exact hq, .inl rfl⟩
theorem Sh.cell {S : Nat → Prop} {w w' : World} (h : Sh S w w') {p : Addr} {v : Value} (hp : w.cell? p = some v) (hv : ∀ a, v ≠ .int .i64 a) : w'.cell? p = some v := by
  obtain ⟨v', h1, rfl | ⟨⟨a, rfl⟩, _⟩⟩ := h.2.2.1 p v hp
  · exact h1
  · exact absurd rfl (hv a)
/-- A slice of n whole numbers that may be written, in blocks of S. -/
def Ints (S : Nat → Prop) (w : World) (A : Option Addr) (n : Nat) : Prop :=
  n ≤ 9223372036854775807 ∧ (0 < n → ∃ ad, A = some ad ∧ S ad.block ∧ ∀ i, i < n → (∃ z, w.cell? (ad.add i) = some (.int .i64 z)) ∧ w.frozen? (ad.add i) = false)
theorem sh_add_block (ad : Addr) (i : Nat) : (ad.add i).block = ad.block := by unfold Addr.add; split <;> rfl
theorem Sh.int {S : Nat → Prop} {w w' : World} (h : Sh S w w') {p : Addr} (hc : ∃ z, w.cell? p = some (.int .i64 z)) (hf : w.frozen? p = false) : (∃ z, w'.cell? p = some (.int .i64 z)) ∧ w'.frozen? p = false := by
  obtain ⟨z, hz⟩ := hc
  refine ⟨?_, (h.2.2.2 p (World.block_lt_of_cell? w _ hz)).trans hf⟩
  obtain ⟨v', h1, rfl | ⟨_, b, rfl⟩⟩ := h.2.2.1 _ _ hz
  · exact ⟨z, h1⟩
  · exact ⟨b, h1⟩
theorem Ints.sh {S : Nat → Prop} {w w' : World} {A : Option Addr} {n : Nat} (h : Ints S w A n) (k : Sh S w w') : Ints S w' A n := by
  refine ⟨h.1, fun hp => ?_⟩
  obtain ⟨ad, rfl, hS, hc⟩ := h.2 hp
  exact ⟨ad, rfl, hS, fun i hi => k.int (hc i hi).1 (hc i hi).2⟩
theorem Ints.of_R {S ok : Nat → Prop} {w : World} {base : Nat} {v : Value} {xs : List Int} (h : Kd.R (Kd.int .i64) 3 w base ok v xs) (hs : ∀ k, ok k → S k) : ∃ A c, v = .slice A xs.length c ∧ Ints S w A xs.length := by
  obtain ⟨A, c, rfl, hl, hC⟩ := Kd.R_reads h
  refine ⟨A, c, rfl, hC.2.1, fun hp => ?_⟩
  obtain ⟨g, cap, eq, hb, hlt, _, hG⟩ := Kd.R_form h hp
  injection eq with ea _ ec
  subst ea
  subst ec
  refine ⟨_, rfl, hs _ (h.1 g rfl), fun i hi => ?_⟩
  obtain ⟨h1, h2⟩ := Kd.R_celln 0 h (i : Int) (by omega) (by omega)
  rw [Int.toNat_natCast] at h1 h2
  rw [add_plain]
  exact ⟨⟨_, h1⟩, h2⟩
theorem Sh.of_below {S : Nat → Prop} {w w' : World} (h : Below w.heap.size w w') : Sh S w w' := by
  refine ⟨h.size, fun k hk _ => h.block k hk, fun p v hp => ⟨v, pw_cell_below h hp, .inl rfl⟩, fun p hp => ?_⟩
  unfold World.frozen?
  rw [h.block _ hp]
theorem Sh.alloc {S : Nat → Prop} {w w' : World} (h : Sh S w w') (o : Obj) : Sh S w (w'.alloc o) := h.trans (Sh.of_below (below_alloc (Below.refl _ _) o))
theorem bel_then {w W w' : World} (h : Below w.heap.size w W) (hb : Below W.heap.size W w') : Below w.heap.size w w' := below_then h h.size hb
theorem law_madeR {α : Type} {d : Kd α} {e n : Nat} {ok : Nat → Prop} {wl W w' : World} {v : Value} {xs : List α} (h : Kd.R d e w' W.heap.size ok v xs) (hb : Below W.heap.size W w') (hn : n ≤ wl.heap.size) (hW : Below wl.heap.size wl W) :
    ∃ (lo hi : Nat) (A : Option Addr) (c : Nat), (n ≤ lo ∧ lo ≤ hi) ∧ hi ≤ w'.heap.size ∧ v = .slice A xs.length c ∧ Kd.R d e w' lo (fun k => lo ≤ k ∧ k < hi) v xs := by
  obtain ⟨A, c, hv⟩ := Kd.R_slice h
  have := hW.size
  have := hb.size
  exact ⟨W.heap.size, w'.heap.size, A, c, by omega, Nat.le_refl _, hv, Kd.R_mono (Kd.R_bound h) (fun k hk => ⟨hk.2.1, hk.2.2.1⟩)⟩
theorem law_madeS {α : Type} {d : Kd α} {e n : Nat} {ok : Nat → Prop} {wl W w' : World} {v : Value} {xs : List α} (h : Kd.S d e w' W.heap.size ok v xs) (hb : Below W.heap.size W w') (hn : n ≤ wl.heap.size) (hW : Below wl.heap.size wl W) :
    ∃ (lo hi : Nat) (A : Option Addr) (c : Nat), (n ≤ lo ∧ lo ≤ hi) ∧ hi ≤ w'.heap.size ∧ v = .slice A xs.length c ∧ Kd.S d e w' lo (fun k => lo ≤ k ∧ k < hi) v xs := by
  obtain ⟨A, c, hv⟩ := Kd.R_slice (Kd.S_R h)
  have := hW.size
  have := hb.size
  exact ⟨W.heap.size, w'.heap.size, A, c, by omega, Nat.le_refl _, hv, Kd.S_mono (Kd.S_bound h) (fun k hk => ⟨hk.2.1, hk.2.2.1⟩)⟩
theorem law_kept {wl W w' : World} {S : Nat → Prop} (h : Below wl.heap.size wl W) (hk : Kept W w' S) : Kept wl w' S := (Kept.of_below h S).then_ hk (fun _ h => .inl h)
/-- A marked row of plain values lies where it lay. -/
theorem law_marked {α : Type} {d : Kd α} {W w' : World} {base base' e : Nat} {ok P : Nat → Prop} {v : Value} {xs ys : List α} (hE : d.E = []) (h0 : Kd.R d e W base P v xs) (h : Kd.R d e w' base' ok v ys) : Kd.R d e w' base' P v ys :=
  Kd.R_mono (Kd.R_tight hE h) (fun k hk => h0.1 k hk.symm)
theorem law_C {α : Type} {d : Kd α} {e base n c : Nat} {ok : Nat → Prop} {w W : World} {A : Option Addr} {xs : List α} (h : Kd.R d e w base ok (.slice A n c) xs) (hb : Below w.heap.size w W) : Kd.C d W A xs.length xs := (Kd.R_reads' (Kd.R_below h hb)).2.2
theorem law_c {α : Type} {d : Kd α} {e base c : Nat} {ok : Nat → Prop} {w : World} {A : Option Addr} {xs : List α} (h : Kd.R d e w base ok (.slice A xs.length c) xs) : xs.length ≤ c := (Kd.R_reads' h).2.1
theorem law_C0 {α : Type} {d : Kd α} {e base n c : Nat} {ok : Nat → Prop} {w W : World} {A : Option Addr} {xs : List α} (h : Kd.R d e w base ok (.slice A n c) xs) (hb : Below w.heap.size w W) : Kd.C d W A xs.length xs := (Kd.R_reads' (Kd.R_below h hb)).2.2
theorem law_c0 {α : Type} {d : Kd α} {e base n c : Nat} {ok : Nat → Prop} {w : World} {A : Option Addr} {xs : List α} (h : Kd.R d e w base ok (.slice A n c) xs) : xs.length ≤ c := (Kd.R_reads' h).1 ▸ (Kd.R_reads' h).2.1
def laws_FnExactIsSound.f (k : Nat) (a0_0 : Int) (l0_1 : List S90) : Option Bool :=
  (laws_szNet.f k a0_0 l0_1 1048576).bind fun t => if t < 0 then some true else
  (laws_toNet.f k a0_0 l0_1).bind fun n0 =>
  (spec_IsSound.f k n0.1 n0.2).bind fun s =>
  (impl_IsSound.f k n0.1 n0.2).bind fun g =>
  (laws_eqNet.f k n0.1 n0.2 n0.1 n0.2).bind fun b1 =>
  if g = s ∧ b1 = true then some true else none
set_option maxHeartbeats 8000000 in
set_option maxRecDepth 100000 in
theorem laws_FnExactIsSound.calls (k : Nat) (a0_0 : Int) (A0_1 : Option Addr) (c0_1 : Nat) (l0_1 : List S90) (r : Bool) (w : World) (hr0_1 : Kd.C k90 w A0_1 l0_1.length l0_1) (hc0_1 : l0_1.length ≤ c0_1) (h : laws_FnExactIsSound.f k a0_0 l0_1 = some r) :
    Calls Try.prog 11 #[.agg #[.int .i64 a0_0, .slice A0_1 l0_1.length c0_1]] w fun e w' => e = .returned (.bool r) ∧ Below w.heap.size w w' := by
  have HR0_1 := Aside0.mk hr0_1
  have HC0_1 := Aside0.mk hc0_1
  have HB := Aside0.mk (Below.refl w.heap.size w)
  clear hr0_1 hc0_1
  unfold laws_FnExactIsSound.f at h
  obtain ⟨t, T, h⟩ := Option.bind_eq_some_iff.1 h
  have HT := Aside0.mk T
  clear T
  by_cases ht : t < 0
  · rw [if_pos ht] at h
    obtain rfl := Option.some.inj h
    have hdt : decide (t < 0) = true := decide_eq_true ht
    clear ht
    go_enter Try.func11, Try.ntmps11
    go_wp2_with fail
    refine (laws_szNet.calls k a0_0 A0_1 c0_1 l0_1 1048576 t _ (Kd.C_below HR0_1.out (by repeat (first | exact HB.out | apply below_alloc | apply pw_below_drewN | apply below_drew1))) HC0_1.out HT.out).mono ?_
    rintro e w1 ⟨rfl, hb⟩
    have HB1 : Aside0 (Below w.heap.size w w1) := ⟨bel_then (by repeat (first | exact HB.out | apply below_alloc | apply pw_below_drewN | apply below_drew1)) hb⟩
    clear hb
    go_wp2
    go_ret
    exact ⟨rfl, by repeat (first | exact HB1.out | apply below_alloc | apply pw_below_drewN | apply below_drew1)⟩
  rw [if_neg ht] at h
  have hdt : decide (t < 0) = false := decide_eq_false ht
  clear ht
  obtain ⟨⟨n0a, n0b⟩, hn0, h⟩ := Option.bind_eq_some_iff.1 h
  obtain ⟨⟨s0, s1⟩, hS, h⟩ := Option.bind_eq_some_iff.1 h
  obtain ⟨g, hG, h⟩ := Option.bind_eq_some_iff.1 h
  obtain ⟨b1, hE1, h⟩ := Option.bind_eq_some_iff.1 h
  try simp only at hn0 hS hG hE1 h
  split at h
  case isFalse => cases h
  rename_i hh
  obtain rfl := Option.some.inj h
  obtain ⟨rfl, rfl⟩ := hh
  have HN0 := Aside0.mk hn0
  have HSP := Aside0.mk hS
  have HG := Aside0.mk hG
  have HE1 := Aside0.mk hE1
  clear hn0 hS hG hE1 h
  go_enter Try.func11, Try.ntmps11
  go_wp2_with fail
  refine (laws_szNet.calls k a0_0 A0_1 c0_1 l0_1 1048576 t _ (Kd.C_below HR0_1.out (by repeat (first | exact HB.out | apply below_alloc | apply pw_below_drewN | apply below_drew1))) HC0_1.out HT.out).mono ?_
  rintro e w1 ⟨rfl, hb⟩
  have nBX0 : Aside0 (w1.heap[w.heap.size]? = some (.cells #[.int .i64 a0_0, .slice A0_1 l0_1.length c0_1] 24 (0, 0))) := ⟨blk_below (by first | exact heap_alloc_new _ _ | (have h_ := heap_alloc_new (w.alloc (.cells #[.int .i64 a0_0, .slice A0_1 l0_1.length c0_1] 24)) (.cells #[.int .i64 a0_0, .slice A0_1 l0_1.length c0_1] 24); simpa using h_)) hb⟩
  have nHB : Aside0 (Below w.heap.size w w1) := ⟨bel_then (by repeat (first | exact HB.out | apply below_alloc | apply pw_below_drewN | apply below_drew1)) hb⟩
  have ZC : Aside0 (w.heap.size + 1 ≤ w1.heap.size) := ⟨by have := hb.size; simpa using this⟩
  have ZW : Aside0 (w.heap.size ≤ w.heap.size + 1) := ⟨Nat.le_add_right _ _⟩
  clear HB hb
  have HB := nHB
  clear nHB
  have BX0 := nBX0
  clear nBX0
  have zc0_0 : w1.cell? ⟨w.heap.size, 0, none⟩ = some (.int .i64 a0_0) := (blk_cell BX0.out 0).trans rfl
  have zc0_1 : w1.cell? ⟨w.heap.size, 1, none⟩ = some (.slice A0_1 l0_1.length c0_1) := (blk_cell BX0.out 1).trans rfl
  go_wp2_with fail
  refine (laws_toNet.calls k a0_0 A0_1 c0_1 l0_1 n0a n0b _ (Kd.C_below HR0_1.out (bel_then HB.out (by repeat (first | exact Below.refl _ _ | apply below_alloc | apply pw_below_drewN | apply below_drew1)))) HC0_1.out HN0.out).mono ?_
  rintro e w2 ⟨v, rfl, hr, hb⟩
  clear zc0_0 zc0_1
  have ST : Below w1.heap.size w1 w2 := bel_then (by repeat (first | exact Below.refl _ _ | apply below_alloc | apply pw_below_drewN | apply below_drew1)) hb
  obtain ⟨lo1, hi1, A1_, c1_, hz1, hc1, rfl, ho1⟩ := law_madeS (n := (w.heap.size + 1)) hr hb ZC.out (by repeat (first | exact Below.refl _ _ | apply below_alloc | apply pw_below_drewN | apply below_drew1))
  have ZL1 := Aside0.mk hz1
  have HO1 := Aside0.mk ho1
  clear ho1 hz1
  have nZC := Aside0.mk hc1
  clear hc1
  have nHB : Aside0 (Below w.heap.size w w2) := ⟨bel_then HB.out ST⟩
  have nBX0 := Aside0.mk (blk_below BX0.out ST)
  clear HB ZC BX0 ST hb hr
  have HB := nHB
  clear nHB
  have ZC := nZC
  clear nZC
  have BX0 := nBX0
  clear nBX0
  have zc0_0 : w2.cell? ⟨w.heap.size, 0, none⟩ = some (.int .i64 a0_0) := (blk_cell BX0.out 0).trans rfl
  have zc0_1 : w2.cell? ⟨w.heap.size, 1, none⟩ = some (.slice A0_1 l0_1.length c0_1) := (blk_cell BX0.out 1).trans rfl
  go_wp2_with fail
  refine (spec_IsSound.calls k n0a _ _ n0b s0 s1 _ (law_C (Kd.S_R HO1.out) (by repeat (first | exact Below.refl _ _ | apply below_alloc | apply pw_below_drewN | apply below_drew1))) (law_c (Kd.S_R HO1.out)) HSP.out).mono ?_
  rintro e w3 ⟨rfl, hb⟩
  clear zc0_0 zc0_1
  have ST : Below w2.heap.size w2 w3 := bel_then (by repeat (first | exact Below.refl _ _ | apply below_alloc | apply pw_below_drewN | apply below_drew1)) hb
  have nZC := Aside0.mk (Nat.le_trans ZC.out ST.size)
  have nHB : Aside0 (Below w.heap.size w w3) := ⟨bel_then HB.out ST⟩
  have nHO1 := Aside0.mk (Kd.S_below HO1.out ST)
  have nBX0 := Aside0.mk (blk_below BX0.out ST)
  clear HB ZC HO1 BX0 ST hb
  have HB := nHB
  clear nHB
  have ZC := nZC
  clear nZC
  have HO1 := nHO1
  clear nHO1
  have BX0 := nBX0
  clear nBX0
  clear HO1
  have zc0_0 : w3.cell? ⟨w.heap.size, 0, none⟩ = some (.int .i64 a0_0) := (blk_cell BX0.out 0).trans rfl
  have zc0_1 : w3.cell? ⟨w.heap.size, 1, none⟩ = some (.slice A0_1 l0_1.length c0_1) := (blk_cell BX0.out 1).trans rfl
  go_wp2_with fail
  refine (laws_toNet.calls k a0_0 A0_1 c0_1 l0_1 n0a n0b _ (Kd.C_below HR0_1.out (bel_then HB.out (by repeat (first | exact Below.refl _ _ | apply below_alloc | apply pw_below_drewN | apply below_drew1)))) HC0_1.out HN0.out).mono ?_
  rintro e w4 ⟨v, rfl, hr, hb⟩
  clear zc0_0 zc0_1
  have ST : Below w3.heap.size w3 w4 := bel_then (by repeat (first | exact Below.refl _ _ | apply below_alloc | apply pw_below_drewN | apply below_drew1)) hb
  obtain ⟨lo2, hi2, A2_, c2_, hz2, hc2, rfl, ho2⟩ := law_madeS (n := hi1) hr hb ZC.out (by repeat (first | exact Below.refl _ _ | apply below_alloc | apply pw_below_drewN | apply below_drew1))
  have ZL2 := Aside0.mk hz2
  have HO2 := Aside0.mk ho2
  clear ho2 hz2
  have nZC := Aside0.mk hc2
  clear hc2
  have nHB : Aside0 (Below w.heap.size w w4) := ⟨bel_then HB.out ST⟩
  have nBX0 := Aside0.mk (blk_below BX0.out ST)
  clear HB ZC BX0 ST hb hr
  have HB := nHB
  clear nHB
  have ZC := nZC
  clear nZC
  have BX0 := nBX0
  clear nBX0
  have zc0_0 : w4.cell? ⟨w.heap.size, 0, none⟩ = some (.int .i64 a0_0) := (blk_cell BX0.out 0).trans rfl
  have zd0_0 := pw_cell_below (below_alloc (Below.refl _ _) (.cells #[.int .i64 n0a, .slice A2_ n0b.length c2_] 29)) zc0_0
  have zc0_1 : w4.cell? ⟨w.heap.size, 1, none⟩ = some (.slice A0_1 l0_1.length c0_1) := (blk_cell BX0.out 1).trans rfl
  have zd0_1 := pw_cell_below (below_alloc (Below.refl _ _) (.cells #[.int .i64 n0a, .slice A2_ n0b.length c2_] 29)) zc0_1
  go_wp2_with fail
  refine (impl_IsSound.calls k n0a _ _ n0b s0 s1 _ (law_C (Kd.S_R HO2.out) (by repeat (first | exact Below.refl _ _ | apply below_alloc | apply pw_below_drewN | apply below_drew1))) (law_c (Kd.S_R HO2.out)) HG.out).mono ?_
  rintro e w5 ⟨rfl, hb⟩
  clear zc0_0 zd0_0 zc0_1 zd0_1
  have ST : Below w4.heap.size w4 w5 := bel_then (by repeat (first | exact Below.refl _ _ | apply below_alloc | apply pw_below_drewN | apply below_drew1)) hb
  have mBX1 : Aside0 (w5.heap[w4.heap.size]? = some (.cells #[.int .i64 n0a, .slice A2_ n0b.length c2_] 29 (0, 0))) := ⟨blk_below (by first | exact heap_alloc_new _ _ | (have h_ := heap_alloc_new (w4.alloc (.cells #[.int .i64 n0a, .slice A2_ n0b.length c2_] 29)) (.cells #[.int .i64 n0a, .slice A2_ n0b.length c2_] 29); simpa using h_)) hb⟩
  have ZL3 := Aside0.mk (show hi2 ≤ w4.heap.size from ZC.out)
  clear ZC
  have ZC : Aside0 (w4.heap.size + 1 ≤ w5.heap.size) := ⟨by have := hb.size; simpa using this⟩
  have nZC := ZC
  have nHB : Aside0 (Below w.heap.size w w5) := ⟨bel_then HB.out ST⟩
  have nHO2 := Aside0.mk (Kd.S_below HO2.out ST)
  have nBX0 := Aside0.mk (blk_below BX0.out ST)
  clear HB ZC HO2 BX0 ST hb
  have HB := nHB
  clear nHB
  have ZC := nZC
  clear nZC
  have HO2 := nHO2
  clear nHO2
  have BX0 := nBX0
  clear nBX0
  have BX1 := mBX1
  clear mBX1
  have zc0_0 : w5.cell? ⟨w.heap.size, 0, none⟩ = some (.int .i64 a0_0) := (blk_cell BX0.out 0).trans rfl
  have zc0_1 : w5.cell? ⟨w.heap.size, 1, none⟩ = some (.slice A0_1 l0_1.length c0_1) := (blk_cell BX0.out 1).trans rfl
  have zc1_0 : w5.cell? ⟨w4.heap.size, 0, none⟩ = some (.int .i64 n0a) := (blk_cell BX1.out 0).trans rfl
  have zc1_1 : w5.cell? ⟨w4.heap.size, 1, none⟩ = some (.slice A2_ n0b.length c2_) := (blk_cell BX1.out 1).trans rfl
  try go_wp2
  clear zc0_0 zc0_1 zc1_0 zc1_1
  refine start_ (n := 5) (S := fun w' => w'.cell? ⟨w.heap.size, 0, none⟩ = some (.int .i64 a0_0) ∧ w'.cell? ⟨w.heap.size, 1, none⟩ = some (.slice A0_1 l0_1.length c0_1) ∧ w'.cell? ⟨w4.heap.size, 0, none⟩ = some (.int .i64 n0a) ∧ w'.cell? ⟨w4.heap.size, 1, none⟩ = some (.slice A2_ n0b.length c2_)) (ds := []) #[false, false, false, false, false] (by kernel_rfl) rfl rfl ⟨(blk_cell BX0.out 0).trans rfl, (blk_cell BX0.out 1).trans rfl, (blk_cell BX1.out 0).trans rfl, (blk_cell BX1.out 1).trans rfl⟩ (fun hHeld => ?_)
  refine take_ (i := 0) (N := some 35) (v := ?_) (a' := ?_) #[true, false, false, false, false] rfl rfl (by kernel_rfl) (fun _ _ _ h => h) (Or.inl ⟨by rfl, ?_⟩) hHeld ?_ ?_
  rotate_left
  · rintro w' ⟨s0, s1, s2, s3⟩
    go_simp
    with_reducible rfl
  rotate_left
  · simp only [Act.put, List.setIfInBounds_toArray, List.set_cons_zero, List.set_cons_succ, i64_w, i32_w]
    rfl
  refine take_ (i := 1) (N := some 36) (v := ?_) (a' := ?_) #[true, true, false, false, false] rfl rfl (by kernel_rfl) (fun _ _ _ h => h) (Or.inl ⟨by rfl, ?_⟩) hHeld ?_ ?_
  rotate_left
  · rintro w' ⟨s0, s1, s2, s3⟩
    go_simp
    with_reducible rfl
  rotate_left
  · simp only [Act.put, List.setIfInBounds_toArray, List.set_cons_zero, List.set_cons_succ, i64_w, i32_w]
    rfl
  refine one_ (i := 2) (N := some 37) #[true, true, true, false, false] rfl rfl (by kernel_rfl) (by decide) (fun K hK => ?_)
  refine goes_ Try.func15 (by kernel_rfl) rfl #[.agg #[.int .i64 a0_0, .slice A0_1 l0_1.length c0_1]] (by rfl) rfl rfl (by (try simp only [List.map_toArray, List.map_cons, List.map_nil]); first | done | rfl | (simp only [List.length_drop, List.length_take]; rfl)) ?_
  refine (laws_toNet.calls k a0_0 A0_1 c0_1 l0_1 n0a n0b _ (Kd.C_below HR0_1.out (bel_then HB.out (by repeat (first | exact Below.refl _ _ | apply below_alloc | apply pw_below_drewN | apply below_drew1)))) HC0_1.out HN0.out).mono ?_
  rintro e w6 ⟨v, rfl, hr, hb⟩
  refine ⟨_, rfl, ?_⟩
  have ST : Below w5.heap.size w5 w6 := bel_then (by repeat (first | exact Below.refl _ _ | apply below_alloc | apply pw_below_drewN | apply below_drew1)) hb
  obtain ⟨lo4, hi4, A4_, c4_, hz4, hc4, rfl, ho4⟩ := law_madeS (n := (w4.heap.size + 1)) hr hb ZC.out (by repeat (first | exact Below.refl _ _ | apply below_alloc | apply pw_below_drewN | apply below_drew1))
  have ZL4 := Aside0.mk hz4
  have HO4 := Aside0.mk ho4
  clear ho4 hz4
  have nZC := Aside0.mk hc4
  clear hc4
  have nHB : Aside0 (Below w.heap.size w w6) := ⟨bel_then HB.out ST⟩
  have nHO2 := Aside0.mk (Kd.S_below HO2.out ST)
  have nBX0 := Aside0.mk (blk_below BX0.out ST)
  have nBX1 := Aside0.mk (blk_below BX1.out ST)
  clear HB ZC HO2 BX0 BX1 ST hb hr
  have HB := nHB
  clear nHB
  have ZC := nZC
  clear nZC
  have HO2 := nHO2
  clear nHO2
  have BX0 := nBX0
  clear nBX0
  have BX1 := nBX1
  clear nBX1
  refine hK.out _ _ ⟨(blk_cell BX0.out 0).trans rfl, (blk_cell BX0.out 1).trans rfl, (blk_cell BX1.out 0).trans rfl, (blk_cell BX1.out 1).trans rfl⟩ (fun hHeld => ?_)
  clear hK K
  refine norm_ (a' := ?_) ?_ ?_
  rotate_left
  · show Act.put _ (some 37) _ = _
    simp only [Act.put, List.setIfInBounds_toArray, List.set_cons_zero, List.set_cons_succ, i64_w, i32_w]
    rfl
  refine one_ (i := 3) (N := some 38) #[true, true, true, true, false] rfl rfl (by kernel_rfl) (by decide) (fun K hK => ?_)
  refine goes_ Try.func17 (by kernel_rfl) rfl #[.agg #[.int .i64 n0a, .slice A2_ n0b.length c2_], .agg #[.int .i64 n0a, .slice A4_ n0b.length c4_]] (by rfl) rfl rfl (by (try simp only [List.map_toArray, List.map_cons, List.map_nil]); first | done | rfl | (simp only [List.length_drop, List.length_take]; rfl)) ?_
  refine (laws_eqNet.calls k n0a _ _ n0b n0a _ _ n0b true _ (law_C (Kd.S_R HO2.out) (by repeat (first | exact Below.refl _ _ | apply below_alloc | apply pw_below_drewN | apply below_drew1))) (law_c (Kd.S_R HO2.out)) (law_C (Kd.S_R HO4.out) (by repeat (first | exact Below.refl _ _ | apply below_alloc | apply pw_below_drewN | apply below_drew1))) (law_c (Kd.S_R HO4.out)) HE1.out).mono ?_
  rintro e w7 ⟨rfl, hb⟩
  refine ⟨_, rfl, ?_⟩
  have ST : Below w6.heap.size w6 w7 := bel_then (by repeat (first | exact Below.refl _ _ | apply below_alloc | apply pw_below_drewN | apply below_drew1)) hb
  have nZC := Aside0.mk (Nat.le_trans ZC.out ST.size)
  have nHB : Aside0 (Below w.heap.size w w7) := ⟨bel_then HB.out ST⟩
  have nHO2 := Aside0.mk (Kd.S_below HO2.out ST)
  have nHO4 := Aside0.mk (Kd.S_below HO4.out ST)
  have nBX0 := Aside0.mk (blk_below BX0.out ST)
  have nBX1 := Aside0.mk (blk_below BX1.out ST)
  clear HB ZC HO2 HO4 BX0 BX1 ST hb
  have HB := nHB
  clear nHB
  have ZC := nZC
  clear nZC
  have HO2 := nHO2
  clear nHO2
  have HO4 := nHO4
  clear nHO4
  have BX0 := nBX0
  clear nBX0
  have BX1 := nBX1
  clear nBX1
  refine hK.out _ _ ⟨(blk_cell BX0.out 0).trans rfl, (blk_cell BX0.out 1).trans rfl, (blk_cell BX1.out 0).trans rfl, (blk_cell BX1.out 1).trans rfl⟩ (fun hHeld => ?_)
  clear hK K
  refine norm_ (a' := ?_) ?_ ?_
  rotate_left
  · show Act.put _ (some 38) _ = _
    simp only [Act.put, List.setIfInBounds_toArray, List.set_cons_zero, List.set_cons_succ, i64_w, i32_w]
    rfl
  refine pure_ (i := 4) (N := some 39) (v := ?_) (a' := ?_) #[true, true, true, true, true] rfl rfl (by kernel_rfl) (fun _ _ _ h => h) (Or.inl ⟨by rfl, ?_⟩) ?_ ?_
  rotate_left
  · intro w'
    go_simp
    with_reducible rfl
  rotate_left
  · simp only [Act.put, List.setIfInBounds_toArray, List.set_cons_zero, List.set_cons_succ, i64_w, i32_w]
    rfl
  refine done_ (by kernel_rfl) ?_
  clear hHeld
  clear HO4
  go_wp2
  go_ret
  exact ⟨rfl, by repeat (first | exact HB.out | apply below_alloc | apply pw_below_drewN | apply below_drew1)⟩

end Go.Proofs.Ytnfafdlglhbijaa.PFnExactIsSound
