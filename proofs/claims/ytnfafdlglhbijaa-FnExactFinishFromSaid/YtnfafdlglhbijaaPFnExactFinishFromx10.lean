-- written by xprint.py (a program of this session's, over the kit's print): printed functions, and some by hand
import Derived.Test.YtnfafdlglhbijaaPFnExactFinishFromx0
import Derived.Test.YtnfafdlglhbijaaPFnExactFinishFromx1
import Derived.Test.YtnfafdlglhbijaaPFnExactFinishFromx2
import Derived.Test.YtnfafdlglhbijaaPFnExactFinishFromx6
import Derived.Test.YtnfafdlglhbijaaPFnExactFinishFromx9
namespace Go.Proofs.Ytnfafdlglhbijaa.PFnExactFinishFrom
open Go.RowKit Go.Proofs.YtnfafdlglhbijaaW.PrintWords Go.Proofs.YtnfafdlglhbijaaW.PrintLast Go.Proofs.YtnfafdlglhbijaaW.PrintMore
attribute [local go_sem] max2_int min2_int max_two min_two max_three min_three max_four min_four   -- for this text's walks alone
set_option linter.unusedVariables false
set_option linter.unusedSimpArgs false

/-! ### laws_FnExactFinishFrom: function 12, by hand -/
/-- Whole numbers may be written over, in blocks of S; nothing else changes. -/
def Sh (S : Nat → Prop) (w w' : World) : Prop :=
  w.heap.size ≤ w'.heap.size ∧ (∀ k, k < w.heap.size → ¬ S k → w'.heap[k]? = w.heap[k]?) ∧
  (∀ (p : Addr) (v : Value), w.cell? p = some v → ∃ v', w'.cell? p = some v' ∧ (v' = v ∨ ((∃ a, v = .int .i64 a) ∧ ∃ b, v' = .int .i64 b))) ∧
  (∀ p : Addr, p.block < w.heap.size → w'.frozen? p = w.frozen? p)
theorem Sh.refl (S : Nat → Prop) (w : World) : Sh S w w := ⟨Nat.le_refl _, fun _ _ _ => rfl, fun _ v h => ⟨v, h, .inl rfl⟩, fun _ _ => rfl⟩
theorem Sh.trans {S : Nat → Prop} {w1 w2 w3 : World} (h : Sh S w1 w2) (k : Sh S w2 w3) : Sh S w1 w3 := by
  obtain ⟨a1, a2, a3, a4⟩ := h
  obtain ⟨b1, b2, b3, b4⟩ := k
  refine ⟨Nat.le_trans a1 b1, fun i hi hn => (b2 i (Nat.lt_of_lt_of_le hi a1) hn).trans (a2 i hi hn), fun p v hp => ?_, fun p hp => (b4 p (Nat.lt_of_lt_of_le hp a1)).trans (a4 p hp)⟩
  obtain ⟨v', h1, h2⟩ := a3 p v hp
  obtain ⟨v'', h3, h4⟩ := b3 p v' h1
  refine ⟨v'', h3, ?_⟩
  rcases h2 with rfl | ⟨hx, y, rfl⟩
  · exact h4
  · rcases h4 with rfl | ⟨_, hz⟩
    · exact .inr ⟨hx, y, rfl⟩
    · exact .inr ⟨hx, hz⟩
theorem Sh.mono {S S' : Nat → Prop} {w w' : World} (h : Sh S w w') (hs : ∀ k, S k → S' k) : Sh S' w w' :=
  ⟨h.1, fun i hi hn => h.2.1 i hi (fun hk => hn (hs i hk)), h.2.2.1, h.2.2.2⟩
theorem Sh.kept {S : Nat → Prop} {w w' : World} (h : Sh S w w') : Kept w w' S := ⟨h.1, h.2.1⟩
theorem Sh.drew {S : Nat → Prop} {w w' : World} (h : Sh S w w') : Sh S w w'.drew := h
theorem Sh.drewN {S : Nat → Prop} {w w' : World} (h : Sh S w w') (n : Nat) : Sh S w (w'.drewN n) := h
theorem Sh.set {S : Nat → Prop} {w w' : World} (h : Sh S w w') {p : Addr} {a : Int} (hc : w'.cell? p = some (.int .i64 a)) (hS : S p.block) (b : Int) : Sh S w (w'.setCell p (.int .i64 b)) := by
  refine h.trans ⟨by simp, fun k _ hn => Below.heap_setCell w' p _ k (fun e => hn (e ▸ hS)), fun q v hq => ?_, fun q _ => by simp⟩
  by_cases e : p = q
  · subst e
    rw [hc] at hq
    exact ⟨_, World.cell?_setCell_same _ _ _ hc, .inr ⟨⟨a, (Option.some.inj hq).symm⟩, b, rfl⟩⟩
  · exact ⟨v, by rw [World.cell?_setCell_other _ _ _ _ e]; exact hq, .inl rfl⟩
theorem Sh.cell {S : Nat → Prop} {w w' : World} (h : Sh S w w') {p : Addr} {v : Value} (hp : w.cell? p = some v) (hv : ∀ a, v ≠ .int .i64 a) : w'.cell? p = some v := by
  obtain ⟨v', h1, rfl | ⟨⟨a, rfl⟩, _⟩⟩ := h.2.2.1 p v hp
  · exact h1
  · exact absurd rfl (hv a)
/-- A slice of n whole numbers that may be written, in blocks of S. -/
def Ints (S : Nat → Prop) (w : World) (A : Option Addr) (n : Nat) : Prop :=
  n ≤ 9223372036854775807 ∧ (0 < n → ∃ ad, A = some ad ∧ S ad.block ∧ ∀ i, i < n → (∃ z, w.cell? (ad.add i) = some (.int .i64 z)) ∧ w.frozen? (ad.add i) = false)
theorem sh_add_block (ad : Addr) (i : Nat) : (ad.add i).block = ad.block := by unfold Addr.add; split <;> rfl
theorem Sh.int {S : Nat → Prop} {w w' : World} (h : Sh S w w') {p : Addr} (hc : ∃ z, w.cell? p = some (.int .i64 z)) (hf : w.frozen? p = false) : (∃ z, w'.cell? p = some (.int .i64 z)) ∧ w'.frozen? p = false := by
  obtain ⟨z, hz⟩ := hc
  refine ⟨?_, (h.2.2.2 p (World.block_lt_of_cell? w _ hz)).trans hf⟩
  obtain ⟨v', h1, rfl | ⟨_, b, rfl⟩⟩ := h.2.2.1 _ _ hz
  · exact ⟨z, h1⟩
  · exact ⟨b, h1⟩
theorem Ints.sh {S : Nat → Prop} {w w' : World} {A : Option Addr} {n : Nat} (h : Ints S w A n) (k : Sh S w w') : Ints S w' A n := by
  refine ⟨h.1, fun hp => ?_⟩
  obtain ⟨ad, rfl, hS, hc⟩ := h.2 hp
  exact ⟨ad, rfl, hS, fun i hi => k.int (hc i hi).1 (hc i hi).2⟩
theorem Ints.of_R {S ok : Nat → Prop} {w : World} {base : Nat} {v : Value} {xs : List Int} (h : Kd.R (Kd.int .i64) 3 w base ok v xs) (hs : ∀ k, ok k → S k) : ∃ A c, v = .slice A xs.length c ∧ Ints S w A xs.length := by
  obtain ⟨A, c, rfl, hl, hC⟩ := Kd.R_reads h
  refine ⟨A, c, rfl, hC.2.1, fun hp => ?_⟩
  obtain ⟨g, cap, eq, hb, hlt, _, hG⟩ := Kd.R_form h hp
  injection eq with ea _ ec
  subst ea
  subst ec
  refine ⟨_, rfl, hs _ (h.1 g rfl), fun i hi => ?_⟩
  obtain ⟨h1, h2⟩ := Kd.R_celln 0 h (i : Int) (by omega) (by omega)
  rw [Int.toNat_natCast] at h1 h2
  rw [add_plain]
  exact ⟨⟨_, h1⟩, h2⟩
theorem Sh.of_below {S : Nat → Prop} {w w' : World} (h : Below w.heap.size w w') : Sh S w w' := by
  refine ⟨h.size, fun k hk _ => h.block k hk, fun p v hp => ⟨v, pw_cell_below h hp, .inl rfl⟩, fun p hp => ?_⟩
  unfold World.frozen?
  rw [h.block _ hp]
theorem Sh.alloc {S : Nat → Prop} {w w' : World} (h : Sh S w w') (o : Obj) : Sh S w (w'.alloc o) := h.trans (Sh.of_below (below_alloc (Below.refl _ _) o))
theorem bel_then {w W w' : World} (h : Below w.heap.size w W) (hb : Below W.heap.size W w') : Below w.heap.size w w' := below_then h h.size hb
theorem law_madeR {α : Type} {d : Kd α} {e n : Nat} {ok : Nat → Prop} {wl W w' : World} {v : Value} {xs : List α} (h : Kd.R d e w' W.heap.size ok v xs) (hb : Below W.heap.size W w') (hn : n ≤ wl.heap.size) (hW : Below wl.heap.size wl W) :
    ∃ (lo hi : Nat) (A : Option Addr) (c : Nat), (n ≤ lo ∧ lo ≤ hi) ∧ hi ≤ w'.heap.size ∧ v = .slice A xs.length c ∧ Kd.R d e w' lo (fun k => lo ≤ k ∧ k < hi) v xs := by
  obtain ⟨A, c, hv⟩ := Kd.R_slice h
  have := hW.size
  have := hb.size
  exact ⟨W.heap.size, w'.heap.size, A, c, by omega, Nat.le_refl _, hv, Kd.R_mono (Kd.R_bound h) (fun k hk => ⟨hk.2.1, hk.2.2.1⟩)⟩
theorem law_madeS {α : Type} {d : Kd α} {e n : Nat} {ok : Nat → Prop} {wl W w' : World} {v : Value} {xs : List α} (h : Kd.S d e w' W.heap.size ok v xs) (hb : Below W.heap.size W w') (hn : n ≤ wl.heap.size) (hW : Below wl.heap.size wl W) :
    ∃ (lo hi : Nat) (A : Option Addr) (c : Nat), (n ≤ lo ∧ lo ≤ hi) ∧ hi ≤ w'.heap.size ∧ v = .slice A xs.length c ∧ Kd.S d e w' lo (fun k => lo ≤ k ∧ k < hi) v xs := by
  obtain ⟨A, c, hv⟩ := Kd.R_slice (Kd.S_R h)
  have := hW.size
  have := hb.size
  exact ⟨W.heap.size, w'.heap.size, A, c, by omega, Nat.le_refl _, hv, Kd.S_mono (Kd.S_bound h) (fun k hk => ⟨hk.2.1, hk.2.2.1⟩)⟩
theorem law_kept {wl W w' : World} {S : Nat → Prop} (h : Below wl.heap.size wl W) (hk : Kept W w' S) : Kept wl w' S := (Kept.of_below h S).then_ hk (fun _ h => .inl h)
/-- A marked row of plain values lies where it lay. -/
theorem law_marked {α : Type} {d : Kd α} {W w' : World} {base base' e : Nat} {ok P : Nat → Prop} {v : Value} {xs ys : List α} (hE : d.E = []) (h0 : Kd.R d e W base P v xs) (h : Kd.R d e w' base' ok v ys) : Kd.R d e w' base' P v ys :=
  Kd.R_mono (Kd.R_tight hE h) (fun k hk => h0.1 k hk.symm)
theorem law_C {α : Type} {d : Kd α} {e base n c : Nat} {ok : Nat → Prop} {w W : World} {A : Option Addr} {xs : List α} (h : Kd.R d e w base ok (.slice A n c) xs) (hb : Below w.heap.size w W) : Kd.C d W A xs.length xs := (Kd.R_reads' (Kd.R_below h hb)).2.2
theorem law_c {α : Type} {d : Kd α} {e base c : Nat} {ok : Nat → Prop} {w : World} {A : Option Addr} {xs : List α} (h : Kd.R d e w base ok (.slice A xs.length c) xs) : xs.length ≤ c := (Kd.R_reads' h).2.1
theorem law_C0 {α : Type} {d : Kd α} {e base n c : Nat} {ok : Nat → Prop} {w W : World} {A : Option Addr} {xs : List α} (h : Kd.R d e w base ok (.slice A n c) xs) (hb : Below w.heap.size w W) : Kd.C d W A xs.length xs := (Kd.R_reads' (Kd.R_below h hb)).2.2
theorem law_c0 {α : Type} {d : Kd α} {e base n c : Nat} {ok : Nat → Prop} {w : World} {A : Option Addr} {xs : List α} (h : Kd.R d e w base ok (.slice A n c) xs) : xs.length ≤ c := (Kd.R_reads' h).1 ▸ (Kd.R_reads' h).2.1
set_option maxHeartbeats 8000000 in
set_option maxRecDepth 100000 in
theorem shMarkIntS.calls (S : Nat → Prop) (A : Option Addr) (c n : Nat) (a : Int) (w0 w : World) (hB : Below w0.heap.size w0 w) (hS : ∀ k, S k → w0.heap.size ≤ k) (hi : Ints S w A n) (ha : 0 ≤ a) (han : a + n ≤ 9223372036854775807) :
    Calls Try.prog 29 #[.slice A n c, .int .i64 a] w fun e w' => e = .returned (.int .i64 (a + n)) ∧ Below w0.heap.size w0 w' ∧ Sh S w w' := by
  have HI := Aside0.mk hi
  have HS := Aside0.mk hS
  have HB := Aside0.mk hB
  have HA := Aside0.mk ha
  have HAN := Aside0.mk han
  have HSH := Aside0.mk (Sh.refl S w)
  clear hi hS hB ha han
  go_enter Try.func29, Try.ntmps29
  go_wp2
  go_loopg [1, 5] n (fun kq v1 v5 w' => ∃ j : Nat, v1 = .int .i64 (a + (j : Int)) ∧ v5 = .int .i64 (j : Int) ∧ Aside0 (kq + j = n) ∧ Aside0 (Below w0.heap.size w0 w') ∧ Aside0 (Sh S w w'))
  case atStart => exact ⟨0, by simp, by simp, ⟨by omega⟩, ⟨by repeat (first | exact HB.out | apply below_alloc | apply pw_below_drewN | apply below_drew1)⟩, ⟨by first | exact HSH.out | exact Sh.drewN HSH.out _⟩⟩
  case round =>
    clear HB HSH
    obtain ⟨j, rfl, rfl, HK, HB, HSH⟩ := hrel
    by_cases hlt : j < n
    · obtain ⟨ad, rfl, hSad, hcell⟩ := (HI.out.sh HSH.out).2 (by omega)
      obtain ⟨⟨z, hz⟩, hf⟩ := hcell j hlt
      have hd : decide (j < n) = true := decide_eq_true hlt
      have hd0 : decide (0 ≤ (j : Int)) = true := decide_eq_true (by omega)
      have HD := Aside0.mk hlt
      clear hcell
      cases gk with
      | zero => exact absurd HK.out (by have := HD.out; omega)
      | succ k1 =>
        go_wp2
        go_roundg k1
        case measure => omega
        case rel => 
          exact ⟨j + 1, by have := HAN.out; have := HA.out; have := HD.out; congr 1; unfold wrap64; omega, by have := HI.out.1; have := HD.out; congr 1; unfold wrap64; omega, ⟨by have := HK.out; omega⟩, ⟨by refine HB.out.setCell ?_ _; rw [sh_add_block]; exact HS.out _ hSad⟩, ⟨by refine Sh.set HSH.out hz ?_ _; rw [sh_add_block]; exact hSad⟩⟩
    · have hd : decide (j < n) = false := decide_eq_false hlt
      have HD := Aside0.mk hlt
      clear hlt
      go_wp2
      go_ret
      exact ⟨by have := HK.out; have := HD.out; rw [show j = n by omega]; rfl, by repeat (first | exact HB.out | apply below_alloc | apply pw_below_drewN | apply below_drew1), by first | exact HSH.out | exact Sh.drewN HSH.out _⟩
theorem lawHeldIntS.calls (k : Nat) (A : Option Addr) (c n : Nat) (l : List Int) (a r : Int) (w : World) (hn : n = l.length) (hr : Kd.C (Kd.int .i64) w A l.length l) (hc : l.length ≤ c) (h : laws_heldIntS.f k l a = some r) :
    Calls Try.prog 30 #[.slice A n c, .int .i64 a] w fun e w' => e = .returned (.int .i64 r) ∧ Drawn0 w w' := by
  subst hn
  exact laws_heldIntS.calls k A c l a r w hr hc h
def tot60 (l : List S60) : Nat := (l.map fun s => s.f0.length + s.f1.length).sum
def At60 (S : Nat → Prop) (w : World) (A : Option Addr) (l : List S60) : Prop :=
  l.length ≤ 9223372036854775807 ∧ (0 < l.length → ∃ ad, A = some ad ∧ ∀ j, j < l.length → ∃ A0 c0 A1 c1, w.cell? (ad.add (j * 2)) = some (.slice A0 (rd_T60 l j).f0.length c0) ∧ w.cell? ⟨(ad.add (j * 2)).block, (ad.add (j * 2)).off + 1, none⟩ = some (.slice A1 (rd_T60 l j).f1.length c1) ∧ Ints S w A0 (rd_T60 l j).f0.length ∧ Ints S w A1 (rd_T60 l j).f1.length)
theorem At60.sh {S : Nat → Prop} {w w' : World} {A : Option Addr} {l : List S60} (h : At60 S w A l) (k : Sh S w w') : At60 S w' A l := by
  refine ⟨h.1, fun hp => ?_⟩
  obtain ⟨ad, rfl, hc⟩ := h.2 hp
  refine ⟨ad, rfl, fun j hj => ?_⟩
  obtain ⟨A0, c0, A1, c1, h0, h1, h2, h3⟩ := hc j hj
  exact ⟨A0, c0, A1, c1, k.cell h0 (fun _ => by simp), k.cell h1 (fun _ => by simp), h2.sh k, h3.sh k⟩
theorem At60.of_S {S ok : Nat → Prop} {w : World} {base : Nat} {v : Value} {l : List S60} (h : Kd.S k60 60 w base ok v l) (hs : ∀ k, ok k → S k) : ∃ A c, v = .slice A l.length c ∧ At60 S w A l := by
  have hR := Kd.S_R h
  obtain ⟨A, c, rfl, hl, hC⟩ := Kd.R_reads hR
  refine ⟨A, c, rfl, hC.2.1, fun hp => ?_⟩
  obtain ⟨g, cap, eq, hb, hlt, _, hG⟩ := Kd.R_form hR hp
  injection eq with ea _ ec
  subst ea
  subst ec
  refine ⟨_, rfl, fun j hj => ?_⟩
  obtain ⟨cs, hcl, hM, hcc, hf⟩ := Kd.R_elem hR z60 (j : Int) (by omega) (by omega)
  obtain ⟨v0, v1, rfl, r0, r1⟩ := k60_openM hM
  obtain ⟨A0, c0, rfl, i0⟩ := Ints.of_R r0 (fun k hk => hs k hk.1)
  obtain ⟨A1, c1, rfl, i1⟩ := Ints.of_R r1 (fun k hk => hs k hk.1)
  have h0 := hcc 0 _ rfl
  have h1 := hcc 1 _ rfl
  rw [Int.toNat_natCast] at h0 h1
  refine ⟨A0, c0, A1, c1, ?_, ?_, i0, i1⟩
  · rw [add_plain]; exact h0
  · rw [add_plain]; exact h1
theorem tot60_snoc (l : List S60) (j : Nat) (h : j < l.length) : tot60 (l.take (j + 1)) = tot60 (l.take j) + ((rd_T60 l j).f0.length + (rd_T60 l j).f1.length) := by
  unfold tot60
  rw [List.take_succ_eq_append_getElem h, List.map_append, List.sum_append]
  simp [rd_T60, List.getD_eq_getElem?_getD, h]
theorem tot60_le (l : List S60) (j : Nat) : tot60 (l.take j) ≤ tot60 l := by
  conv => rhs; rw [← List.take_append_drop j l]
  unfold tot60
  rw [List.map_append, List.sum_append]
  omega
set_option maxHeartbeats 8000000 in
set_option maxRecDepth 100000 in
theorem shMarkStepS.calls (S : Nat → Prop) (A : Option Addr) (c : Nat) (l : List S60) (a : Int) (w0 w : World) (hB : Below w0.heap.size w0 w) (hS : ∀ k, S k → w0.heap.size ≤ k) (hi : At60 S w A l) (ha : 0 ≤ a) (han : a + tot60 l ≤ 9223372036854775807) :
    Calls Try.prog 64 #[.slice A l.length c, .int .i64 a] w fun e w' => e = .returned (.int .i64 (a + tot60 l)) ∧ Below w0.heap.size w0 w' ∧ Sh S w w' := by
  have HI := Aside0.mk hi
  have HS := Aside0.mk hS
  have HB := Aside0.mk hB
  have HA := Aside0.mk ha
  have HAN := Aside0.mk han
  have HSH := Aside0.mk (Sh.refl S w)
  clear hi hS hB ha han
  go_enter Try.func64, Try.ntmps64
  go_wp2
  go_loopg [1, 5] l.length (fun kq v1 v5 w' => ∃ j : Nat, v1 = .int .i64 (a + (tot60 (l.take j) : Nat)) ∧ v5 = .int .i64 (j : Int) ∧ Aside0 (kq + j = l.length) ∧ Aside0 (Below w0.heap.size w0 w') ∧ Aside0 (Sh S w w'))
  case atStart => exact ⟨0, by simp [tot60], by simp, ⟨by omega⟩, ⟨by repeat (first | exact HB.out | apply below_alloc | apply pw_below_drewN | apply below_drew1)⟩, ⟨by first | exact HSH.out | exact Sh.drewN HSH.out _⟩⟩
  case round =>
    clear HB HSH
    obtain ⟨j, rfl, rfl, HK, HB, HSH⟩ := hrel
    by_cases hlt : j < l.length
    · obtain ⟨ad, rfl, hcell⟩ := (HI.out.sh HSH.out).2 (by omega)
      obtain ⟨A0, c0, A1, c1, hx0, hx1, hi0, hi1⟩ := hcell j hlt
      have HI0 := Aside0.mk hi0
      have HI1 := Aside0.mk hi1
      have hd : decide (j < l.length) = true := decide_eq_true hlt
      have hd0 : decide (0 ≤ (j : Int)) = true := decide_eq_true (by omega)
      have HD := Aside0.mk hlt
      have HT := Aside0.mk (tot60_snoc l j hlt)
      have HL := Aside0.mk (tot60_le l (j + 1))
      clear hcell hi0 hi1
      cases gk with
      | zero => exact absurd HK.out (by have := HD.out; omega)
      | succ k1 =>
        go_wp2_with fail
        refine (shMarkIntS.calls S A0 c0 _ _ w0 _ ?hb HS.out ?hi (by have := HA.out; omega) (by have := HA.out; have := HAN.out; have := HT.out; have := HL.out; omega)).mono ?_
        case hb => repeat (first | exact HB.out | apply below_alloc | apply pw_below_drewN | apply below_drew1)
        case hi => exact HI0.out
        rintro e w1 ⟨rfl, hb1, hs1⟩
        have hx1' := hs1.cell hx1 (fun _ => by simp)
        have hx0' := hs1.cell hx0 (fun _ => by simp)
        have HB1 := Aside0.mk hb1
        have HS1 := Aside0.mk hs1
        clear hb1 hs1 hx0 hx1
        go_wp2_with fail
        refine (shMarkIntS.calls S A1 c1 _ _ w0 _ ?hb HS.out ?hi (by have := HA.out; omega) (by have := HA.out; have := HAN.out; have := HT.out; have := HL.out; omega)).mono ?_
        case hb => repeat (first | exact HB1.out | apply below_alloc | apply pw_below_drewN | apply below_drew1)
        case hi => exact HI1.out.sh HS1.out
        rintro e w2 ⟨rfl, hb2, hs2⟩
        have HB2 := Aside0.mk hb2
        have HS2 := Aside0.mk hs2
        clear hb2 hs2 hx0' hx1'
        go_wp2
        go_roundg k1
        case measure => omega
        case rel => 
          exact ⟨j + 1, by have := HT.out; congr 1; omega, by have := HI.out.1; have := HD.out; congr 1; unfold wrap64; omega, ⟨by have := HK.out; omega⟩, ⟨by repeat (first | exact HB2.out | apply below_alloc | apply pw_below_drewN | apply below_drew1)⟩, ⟨by first | exact (HSH.out.trans HS1.out).trans HS2.out | exact Sh.drewN ((HSH.out.trans HS1.out).trans HS2.out) _⟩⟩
    · have hd : decide (j < l.length) = false := decide_eq_false hlt
      have HD := Aside0.mk hlt
      clear hlt
      go_wp2
      go_ret
      exact ⟨by have := HK.out; have := HD.out; rw [show j = l.length by omega, List.take_length]; rfl, by repeat (first | exact HB.out | apply below_alloc | apply pw_below_drewN | apply below_drew1), by first | exact HSH.out | exact Sh.drewN HSH.out _⟩
set_option maxHeartbeats 8000000 in
set_option maxRecDepth 100000 in
theorem shMarkNet.calls (S : Nat → Prop) (n0 : Int) (A : Option Addr) (c : Nat) (l : List S60) (a : Int) (w0 w : World) (hB : Below w0.heap.size w0 w) (hS : ∀ k, S k → w0.heap.size ≤ k) (hi : At60 S w A l) (ha : 0 ≤ a) (han : a + tot60 l ≤ 9223372036854775807) :
    Calls Try.prog 28 #[.agg #[.int .i64 n0, .slice A l.length c], .int .i64 a] w fun e w' => e = .returned (.int .i64 (a + tot60 l)) ∧ Below w0.heap.size w0 w' ∧ Sh S w w' := by
  have HI := Aside0.mk hi
  have HS := Aside0.mk hS
  have HB := Aside0.mk hB
  have HA := Aside0.mk ha
  have HAN := Aside0.mk han
  have HSH := Aside0.mk (Sh.refl S w)
  clear hi hS hB ha han
  go_enter Try.func28, Try.ntmps28
  go_wp2_with fail
  refine (shMarkStepS.calls S A c _ _ w0 _ ?hb HS.out ?hi HA.out HAN.out).mono ?_
  case hb => repeat (first | exact HB.out | apply below_alloc | apply pw_below_drewN | apply below_drew1)
  case hi => exact HI.out.sh (Sh.alloc (Sh.refl _ _) _)
  rintro e w1 ⟨rfl, hb1, hs1⟩
  have HB1 := Aside0.mk hb1
  have HS1 := Aside0.mk ((Sh.alloc (Sh.refl _ _) _).trans hs1)
  clear hb1 hs1
  go_wp2
  go_ret
  exact ⟨rfl, by repeat (first | exact HB1.out | apply below_alloc | apply pw_below_drewN | apply below_drew1), by first | exact HS1.out | exact Sh.drewN HS1.out _⟩
def laws_FnExactFinishFrom.f (k : Nat) (a0_0 : Int) (l0_1 : List S90) (l1 : List Int) : Option Bool :=
  if (l1.length : Int) > 1048576 then some true else
  (laws_szNet.f k a0_0 l0_1 1048576).bind fun t => if t < 0 then some true else
  (laws_toNet.f k a0_0 l0_1).bind fun n0 =>
  (laws_toIntS.f k l1).bind fun m1 =>
  (spec_FinishFrom.f k n0.1 n0.2 m1).bind fun s =>
  (impl_FinishFrom.f k n0.1 n0.2 m1).bind fun g =>
  (laws_eqIntS.f k s.1 s.1).bind fun b0 =>
  (laws_eqNet.f k n0.1 n0.2 n0.1 n0.2).bind fun b1 =>
  (laws_eqIntS.f k m1 m1).bind fun b2 =>
  (laws_markIntS.f k s.1 1).bind fun mk => (laws_heldIntS.f k mk.2 1).bind fun q =>
  if g = s ∧ b0 = true ∧ b1 = true ∧ b2 = true ∧ 1 + (tot60 n0.2 : Int) + (m1.length : Int) ≤ 9223372036854775807 ∧ q = mk.1 ∧ ¬ q < 0 then some true else none
set_option maxHeartbeats 8000000 in
set_option maxRecDepth 100000 in
theorem laws_FnExactFinishFrom.calls (k : Nat) (a0_0 : Int) (A0_1 : Option Addr) (c0_1 : Nat) (l0_1 : List S90) (A1 : Option Addr) (c1 : Nat) (l1 : List Int) (r : Bool) (w : World) (hr0_1 : Kd.C k90 w A0_1 l0_1.length l0_1) (hc0_1 : l0_1.length ≤ c0_1) (hr1 : Kd.C (Kd.int .i64) w A1 l1.length l1) (hc1 : l1.length ≤ c1) (h : laws_FnExactFinishFrom.f k a0_0 l0_1 l1 = some r) :
    Calls Try.prog 12 #[.agg #[.int .i64 a0_0, .slice A0_1 l0_1.length c0_1], .slice A1 l1.length c1] w fun e w' => e = .returned (.bool r) ∧ Below w.heap.size w w' := by
  have HR0_1 := Aside0.mk hr0_1
  have HC0_1 := Aside0.mk hc0_1
  have HR1 := Aside0.mk hr1
  have HC1 := Aside0.mk hc1
  have HB := Aside0.mk (Below.refl w.heap.size w)
  clear hr0_1 hc0_1 hr1 hc1
  unfold laws_FnExactFinishFrom.f at h
  by_cases hLl1 : (l1.length : Int) > 1048576
  · rw [if_pos hLl1] at h
    obtain rfl := Option.some.inj h
    have hdl1 : decide ((l1.length : Int) > 1048576) = true := decide_eq_true hLl1
    go_enter Try.func12, Try.ntmps12
    go_wp2
    go_ret
    exact ⟨rfl, by repeat (first | exact HB.out | apply below_alloc | apply pw_below_drewN | apply below_drew1)⟩
  rw [if_neg hLl1] at h
  have hdl1 : decide ((l1.length : Int) > 1048576) = false := decide_eq_false hLl1
  clear hLl1
  obtain ⟨t, T, h⟩ := Option.bind_eq_some_iff.1 h
  have HT := Aside0.mk T
  clear T
  by_cases ht : t < 0
  · rw [if_pos ht] at h
    obtain rfl := Option.some.inj h
    have hdt : decide (t < 0) = true := decide_eq_true ht
    clear ht
    go_enter Try.func12, Try.ntmps12
    go_wp2_with fail
    refine (laws_szNet.calls k a0_0 A0_1 c0_1 l0_1 1048576 t _ (Kd.C_below HR0_1.out (by repeat (first | exact HB.out | apply below_alloc | apply pw_below_drewN | apply below_drew1))) HC0_1.out HT.out).mono ?_
    rintro e w1 ⟨rfl, hb⟩
    have HB1 : Aside0 (Below w.heap.size w w1) := ⟨bel_then (by repeat (first | exact HB.out | apply below_alloc | apply pw_below_drewN | apply below_drew1)) hb⟩
    clear hb
    go_wp2
    go_ret
    exact ⟨rfl, by repeat (first | exact HB1.out | apply below_alloc | apply pw_below_drewN | apply below_drew1)⟩
  rw [if_neg ht] at h
  have hdt : decide (t < 0) = false := decide_eq_false ht
  clear ht
  obtain ⟨⟨n0a, n0b⟩, hn0, h⟩ := Option.bind_eq_some_iff.1 h
  obtain ⟨m1, hm1, h⟩ := Option.bind_eq_some_iff.1 h
  obtain ⟨⟨s0, s1⟩, hS, h⟩ := Option.bind_eq_some_iff.1 h
  obtain ⟨g, hG, h⟩ := Option.bind_eq_some_iff.1 h
  obtain ⟨b0, hE0, h⟩ := Option.bind_eq_some_iff.1 h
  obtain ⟨b1, hE1, h⟩ := Option.bind_eq_some_iff.1 h
  obtain ⟨b2, hE2, h⟩ := Option.bind_eq_some_iff.1 h
  obtain ⟨⟨mk1, mk2⟩, hMK, h⟩ := Option.bind_eq_some_iff.1 h
  obtain ⟨q, hQ, h⟩ := Option.bind_eq_some_iff.1 h
  try simp only at hn0 hm1 hS hG hE0 hE1 hE2 hMK hQ h
  split at h
  case isFalse => cases h
  rename_i hh
  obtain rfl := Option.some.inj h
  obtain ⟨rfl, rfl, rfl, rfl, hsz, rfl, hq⟩ := hh
  have HN0 := Aside0.mk hn0
  have HM1 := Aside0.mk hm1
  have HSP := Aside0.mk hS
  have HG := Aside0.mk hG
  have HE0 := Aside0.mk hE0
  have HE1 := Aside0.mk hE1
  have HE2 := Aside0.mk hE2
  have HMK := Aside0.mk hMK
  have HQ := Aside0.mk hQ
  have HSZ := Aside0.mk hsz
  have hdq : decide (q < 0) = false := decide_eq_false hq
  clear hn0 hm1 hS hG hE0 hE1 hE2 hMK hQ hsz hq h
  go_enter Try.func12, Try.ntmps12
  go_wp2_with fail
  refine (laws_szNet.calls k a0_0 A0_1 c0_1 l0_1 1048576 t _ (Kd.C_below HR0_1.out (by repeat (first | exact HB.out | apply below_alloc | apply pw_below_drewN | apply below_drew1))) HC0_1.out HT.out).mono ?_
  rintro e w1 ⟨rfl, hb⟩
  have nBX0 : Aside0 (w1.heap[w.heap.size]? = some (.cells #[.int .i64 a0_0, .slice A0_1 l0_1.length c0_1] 24 (0, 0))) := ⟨blk_below (by first | exact heap_alloc_new _ _ | (have h_ := heap_alloc_new (w.alloc (.cells #[.int .i64 a0_0, .slice A0_1 l0_1.length c0_1] 24)) (.cells #[.int .i64 a0_0, .slice A0_1 l0_1.length c0_1] 24); simpa using h_)) hb⟩
  have nHB : Aside0 (Below w.heap.size w w1) := ⟨bel_then (by repeat (first | exact HB.out | apply below_alloc | apply pw_below_drewN | apply below_drew1)) hb⟩
  have ZC : Aside0 (w.heap.size + 1 ≤ w1.heap.size) := ⟨by have := hb.size; simpa using this⟩
  have ZW : Aside0 (w.heap.size ≤ w.heap.size + 1) := ⟨Nat.le_add_right _ _⟩
  clear HB hb
  have HB := nHB
  clear nHB
  have BX0 := nBX0
  clear nBX0
  have zc0_0 : w1.cell? ⟨w.heap.size, 0, none⟩ = some (.int .i64 a0_0) := (blk_cell BX0.out 0).trans rfl
  have zc0_1 : w1.cell? ⟨w.heap.size, 1, none⟩ = some (.slice A0_1 l0_1.length c0_1) := (blk_cell BX0.out 1).trans rfl
  go_wp2_with fail
  refine (laws_toNet.calls k a0_0 A0_1 c0_1 l0_1 n0a n0b _ (Kd.C_below HR0_1.out (bel_then HB.out (by repeat (first | exact Below.refl _ _ | apply below_alloc | apply pw_below_drewN | apply below_drew1)))) HC0_1.out HN0.out).mono ?_
  rintro e w2 ⟨v, rfl, hr, hb⟩
  clear zc0_0 zc0_1
  have ST : Below w1.heap.size w1 w2 := bel_then (by repeat (first | exact Below.refl _ _ | apply below_alloc | apply pw_below_drewN | apply below_drew1)) hb
  obtain ⟨lo1, hi1, A1_, c1_, hz1, hc1, rfl, ho1⟩ := law_madeS (n := (w.heap.size + 1)) hr hb ZC.out (by repeat (first | exact Below.refl _ _ | apply below_alloc | apply pw_below_drewN | apply below_drew1))
  have ZL1 := Aside0.mk hz1
  have HO1 := Aside0.mk ho1
  clear ho1 hz1
  have nZC := Aside0.mk hc1
  clear hc1
  have nHB : Aside0 (Below w.heap.size w w2) := ⟨bel_then HB.out ST⟩
  have nBX0 := Aside0.mk (blk_below BX0.out ST)
  clear HB ZC BX0 ST hb hr
  have HB := nHB
  clear nHB
  have ZC := nZC
  clear nZC
  have BX0 := nBX0
  clear nBX0
  have zc0_0 : w2.cell? ⟨w.heap.size, 0, none⟩ = some (.int .i64 a0_0) := (blk_cell BX0.out 0).trans rfl
  have zc0_1 : w2.cell? ⟨w.heap.size, 1, none⟩ = some (.slice A0_1 l0_1.length c0_1) := (blk_cell BX0.out 1).trans rfl
  go_wp2_with fail
  refine (laws_toIntS.calls k _ _ l1 m1 _ (Kd.C_below HR1.out (bel_then HB.out (by repeat (first | exact Below.refl _ _ | apply below_alloc | apply pw_below_drewN | apply below_drew1)))) HC1.out HM1.out).mono ?_
  rintro e w3 ⟨v, rfl, hr, hb⟩
  clear zc0_0 zc0_1
  have ST : Below w2.heap.size w2 w3 := bel_then (by repeat (first | exact Below.refl _ _ | apply below_alloc | apply pw_below_drewN | apply below_drew1)) hb
  obtain ⟨lo2, hi2, A2_, c2_, hz2, hc2, rfl, ho2⟩ := law_madeR (n := hi1) hr hb ZC.out (by repeat (first | exact Below.refl _ _ | apply below_alloc | apply pw_below_drewN | apply below_drew1))
  have ZL2 := Aside0.mk hz2
  have HO2 := Aside0.mk ho2
  clear ho2 hz2
  have nZC := Aside0.mk hc2
  clear hc2
  have nHB : Aside0 (Below w.heap.size w w3) := ⟨bel_then HB.out ST⟩
  have nHO1 := Aside0.mk (Kd.S_below HO1.out ST)
  have nBX0 := Aside0.mk (blk_below BX0.out ST)
  clear HB ZC HO1 BX0 ST hb hr
  have HB := nHB
  clear nHB
  have ZC := nZC
  clear nZC
  have HO1 := nHO1
  clear nHO1
  have BX0 := nBX0
  clear nBX0
  have zc0_0 : w3.cell? ⟨w.heap.size, 0, none⟩ = some (.int .i64 a0_0) := (blk_cell BX0.out 0).trans rfl
  have zc0_1 : w3.cell? ⟨w.heap.size, 1, none⟩ = some (.slice A0_1 l0_1.length c0_1) := (blk_cell BX0.out 1).trans rfl
  go_wp2_with fail
  refine (spec_FinishFrom.calls k n0a _ _ n0b _ _ m1 s0 s1 _ (law_C (Kd.S_R HO1.out) (by repeat (first | exact Below.refl _ _ | apply below_alloc | apply pw_below_drewN | apply below_drew1))) (law_c (Kd.S_R HO1.out)) (law_C HO2.out (by repeat (first | exact Below.refl _ _ | apply below_alloc | apply pw_below_drewN | apply below_drew1))) (law_c HO2.out) HSP.out).mono ?_
  rintro e w4 ⟨v, rfl, hr, hb⟩
  clear zc0_0 zc0_1
  have ST : Below w3.heap.size w3 w4 := bel_then (by repeat (first | exact Below.refl _ _ | apply below_alloc | apply pw_below_drewN | apply below_drew1)) hb
  obtain ⟨lo3, hi3, A3_, c3_, hz3, hc3, rfl, ho3⟩ := law_madeR (n := hi2) hr hb ZC.out (by repeat (first | exact Below.refl _ _ | apply below_alloc | apply pw_below_drewN | apply below_drew1))
  have ZL3 := Aside0.mk hz3
  have HO3 := Aside0.mk ho3
  clear ho3 hz3
  have nZC := Aside0.mk hc3
  clear hc3
  have nHB : Aside0 (Below w.heap.size w w4) := ⟨bel_then HB.out ST⟩
  have nHO1 := Aside0.mk (Kd.S_below HO1.out ST)
  have nHO2 := Aside0.mk (Kd.R_below HO2.out ST)
  have nBX0 := Aside0.mk (blk_below BX0.out ST)
  clear HB ZC HO1 HO2 BX0 ST hb hr
  have HB := nHB
  clear nHB
  have ZC := nZC
  clear nZC
  have HO1 := nHO1
  clear nHO1
  have HO2 := nHO2
  clear nHO2
  have BX0 := nBX0
  clear nBX0
  clear HO1 HO2
  have zc0_0 : w4.cell? ⟨w.heap.size, 0, none⟩ = some (.int .i64 a0_0) := (blk_cell BX0.out 0).trans rfl
  have zc0_1 : w4.cell? ⟨w.heap.size, 1, none⟩ = some (.slice A0_1 l0_1.length c0_1) := (blk_cell BX0.out 1).trans rfl
  go_wp2_with fail
  refine (laws_toNet.calls k a0_0 A0_1 c0_1 l0_1 n0a n0b _ (Kd.C_below HR0_1.out (bel_then HB.out (by repeat (first | exact Below.refl _ _ | apply below_alloc | apply pw_below_drewN | apply below_drew1)))) HC0_1.out HN0.out).mono ?_
  rintro e w5 ⟨v, rfl, hr, hb⟩
  clear zc0_0 zc0_1
  have ST : Below w4.heap.size w4 w5 := bel_then (by repeat (first | exact Below.refl _ _ | apply below_alloc | apply pw_below_drewN | apply below_drew1)) hb
  obtain ⟨lo4, hi4, A4_, c4_, hz4, hc4, rfl, ho4⟩ := law_madeS (n := hi3) hr hb ZC.out (by repeat (first | exact Below.refl _ _ | apply below_alloc | apply pw_below_drewN | apply below_drew1))
  have ZL4 := Aside0.mk hz4
  have HO4 := Aside0.mk ho4
  clear ho4 hz4
  have nZC := Aside0.mk hc4
  clear hc4
  have nHB : Aside0 (Below w.heap.size w w5) := ⟨bel_then HB.out ST⟩
  have nHO3 := Aside0.mk (Kd.R_below HO3.out ST)
  have nBX0 := Aside0.mk (blk_below BX0.out ST)
  clear HB ZC HO3 BX0 ST hb hr
  have HB := nHB
  clear nHB
  have ZC := nZC
  clear nZC
  have HO3 := nHO3
  clear nHO3
  have BX0 := nBX0
  clear nBX0
  have zc0_0 : w5.cell? ⟨w.heap.size, 0, none⟩ = some (.int .i64 a0_0) := (blk_cell BX0.out 0).trans rfl
  have zd0_0 := pw_cell_below (below_alloc (Below.refl _ _) (.cells #[.int .i64 n0a, .slice A4_ n0b.length c4_] 29)) zc0_0
  have zc0_1 : w5.cell? ⟨w.heap.size, 1, none⟩ = some (.slice A0_1 l0_1.length c0_1) := (blk_cell BX0.out 1).trans rfl
  have zd0_1 := pw_cell_below (below_alloc (Below.refl _ _) (.cells #[.int .i64 n0a, .slice A4_ n0b.length c4_] 29)) zc0_1
  go_wp2_with fail
  refine (laws_toIntS.calls k _ _ l1 m1 _ (Kd.C_below HR1.out (bel_then HB.out (by repeat (first | exact Below.refl _ _ | apply below_alloc | apply pw_below_drewN | apply below_drew1)))) HC1.out HM1.out).mono ?_
  rintro e w6 ⟨v, rfl, hr, hb⟩
  clear zc0_0 zd0_0 zc0_1 zd0_1
  have ST : Below w5.heap.size w5 w6 := bel_then (by repeat (first | exact Below.refl _ _ | apply below_alloc | apply pw_below_drewN | apply below_drew1)) hb
  have mBX1 : Aside0 (w6.heap[w5.heap.size]? = some (.cells #[.int .i64 n0a, .slice A4_ n0b.length c4_] 29 (0, 0))) := ⟨blk_below (by first | exact heap_alloc_new _ _ | (have h_ := heap_alloc_new (w5.alloc (.cells #[.int .i64 n0a, .slice A4_ n0b.length c4_] 29)) (.cells #[.int .i64 n0a, .slice A4_ n0b.length c4_] 29); simpa using h_)) hb⟩
  have ZL5 := Aside0.mk (show hi4 ≤ w5.heap.size from ZC.out)
  clear ZC
  have ZC : Aside0 (w5.heap.size + 1 ≤ w6.heap.size) := ⟨by have := hb.size; simpa using this⟩
  obtain ⟨lo6, hi6, A6_, c6_, hz6, hc6, rfl, ho6⟩ := law_madeR (n := (w5.heap.size + 1)) hr hb (by simp) (Below.refl _ _)
  have ZL6 := Aside0.mk hz6
  have HO6 := Aside0.mk ho6
  clear ho6 hz6
  have nZC := Aside0.mk hc6
  clear hc6
  have nHB : Aside0 (Below w.heap.size w w6) := ⟨bel_then HB.out ST⟩
  have nHO3 := Aside0.mk (Kd.R_below HO3.out ST)
  have nHO4 := Aside0.mk (Kd.S_below HO4.out ST)
  have nBX0 := Aside0.mk (blk_below BX0.out ST)
  clear HB ZC HO3 HO4 BX0 ST hb hr
  have HB := nHB
  clear nHB
  have ZC := nZC
  clear nZC
  have HO3 := nHO3
  clear nHO3
  have HO4 := nHO4
  clear nHO4
  have BX0 := nBX0
  clear nBX0
  have BX1 := mBX1
  clear mBX1
  have zc0_0 : w6.cell? ⟨w.heap.size, 0, none⟩ = some (.int .i64 a0_0) := (blk_cell BX0.out 0).trans rfl
  have zc0_1 : w6.cell? ⟨w.heap.size, 1, none⟩ = some (.slice A0_1 l0_1.length c0_1) := (blk_cell BX0.out 1).trans rfl
  have zc1_0 : w6.cell? ⟨w5.heap.size, 0, none⟩ = some (.int .i64 n0a) := (blk_cell BX1.out 0).trans rfl
  have zc1_1 : w6.cell? ⟨w5.heap.size, 1, none⟩ = some (.slice A4_ n0b.length c4_) := (blk_cell BX1.out 1).trans rfl
  go_wp2_with fail
  refine (impl_FinishFrom.calls k n0a _ _ n0b _ _ m1 s0 s1 _ (law_C (Kd.S_R HO4.out) (by repeat (first | exact Below.refl _ _ | apply below_alloc | apply pw_below_drewN | apply below_drew1))) (law_c (Kd.S_R HO4.out)) (Kd.R_lower (Kd.R_below HO6.out (by repeat (first | exact Below.refl _ _ | apply below_alloc | apply pw_below_drewN | apply below_drew1))) (by have := ZL1.out; have := ZL2.out; have := ZL3.out; have := ZL4.out; have := ZL5.out; have := ZL6.out; have := ZC.out; have := ZW.out; omega)) (bel_then HB.out (by repeat (first | exact Below.refl _ _ | apply below_alloc | apply pw_below_drewN | apply below_drew1))).size HG.out).mono ?_
  rintro e w7 ⟨v, rfl, hr, hb⟩
  clear zc0_0 zc0_1 zc1_0 zc1_1
  have ST : Below w6.heap.size w6 w7 := bel_then (by repeat (first | exact Below.refl _ _ | apply below_alloc | apply pw_below_drewN | apply below_drew1)) hb
  obtain ⟨lo7, hi7, A7_, c7_, hz7, hc7, rfl, ho7⟩ := law_madeR (n := hi6) hr hb ZC.out (by repeat (first | exact Below.refl _ _ | apply below_alloc | apply pw_below_drewN | apply below_drew1))
  have ZL7 := Aside0.mk hz7
  have HO7 := Aside0.mk ho7
  clear ho7 hz7
  have nZC := Aside0.mk hc7
  clear hc7
  have nHB : Aside0 (Below w.heap.size w w7) := ⟨bel_then HB.out ST⟩
  have nHO3 := Aside0.mk (Kd.R_below HO3.out ST)
  have nHO4 := Aside0.mk (Kd.S_below HO4.out ST)
  have nHO6 := Aside0.mk (Kd.R_below HO6.out ST)
  have nBX0 := Aside0.mk (blk_below BX0.out ST)
  have nBX1 := Aside0.mk (blk_below BX1.out ST)
  clear HB ZC HO3 HO4 HO6 BX0 BX1 ST hb hr
  have HB := nHB
  clear nHB
  have ZC := nZC
  clear nZC
  have HO3 := nHO3
  clear nHO3
  have HO4 := nHO4
  clear nHO4
  have HO6 := nHO6
  clear nHO6
  have BX0 := nBX0
  clear nBX0
  have BX1 := nBX1
  clear nBX1
  have zc0_0 : w7.cell? ⟨w.heap.size, 0, none⟩ = some (.int .i64 a0_0) := (blk_cell BX0.out 0).trans rfl
  have zc0_1 : w7.cell? ⟨w.heap.size, 1, none⟩ = some (.slice A0_1 l0_1.length c0_1) := (blk_cell BX0.out 1).trans rfl
  have zc1_0 : w7.cell? ⟨w5.heap.size, 0, none⟩ = some (.int .i64 n0a) := (blk_cell BX1.out 0).trans rfl
  have zc1_1 : w7.cell? ⟨w5.heap.size, 1, none⟩ = some (.slice A4_ n0b.length c4_) := (blk_cell BX1.out 1).trans rfl
  go_wp2_with fail
  refine (laws_eqIntS.calls k _ _ s0 _ _ s0 true _ (law_C HO7.out (by repeat (first | exact Below.refl _ _ | apply below_alloc | apply pw_below_drewN | apply below_drew1))) (law_c HO7.out) (law_C HO3.out (by repeat (first | exact Below.refl _ _ | apply below_alloc | apply pw_below_drewN | apply below_drew1))) (law_c HO3.out) HE0.out).mono ?_
  rintro e w8 ⟨rfl, hd⟩
  have hb := hd.below
  clear zc0_0 zc0_1 zc1_0 zc1_1
  have ST : Below w7.heap.size w7 w8 := bel_then (by repeat (first | exact Below.refl _ _ | apply below_alloc | apply pw_below_drewN | apply below_drew1)) hb
  have nZC := Aside0.mk (Nat.le_trans ZC.out ST.size)
  have nHB : Aside0 (Below w.heap.size w w8) := ⟨bel_then HB.out ST⟩
  have nHO3 := Aside0.mk (Kd.R_below HO3.out ST)
  have nHO4 := Aside0.mk (Kd.S_below HO4.out ST)
  have nHO6 := Aside0.mk (Kd.R_below HO6.out ST)
  have nHO7 := Aside0.mk (Kd.R_below HO7.out ST)
  have nBX0 := Aside0.mk (blk_below BX0.out ST)
  have nBX1 := Aside0.mk (blk_below BX1.out ST)
  clear HB ZC HO3 HO4 HO6 HO7 BX0 BX1 ST hb hd
  have HB := nHB
  clear nHB
  have ZC := nZC
  clear nZC
  have HO3 := nHO3
  clear nHO3
  have HO4 := nHO4
  clear nHO4
  have HO6 := nHO6
  clear nHO6
  have HO7 := nHO7
  clear nHO7
  have BX0 := nBX0
  clear nBX0
  have BX1 := nBX1
  clear nBX1
  have zc0_0 : w8.cell? ⟨w.heap.size, 0, none⟩ = some (.int .i64 a0_0) := (blk_cell BX0.out 0).trans rfl
  have zc0_1 : w8.cell? ⟨w.heap.size, 1, none⟩ = some (.slice A0_1 l0_1.length c0_1) := (blk_cell BX0.out 1).trans rfl
  have zc1_0 : w8.cell? ⟨w5.heap.size, 0, none⟩ = some (.int .i64 n0a) := (blk_cell BX1.out 0).trans rfl
  have zc1_1 : w8.cell? ⟨w5.heap.size, 1, none⟩ = some (.slice A4_ n0b.length c4_) := (blk_cell BX1.out 1).trans rfl
  try go_wp2
  clear zc0_0 zc0_1 zc1_0 zc1_1
  refine start_ (n := 5) (S := fun w' => w'.cell? ⟨w.heap.size, 0, none⟩ = some (.int .i64 a0_0) ∧ w'.cell? ⟨w.heap.size, 1, none⟩ = some (.slice A0_1 l0_1.length c0_1) ∧ w'.cell? ⟨w5.heap.size, 0, none⟩ = some (.int .i64 n0a) ∧ w'.cell? ⟨w5.heap.size, 1, none⟩ = some (.slice A4_ n0b.length c4_)) (ds := []) #[false, false, false, false, false] (by kernel_rfl) rfl rfl ⟨(blk_cell BX0.out 0).trans rfl, (blk_cell BX0.out 1).trans rfl, (blk_cell BX1.out 0).trans rfl, (blk_cell BX1.out 1).trans rfl⟩ (fun hHeld => ?_)
  refine take_ (i := 0) (N := some 52) (v := ?_) (a' := ?_) #[true, false, false, false, false] rfl rfl (by kernel_rfl) (fun _ _ _ h => h) (Or.inl ⟨by rfl, ?_⟩) hHeld ?_ ?_
  rotate_left
  · rintro w' ⟨s0, s1, s2, s3⟩
    go_simp
    with_reducible rfl
  rotate_left
  · simp only [Act.put, List.setIfInBounds_toArray, List.set_cons_zero, List.set_cons_succ, i64_w, i32_w]
    rfl
  refine take_ (i := 1) (N := some 53) (v := ?_) (a' := ?_) #[true, true, false, false, false] rfl rfl (by kernel_rfl) (fun _ _ _ h => h) (Or.inl ⟨by rfl, ?_⟩) hHeld ?_ ?_
  rotate_left
  · rintro w' ⟨s0, s1, s2, s3⟩
    go_simp
    with_reducible rfl
  rotate_left
  · simp only [Act.put, List.setIfInBounds_toArray, List.set_cons_zero, List.set_cons_succ, i64_w, i32_w]
    rfl
  refine one_ (i := 2) (N := some 54) #[true, true, true, false, false] rfl rfl (by kernel_rfl) (by decide) (fun K hK => ?_)
  refine goes_ Try.func15 (by kernel_rfl) rfl #[.agg #[.int .i64 a0_0, .slice A0_1 l0_1.length c0_1]] (by rfl) rfl rfl (by (try simp only [List.map_toArray, List.map_cons, List.map_nil]); first | done | rfl | (simp only [List.length_drop, List.length_take]; rfl)) ?_
  refine (laws_toNet.calls k a0_0 A0_1 c0_1 l0_1 n0a n0b _ (Kd.C_below HR0_1.out (bel_then HB.out (by repeat (first | exact Below.refl _ _ | apply below_alloc | apply pw_below_drewN | apply below_drew1)))) HC0_1.out HN0.out).mono ?_
  rintro e w9 ⟨v, rfl, hr, hb⟩
  refine ⟨_, rfl, ?_⟩
  have ST : Below w8.heap.size w8 w9 := bel_then (by repeat (first | exact Below.refl _ _ | apply below_alloc | apply pw_below_drewN | apply below_drew1)) hb
  obtain ⟨lo8, hi8, A8_, c8_, hz8, hc8, rfl, ho8⟩ := law_madeS (n := hi7) hr hb ZC.out (by repeat (first | exact Below.refl _ _ | apply below_alloc | apply pw_below_drewN | apply below_drew1))
  have ZL8 := Aside0.mk hz8
  have HO8 := Aside0.mk ho8
  clear ho8 hz8
  have nZC := Aside0.mk hc8
  clear hc8
  have nHB : Aside0 (Below w.heap.size w w9) := ⟨bel_then HB.out ST⟩
  have nHO3 := Aside0.mk (Kd.R_below HO3.out ST)
  have nHO4 := Aside0.mk (Kd.S_below HO4.out ST)
  have nHO6 := Aside0.mk (Kd.R_below HO6.out ST)
  have nHO7 := Aside0.mk (Kd.R_below HO7.out ST)
  have nBX0 := Aside0.mk (blk_below BX0.out ST)
  have nBX1 := Aside0.mk (blk_below BX1.out ST)
  clear HB ZC HO3 HO4 HO6 HO7 BX0 BX1 ST hb hr
  have HB := nHB
  clear nHB
  have ZC := nZC
  clear nZC
  have HO3 := nHO3
  clear nHO3
  have HO4 := nHO4
  clear nHO4
  have HO6 := nHO6
  clear nHO6
  have HO7 := nHO7
  clear nHO7
  have BX0 := nBX0
  clear nBX0
  have BX1 := nBX1
  clear nBX1
  refine hK.out _ _ ⟨(blk_cell BX0.out 0).trans rfl, (blk_cell BX0.out 1).trans rfl, (blk_cell BX1.out 0).trans rfl, (blk_cell BX1.out 1).trans rfl⟩ (fun hHeld => ?_)
  clear hK K
  refine norm_ (a' := ?_) ?_ ?_
  rotate_left
  · show Act.put _ (some 54) _ = _
    simp only [Act.put, List.setIfInBounds_toArray, List.set_cons_zero, List.set_cons_succ, i64_w, i32_w]
    rfl
  refine one_ (i := 3) (N := some 55) #[true, true, true, true, false] rfl rfl (by kernel_rfl) (by decide) (fun K hK => ?_)
  refine goes_ Try.func17 (by kernel_rfl) rfl #[.agg #[.int .i64 n0a, .slice A4_ n0b.length c4_], .agg #[.int .i64 n0a, .slice A8_ n0b.length c8_]] (by rfl) rfl rfl (by (try simp only [List.map_toArray, List.map_cons, List.map_nil]); first | done | rfl | (simp only [List.length_drop, List.length_take]; rfl)) ?_
  refine (laws_eqNet.calls k n0a _ _ n0b n0a _ _ n0b true _ (law_C (Kd.S_R HO4.out) (by repeat (first | exact Below.refl _ _ | apply below_alloc | apply pw_below_drewN | apply below_drew1))) (law_c (Kd.S_R HO4.out)) (law_C (Kd.S_R HO8.out) (by repeat (first | exact Below.refl _ _ | apply below_alloc | apply pw_below_drewN | apply below_drew1))) (law_c (Kd.S_R HO8.out)) HE1.out).mono ?_
  rintro e w10 ⟨rfl, hb⟩
  refine ⟨_, rfl, ?_⟩
  have ST : Below w9.heap.size w9 w10 := bel_then (by repeat (first | exact Below.refl _ _ | apply below_alloc | apply pw_below_drewN | apply below_drew1)) hb
  have nZC := Aside0.mk (Nat.le_trans ZC.out ST.size)
  have nHB : Aside0 (Below w.heap.size w w10) := ⟨bel_then HB.out ST⟩
  have nHO3 := Aside0.mk (Kd.R_below HO3.out ST)
  have nHO4 := Aside0.mk (Kd.S_below HO4.out ST)
  have nHO6 := Aside0.mk (Kd.R_below HO6.out ST)
  have nHO7 := Aside0.mk (Kd.R_below HO7.out ST)
  have nHO8 := Aside0.mk (Kd.S_below HO8.out ST)
  have nBX0 := Aside0.mk (blk_below BX0.out ST)
  have nBX1 := Aside0.mk (blk_below BX1.out ST)
  clear HB ZC HO3 HO4 HO6 HO7 HO8 BX0 BX1 ST hb
  have HB := nHB
  clear nHB
  have ZC := nZC
  clear nZC
  have HO3 := nHO3
  clear nHO3
  have HO4 := nHO4
  clear nHO4
  have HO6 := nHO6
  clear nHO6
  have HO7 := nHO7
  clear nHO7
  have HO8 := nHO8
  clear nHO8
  have BX0 := nBX0
  clear nBX0
  have BX1 := nBX1
  clear nBX1
  refine hK.out _ _ ⟨(blk_cell BX0.out 0).trans rfl, (blk_cell BX0.out 1).trans rfl, (blk_cell BX1.out 0).trans rfl, (blk_cell BX1.out 1).trans rfl⟩ (fun hHeld => ?_)
  clear hK K
  refine norm_ (a' := ?_) ?_ ?_
  rotate_left
  · show Act.put _ (some 55) _ = _
    simp only [Act.put, List.setIfInBounds_toArray, List.set_cons_zero, List.set_cons_succ, i64_w, i32_w]
    rfl
  refine pure_ (i := 4) (N := some 56) (v := ?_) (a' := ?_) #[true, true, true, true, true] rfl rfl (by kernel_rfl) (fun _ _ _ h => h) (Or.inl ⟨by rfl, ?_⟩) ?_ ?_
  rotate_left
  · intro w'
    go_simp
    with_reducible rfl
  rotate_left
  · simp only [Act.put, List.setIfInBounds_toArray, List.set_cons_zero, List.set_cons_succ, i64_w, i32_w]
    rfl
  refine done_ (by kernel_rfl) ?_
  clear hHeld
  clear HO8
  have zc0_0 : w10.cell? ⟨w.heap.size, 0, none⟩ = some (.int .i64 a0_0) := (blk_cell BX0.out 0).trans rfl
  have zc0_1 : w10.cell? ⟨w.heap.size, 1, none⟩ = some (.slice A0_1 l0_1.length c0_1) := (blk_cell BX0.out 1).trans rfl
  have zc1_0 : w10.cell? ⟨w5.heap.size, 0, none⟩ = some (.int .i64 n0a) := (blk_cell BX1.out 0).trans rfl
  have zc1_1 : w10.cell? ⟨w5.heap.size, 1, none⟩ = some (.slice A4_ n0b.length c4_) := (blk_cell BX1.out 1).trans rfl
  go_wp2_with fail
  refine (laws_toIntS.calls k _ _ l1 m1 _ (Kd.C_below HR1.out (bel_then HB.out (by repeat (first | exact Below.refl _ _ | apply below_alloc | apply pw_below_drewN | apply below_drew1)))) HC1.out HM1.out).mono ?_
  rintro e w11 ⟨v, rfl, hr, hb⟩
  clear zc0_0 zc0_1 zc1_0 zc1_1
  have ST : Below w10.heap.size w10 w11 := bel_then (by repeat (first | exact Below.refl _ _ | apply below_alloc | apply pw_below_drewN | apply below_drew1)) hb
  obtain ⟨lo9, hi9, A9_, c9_, hz9, hc9, rfl, ho9⟩ := law_madeR (n := hi8) hr hb ZC.out (by repeat (first | exact Below.refl _ _ | apply below_alloc | apply pw_below_drewN | apply below_drew1))
  have ZL9 := Aside0.mk hz9
  have HO9 := Aside0.mk ho9
  clear ho9 hz9
  have nZC := Aside0.mk hc9
  clear hc9
  have nHB : Aside0 (Below w.heap.size w w11) := ⟨bel_then HB.out ST⟩
  have nHO3 := Aside0.mk (Kd.R_below HO3.out ST)
  have nHO4 := Aside0.mk (Kd.S_below HO4.out ST)
  have nHO6 := Aside0.mk (Kd.R_below HO6.out ST)
  have nHO7 := Aside0.mk (Kd.R_below HO7.out ST)
  have nBX0 := Aside0.mk (blk_below BX0.out ST)
  have nBX1 := Aside0.mk (blk_below BX1.out ST)
  clear HB ZC HO3 HO4 HO6 HO7 BX0 BX1 ST hb hr
  have HB := nHB
  clear nHB
  have ZC := nZC
  clear nZC
  have HO3 := nHO3
  clear nHO3
  have HO4 := nHO4
  clear nHO4
  have HO6 := nHO6
  clear nHO6
  have HO7 := nHO7
  clear nHO7
  have BX0 := nBX0
  clear nBX0
  have BX1 := nBX1
  clear nBX1
  have zc0_0 : w11.cell? ⟨w.heap.size, 0, none⟩ = some (.int .i64 a0_0) := (blk_cell BX0.out 0).trans rfl
  have zc0_1 : w11.cell? ⟨w.heap.size, 1, none⟩ = some (.slice A0_1 l0_1.length c0_1) := (blk_cell BX0.out 1).trans rfl
  have zc1_0 : w11.cell? ⟨w5.heap.size, 0, none⟩ = some (.int .i64 n0a) := (blk_cell BX1.out 0).trans rfl
  have zc1_1 : w11.cell? ⟨w5.heap.size, 1, none⟩ = some (.slice A4_ n0b.length c4_) := (blk_cell BX1.out 1).trans rfl
  go_wp2_with fail
  refine (laws_eqIntS.calls k _ _ m1 _ _ m1 true _ (law_C HO6.out (by repeat (first | exact Below.refl _ _ | apply below_alloc | apply pw_below_drewN | apply below_drew1))) (law_c HO6.out) (law_C HO9.out (by repeat (first | exact Below.refl _ _ | apply below_alloc | apply pw_below_drewN | apply below_drew1))) (law_c HO9.out) HE2.out).mono ?_
  rintro e w12 ⟨rfl, hd⟩
  have hb := hd.below
  clear zc0_0 zc0_1 zc1_0 zc1_1
  have ST : Below w11.heap.size w11 w12 := bel_then (by repeat (first | exact Below.refl _ _ | apply below_alloc | apply pw_below_drewN | apply below_drew1)) hb
  have nZC := Aside0.mk (Nat.le_trans ZC.out ST.size)
  have nHB : Aside0 (Below w.heap.size w w12) := ⟨bel_then HB.out ST⟩
  have nHO3 := Aside0.mk (Kd.R_below HO3.out ST)
  have nHO4 := Aside0.mk (Kd.S_below HO4.out ST)
  have nHO6 := Aside0.mk (Kd.R_below HO6.out ST)
  have nHO7 := Aside0.mk (Kd.R_below HO7.out ST)
  have nHO9 := Aside0.mk (Kd.R_below HO9.out ST)
  have nBX0 := Aside0.mk (blk_below BX0.out ST)
  have nBX1 := Aside0.mk (blk_below BX1.out ST)
  clear HB ZC HO3 HO4 HO6 HO7 HO9 BX0 BX1 ST hb hd
  have HB := nHB
  clear nHB
  have ZC := nZC
  clear nZC
  have HO3 := nHO3
  clear nHO3
  have HO4 := nHO4
  clear nHO4
  have HO6 := nHO6
  clear nHO6
  have HO7 := nHO7
  clear nHO7
  have HO9 := nHO9
  clear nHO9
  have BX0 := nBX0
  clear nBX0
  have BX1 := nBX1
  clear nBX1
  clear HO9
  obtain ⟨Axn0, cxn0, exn0, hxn0⟩ := At60.of_S (S := (fun k => lo4 ≤ k ∧ k < hi4)) HO4.out (fun _ h => h)
  cases exn0
  have HXn0 := Aside0.mk hxn0
  clear hxn0
  have zc0_0 : w12.cell? ⟨w.heap.size, 0, none⟩ = some (.int .i64 a0_0) := (blk_cell BX0.out 0).trans rfl
  have zc0_1 : w12.cell? ⟨w.heap.size, 1, none⟩ = some (.slice A0_1 l0_1.length c0_1) := (blk_cell BX0.out 1).trans rfl
  have zc1_0 : w12.cell? ⟨w5.heap.size, 0, none⟩ = some (.int .i64 n0a) := (blk_cell BX1.out 0).trans rfl
  have zc1_1 : w12.cell? ⟨w5.heap.size, 1, none⟩ = some (.slice A4_ n0b.length c4_) := (blk_cell BX1.out 1).trans rfl
  go_wp2_with fail
  refine (shMarkNet.calls (fun k => lo4 ≤ k ∧ k < hi4) n0a _ _ n0b _ w _ (bel_then HB.out (by repeat (first | exact Below.refl _ _ | apply below_alloc | apply pw_below_drewN | apply below_drew1))) (fun k h => by have := ZL1.out; have := ZL2.out; have := ZL3.out; have := ZL4.out; have := ZL5.out; have := ZL6.out; have := ZL7.out; have := ZL8.out; have := ZL9.out; have := ZC.out; have := ZW.out; omega) (HXn0.out.sh (Sh.of_below (by repeat (first | exact Below.refl _ _ | apply below_alloc | apply pw_below_drewN | apply below_drew1)))) (by omega) (by have := HSZ.out; omega)).mono ?_
  rintro e w13 ⟨rfl, hb, hs⟩
  clear zc0_0 zc0_1 zc1_0 zc1_1
  have KP : Kept w12 w13 (fun k => lo4 ≤ k ∧ k < hi4) := law_kept (by repeat (first | exact Below.refl _ _ | apply below_alloc | apply pw_below_drewN | apply below_drew1)) hs.kept
  have nZC := Aside0.mk (Nat.le_trans ZC.out KP.1)
  have nHB : Aside0 (Below w.heap.size w w13) := ⟨hb⟩
  have nHO3 := Aside0.mk (Kd.R_kept HO3.out KP (fun k h1 h2 => by have := ZL1.out; have := ZL2.out; have := ZL3.out; have := ZL4.out; have := ZL5.out; have := ZL6.out; have := ZL7.out; have := ZL8.out; have := ZL9.out; have := ZC.out; have := ZW.out; omega))
  have nHO6 := Aside0.mk (Kd.R_kept HO6.out KP (fun k h1 h2 => by have := ZL1.out; have := ZL2.out; have := ZL3.out; have := ZL4.out; have := ZL5.out; have := ZL6.out; have := ZL7.out; have := ZL8.out; have := ZL9.out; have := ZC.out; have := ZW.out; omega))
  have nHO7 := Aside0.mk (Kd.R_kept HO7.out KP (fun k h1 h2 => by have := ZL1.out; have := ZL2.out; have := ZL3.out; have := ZL4.out; have := ZL5.out; have := ZL6.out; have := ZL7.out; have := ZL8.out; have := ZL9.out; have := ZC.out; have := ZW.out; omega))
  have nBX0 := Aside0.mk (blk_kept BX0.out KP (fun h2 => by have := ZL1.out; have := ZL2.out; have := ZL3.out; have := ZL4.out; have := ZL5.out; have := ZL6.out; have := ZL7.out; have := ZL8.out; have := ZL9.out; have := ZC.out; have := ZW.out; omega))
  have nBX1 := Aside0.mk (blk_kept BX1.out KP (fun h2 => by have := ZL1.out; have := ZL2.out; have := ZL3.out; have := ZL4.out; have := ZL5.out; have := ZL6.out; have := ZL7.out; have := ZL8.out; have := ZL9.out; have := ZC.out; have := ZW.out; omega))
  clear HB ZC HO3 HO4 HO6 HO7 BX0 BX1 KP hb hs
  have HB := nHB
  clear nHB
  have ZC := nZC
  clear nZC
  have HO3 := nHO3
  clear nHO3
  have HO6 := nHO6
  clear nHO6
  have HO7 := nHO7
  clear nHO7
  have BX0 := nBX0
  clear nBX0
  have BX1 := nBX1
  clear nBX1
  obtain ⟨Axm1, cxm1, exm1, hxm1⟩ := Ints.of_R (S := (fun k => lo6 ≤ k ∧ k < hi6)) HO6.out (fun _ h => h)
  cases exm1
  have HXm1 := Aside0.mk hxm1
  clear hxm1
  have zc0_0 : w13.cell? ⟨w.heap.size, 0, none⟩ = some (.int .i64 a0_0) := (blk_cell BX0.out 0).trans rfl
  have zc0_1 : w13.cell? ⟨w.heap.size, 1, none⟩ = some (.slice A0_1 l0_1.length c0_1) := (blk_cell BX0.out 1).trans rfl
  have zc1_0 : w13.cell? ⟨w5.heap.size, 0, none⟩ = some (.int .i64 n0a) := (blk_cell BX1.out 0).trans rfl
  have zc1_1 : w13.cell? ⟨w5.heap.size, 1, none⟩ = some (.slice A4_ n0b.length c4_) := (blk_cell BX1.out 1).trans rfl
  go_wp2_with fail
  refine (shMarkIntS.calls (fun k => lo6 ≤ k ∧ k < hi6) _ _ _ _ w _ (bel_then HB.out (by repeat (first | exact Below.refl _ _ | apply below_alloc | apply pw_below_drewN | apply below_drew1))) (fun k h => by have := ZL1.out; have := ZL2.out; have := ZL3.out; have := ZL4.out; have := ZL5.out; have := ZL6.out; have := ZL7.out; have := ZL8.out; have := ZL9.out; have := ZC.out; have := ZW.out; omega) (HXm1.out.sh (Sh.of_below (by repeat (first | exact Below.refl _ _ | apply below_alloc | apply pw_below_drewN | apply below_drew1)))) (by omega) (by have := HSZ.out; omega)).mono ?_
  rintro e w14 ⟨rfl, hb, hs⟩
  clear zc0_0 zc0_1 zc1_0 zc1_1
  have KP : Kept w13 w14 (fun k => lo6 ≤ k ∧ k < hi6) := law_kept (by repeat (first | exact Below.refl _ _ | apply below_alloc | apply pw_below_drewN | apply below_drew1)) hs.kept
  have nZC := Aside0.mk (Nat.le_trans ZC.out KP.1)
  have nHB : Aside0 (Below w.heap.size w w14) := ⟨hb⟩
  have nHO3 := Aside0.mk (Kd.R_kept HO3.out KP (fun k h1 h2 => by have := ZL1.out; have := ZL2.out; have := ZL3.out; have := ZL4.out; have := ZL5.out; have := ZL6.out; have := ZL7.out; have := ZL8.out; have := ZL9.out; have := ZC.out; have := ZW.out; omega))
  have nHO7 := Aside0.mk (Kd.R_kept HO7.out KP (fun k h1 h2 => by have := ZL1.out; have := ZL2.out; have := ZL3.out; have := ZL4.out; have := ZL5.out; have := ZL6.out; have := ZL7.out; have := ZL8.out; have := ZL9.out; have := ZC.out; have := ZW.out; omega))
  have nBX0 := Aside0.mk (blk_kept BX0.out KP (fun h2 => by have := ZL1.out; have := ZL2.out; have := ZL3.out; have := ZL4.out; have := ZL5.out; have := ZL6.out; have := ZL7.out; have := ZL8.out; have := ZL9.out; have := ZC.out; have := ZW.out; omega))
  have nBX1 := Aside0.mk (blk_kept BX1.out KP (fun h2 => by have := ZL1.out; have := ZL2.out; have := ZL3.out; have := ZL4.out; have := ZL5.out; have := ZL6.out; have := ZL7.out; have := ZL8.out; have := ZL9.out; have := ZC.out; have := ZW.out; omega))
  clear HB ZC HO3 HO6 HO7 BX0 BX1 KP hb hs
  have HB := nHB
  clear nHB
  have ZC := nZC
  clear nZC
  have HO3 := nHO3
  clear nHO3
  have HO7 := nHO7
  clear nHO7
  have BX0 := nBX0
  clear nBX0
  have BX1 := nBX1
  clear nBX1
  have hk0 : decide ((1 : Int) + (tot60 n0b : Nat) + (m1.length : Nat) < 0) = false := decide_eq_false (by omega)
  have zc0_0 : w14.cell? ⟨w.heap.size, 0, none⟩ = some (.int .i64 a0_0) := (blk_cell BX0.out 0).trans rfl
  have zc0_1 : w14.cell? ⟨w.heap.size, 1, none⟩ = some (.slice A0_1 l0_1.length c0_1) := (blk_cell BX0.out 1).trans rfl
  have zc1_0 : w14.cell? ⟨w5.heap.size, 0, none⟩ = some (.int .i64 n0a) := (blk_cell BX1.out 0).trans rfl
  have zc1_1 : w14.cell? ⟨w5.heap.size, 1, none⟩ = some (.slice A4_ n0b.length c4_) := (blk_cell BX1.out 1).trans rfl
  go_wp2_with fail
  refine (laws_eqIntS.calls k _ _ s0 _ _ s0 true _ (law_C HO7.out (by repeat (first | exact Below.refl _ _ | apply below_alloc | apply pw_below_drewN | apply below_drew1))) (law_c HO7.out) (law_C HO3.out (by repeat (first | exact Below.refl _ _ | apply below_alloc | apply pw_below_drewN | apply below_drew1))) (law_c HO3.out) HE0.out).mono ?_
  rintro e w15 ⟨rfl, hd⟩
  have hb := hd.below
  clear zc0_0 zc0_1 zc1_0 zc1_1
  have ST : Below w14.heap.size w14 w15 := bel_then (by repeat (first | exact Below.refl _ _ | apply below_alloc | apply pw_below_drewN | apply below_drew1)) hb
  have nZC := Aside0.mk (Nat.le_trans ZC.out ST.size)
  have nHB : Aside0 (Below w.heap.size w w15) := ⟨bel_then HB.out ST⟩
  have nHO3 := Aside0.mk (Kd.R_below HO3.out ST)
  have nHO7 := Aside0.mk (Kd.R_below HO7.out ST)
  have nBX0 := Aside0.mk (blk_below BX0.out ST)
  have nBX1 := Aside0.mk (blk_below BX1.out ST)
  clear HB ZC HO3 HO7 BX0 BX1 ST hb hd
  have HB := nHB
  clear nHB
  have ZC := nZC
  clear nZC
  have HO3 := nHO3
  clear nHO3
  have HO7 := nHO7
  clear nHO7
  have BX0 := nBX0
  clear nBX0
  have BX1 := nBX1
  clear nBX1
  have zc0_0 : w15.cell? ⟨w.heap.size, 0, none⟩ = some (.int .i64 a0_0) := (blk_cell BX0.out 0).trans rfl
  have zc0_1 : w15.cell? ⟨w.heap.size, 1, none⟩ = some (.slice A0_1 l0_1.length c0_1) := (blk_cell BX0.out 1).trans rfl
  have zc1_0 : w15.cell? ⟨w5.heap.size, 0, none⟩ = some (.int .i64 n0a) := (blk_cell BX1.out 0).trans rfl
  have zc1_1 : w15.cell? ⟨w5.heap.size, 1, none⟩ = some (.slice A4_ n0b.length c4_) := (blk_cell BX1.out 1).trans rfl
  go_wp2_with fail
  refine (laws_markIntS.calls k (fun k => lo7 ≤ k ∧ k < hi7) _ s0 1 _ mk2 w _ (bel_then HB.out (by repeat (first | exact Below.refl _ _ | apply below_alloc | apply pw_below_drewN | apply below_drew1))) (Kd.R_lower (Kd.R_below HO7.out (by repeat (first | exact Below.refl _ _ | apply below_alloc | apply pw_below_drewN | apply below_drew1))) (by have := ZL1.out; have := ZL2.out; have := ZL3.out; have := ZL4.out; have := ZL5.out; have := ZL6.out; have := ZL7.out; have := ZL8.out; have := ZL9.out; have := ZC.out; have := ZW.out; omega)) HMK.out).mono ?_
  rintro e w16 ⟨rfl, hr, hb, hk⟩
  clear zc0_0 zc0_1 zc1_0 zc1_1
  have KP : Kept w15 w16 (fun k => lo7 ≤ k ∧ k < hi7) := law_kept (by repeat (first | exact Below.refl _ _ | apply below_alloc | apply pw_below_drewN | apply below_drew1)) hk
  have nZC := Aside0.mk (Nat.le_trans ZC.out KP.1)
  have nHB : Aside0 (Below w.heap.size w w16) := ⟨hb⟩
  have nHO3 := Aside0.mk (Kd.R_kept HO3.out KP (fun k h1 h2 => by have := ZL1.out; have := ZL2.out; have := ZL3.out; have := ZL4.out; have := ZL5.out; have := ZL6.out; have := ZL7.out; have := ZL8.out; have := ZL9.out; have := ZC.out; have := ZW.out; omega))
  have nHO7 := Aside0.mk (law_marked rfl HO7.out hr)
  have nBX0 := Aside0.mk (blk_kept BX0.out KP (fun h2 => by have := ZL1.out; have := ZL2.out; have := ZL3.out; have := ZL4.out; have := ZL5.out; have := ZL6.out; have := ZL7.out; have := ZL8.out; have := ZL9.out; have := ZC.out; have := ZW.out; omega))
  have nBX1 := Aside0.mk (blk_kept BX1.out KP (fun h2 => by have := ZL1.out; have := ZL2.out; have := ZL3.out; have := ZL4.out; have := ZL5.out; have := ZL6.out; have := ZL7.out; have := ZL8.out; have := ZL9.out; have := ZC.out; have := ZW.out; omega))
  clear HB ZC HO3 HO7 BX0 BX1 KP hb hr hk
  have HB := nHB
  clear nHB
  have ZC := nZC
  clear nZC
  have HO3 := nHO3
  clear nHO3
  have HO7 := nHO7
  clear nHO7
  have BX0 := nBX0
  clear nBX0
  have BX1 := nBX1
  clear nBX1
  have zc0_0 : w16.cell? ⟨w.heap.size, 0, none⟩ = some (.int .i64 a0_0) := (blk_cell BX0.out 0).trans rfl
  have zc0_1 : w16.cell? ⟨w.heap.size, 1, none⟩ = some (.slice A0_1 l0_1.length c0_1) := (blk_cell BX0.out 1).trans rfl
  have zc1_0 : w16.cell? ⟨w5.heap.size, 0, none⟩ = some (.int .i64 n0a) := (blk_cell BX1.out 0).trans rfl
  have zc1_1 : w16.cell? ⟨w5.heap.size, 1, none⟩ = some (.slice A4_ n0b.length c4_) := (blk_cell BX1.out 1).trans rfl
  go_wp2_with fail
  refine (lawHeldIntS.calls k _ _ s0.length mk2 1 _ _ (Kd.R_reads' HO7.out).1 (law_C0 HO7.out (by repeat (first | exact Below.refl _ _ | apply below_alloc | apply pw_below_drewN | apply below_drew1))) (law_c0 HO7.out) HQ.out).mono ?_
  rintro e w17 ⟨rfl, hd⟩
  have hb := hd.below
  clear zc0_0 zc0_1 zc1_0 zc1_1
  have ST : Below w16.heap.size w16 w17 := bel_then (by repeat (first | exact Below.refl _ _ | apply below_alloc | apply pw_below_drewN | apply below_drew1)) hb
  have nZC := Aside0.mk (Nat.le_trans ZC.out ST.size)
  have nHB : Aside0 (Below w.heap.size w w17) := ⟨bel_then HB.out ST⟩
  have nHO3 := Aside0.mk (Kd.R_below HO3.out ST)
  have nHO7 := Aside0.mk (Kd.R_below HO7.out ST)
  have nBX0 := Aside0.mk (blk_below BX0.out ST)
  have nBX1 := Aside0.mk (blk_below BX1.out ST)
  clear HB ZC HO3 HO7 BX0 BX1 ST hb hd
  have HB := nHB
  clear nHB
  have ZC := nZC
  clear nZC
  have HO3 := nHO3
  clear nHO3
  have HO7 := nHO7
  clear nHO7
  have BX0 := nBX0
  clear nBX0
  have BX1 := nBX1
  clear nBX1
  have zc0_0 : w17.cell? ⟨w.heap.size, 0, none⟩ = some (.int .i64 a0_0) := (blk_cell BX0.out 0).trans rfl
  have zc0_1 : w17.cell? ⟨w.heap.size, 1, none⟩ = some (.slice A0_1 l0_1.length c0_1) := (blk_cell BX0.out 1).trans rfl
  have zc1_0 : w17.cell? ⟨w5.heap.size, 0, none⟩ = some (.int .i64 n0a) := (blk_cell BX1.out 0).trans rfl
  have zc1_1 : w17.cell? ⟨w5.heap.size, 1, none⟩ = some (.slice A4_ n0b.length c4_) := (blk_cell BX1.out 1).trans rfl
  go_wp2_with fail
  refine (laws_toNet.calls k a0_0 A0_1 c0_1 l0_1 n0a n0b _ (Kd.C_below HR0_1.out (bel_then HB.out (by repeat (first | exact Below.refl _ _ | apply below_alloc | apply pw_below_drewN | apply below_drew1)))) HC0_1.out HN0.out).mono ?_
  rintro e w18 ⟨v, rfl, hr, hb⟩
  clear zc0_0 zc0_1 zc1_0 zc1_1
  have ST : Below w17.heap.size w17 w18 := bel_then (by repeat (first | exact Below.refl _ _ | apply below_alloc | apply pw_below_drewN | apply below_drew1)) hb
  obtain ⟨lo10, hi10, A10_, c10_, hz10, hc10, rfl, ho10⟩ := law_madeS (n := hi9) hr hb ZC.out (by repeat (first | exact Below.refl _ _ | apply below_alloc | apply pw_below_drewN | apply below_drew1))
  have ZL10 := Aside0.mk hz10
  have HO10 := Aside0.mk ho10
  clear ho10 hz10
  have nZC := Aside0.mk hc10
  clear hc10
  have nHB : Aside0 (Below w.heap.size w w18) := ⟨bel_then HB.out ST⟩
  have nHO3 := Aside0.mk (Kd.R_below HO3.out ST)
  have nHO7 := Aside0.mk (Kd.R_below HO7.out ST)
  have nBX0 := Aside0.mk (blk_below BX0.out ST)
  have nBX1 := Aside0.mk (blk_below BX1.out ST)
  clear HB ZC HO3 HO7 BX0 BX1 ST hb hr
  have HB := nHB
  clear nHB
  have ZC := nZC
  clear nZC
  have HO3 := nHO3
  clear nHO3
  have HO7 := nHO7
  clear nHO7
  have BX0 := nBX0
  clear nBX0
  have BX1 := nBX1
  clear nBX1
  have zc0_0 : w18.cell? ⟨w.heap.size, 0, none⟩ = some (.int .i64 a0_0) := (blk_cell BX0.out 0).trans rfl
  have zc0_1 : w18.cell? ⟨w.heap.size, 1, none⟩ = some (.slice A0_1 l0_1.length c0_1) := (blk_cell BX0.out 1).trans rfl
  have zc1_0 : w18.cell? ⟨w5.heap.size, 0, none⟩ = some (.int .i64 n0a) := (blk_cell BX1.out 0).trans rfl
  have zc1_1 : w18.cell? ⟨w5.heap.size, 1, none⟩ = some (.slice A4_ n0b.length c4_) := (blk_cell BX1.out 1).trans rfl
  go_wp2_with fail
  refine (laws_toIntS.calls k _ _ l1 m1 _ (Kd.C_below HR1.out (bel_then HB.out (by repeat (first | exact Below.refl _ _ | apply below_alloc | apply pw_below_drewN | apply below_drew1)))) HC1.out HM1.out).mono ?_
  rintro e w19 ⟨v, rfl, hr, hb⟩
  clear zc0_0 zc0_1 zc1_0 zc1_1
  have ST : Below w18.heap.size w18 w19 := bel_then (by repeat (first | exact Below.refl _ _ | apply below_alloc | apply pw_below_drewN | apply below_drew1)) hb
  obtain ⟨lo11, hi11, A11_, c11_, hz11, hc11, rfl, ho11⟩ := law_madeR (n := hi10) hr hb ZC.out (by repeat (first | exact Below.refl _ _ | apply below_alloc | apply pw_below_drewN | apply below_drew1))
  have ZL11 := Aside0.mk hz11
  have HO11 := Aside0.mk ho11
  clear ho11 hz11
  have nZC := Aside0.mk hc11
  clear hc11
  have nHB : Aside0 (Below w.heap.size w w19) := ⟨bel_then HB.out ST⟩
  have nHO3 := Aside0.mk (Kd.R_below HO3.out ST)
  have nHO7 := Aside0.mk (Kd.R_below HO7.out ST)
  have nHO10 := Aside0.mk (Kd.S_below HO10.out ST)
  have nBX0 := Aside0.mk (blk_below BX0.out ST)
  have nBX1 := Aside0.mk (blk_below BX1.out ST)
  clear HB ZC HO3 HO7 HO10 BX0 BX1 ST hb hr
  have HB := nHB
  clear nHB
  have ZC := nZC
  clear nZC
  have HO3 := nHO3
  clear nHO3
  have HO7 := nHO7
  clear nHO7
  have HO10 := nHO10
  clear nHO10
  have BX0 := nBX0
  clear nBX0
  have BX1 := nBX1
  clear nBX1
  have zc0_0 : w19.cell? ⟨w.heap.size, 0, none⟩ = some (.int .i64 a0_0) := (blk_cell BX0.out 0).trans rfl
  have zc0_1 : w19.cell? ⟨w.heap.size, 1, none⟩ = some (.slice A0_1 l0_1.length c0_1) := (blk_cell BX0.out 1).trans rfl
  have zc1_0 : w19.cell? ⟨w5.heap.size, 0, none⟩ = some (.int .i64 n0a) := (blk_cell BX1.out 0).trans rfl
  have zc1_1 : w19.cell? ⟨w5.heap.size, 1, none⟩ = some (.slice A4_ n0b.length c4_) := (blk_cell BX1.out 1).trans rfl
  go_wp2_with fail
  refine (impl_FinishFrom.calls k n0a _ _ n0b _ _ m1 s0 s1 _ (law_C (Kd.S_R HO10.out) (by repeat (first | exact Below.refl _ _ | apply below_alloc | apply pw_below_drewN | apply below_drew1))) (law_c (Kd.S_R HO10.out)) (Kd.R_lower (Kd.R_below HO11.out (by repeat (first | exact Below.refl _ _ | apply below_alloc | apply pw_below_drewN | apply below_drew1))) (by have := ZL1.out; have := ZL2.out; have := ZL3.out; have := ZL4.out; have := ZL5.out; have := ZL6.out; have := ZL7.out; have := ZL8.out; have := ZL9.out; have := ZL10.out; have := ZL11.out; have := ZC.out; have := ZW.out; omega)) (bel_then HB.out (by repeat (first | exact Below.refl _ _ | apply below_alloc | apply pw_below_drewN | apply below_drew1))).size HG.out).mono ?_
  rintro e w20 ⟨v, rfl, hr, hb⟩
  clear zc0_0 zc0_1 zc1_0 zc1_1
  have ST : Below w19.heap.size w19 w20 := bel_then (by repeat (first | exact Below.refl _ _ | apply below_alloc | apply pw_below_drewN | apply below_drew1)) hb
  obtain ⟨lo12, hi12, A12_, c12_, hz12, hc12, rfl, ho12⟩ := law_madeR (n := hi11) hr hb ZC.out (by repeat (first | exact Below.refl _ _ | apply below_alloc | apply pw_below_drewN | apply below_drew1))
  have ZL12 := Aside0.mk hz12
  have HO12 := Aside0.mk ho12
  clear ho12 hz12
  have nZC := Aside0.mk hc12
  clear hc12
  have nHB : Aside0 (Below w.heap.size w w20) := ⟨bel_then HB.out ST⟩
  have nHO3 := Aside0.mk (Kd.R_below HO3.out ST)
  have nHO7 := Aside0.mk (Kd.R_below HO7.out ST)
  have nHO10 := Aside0.mk (Kd.S_below HO10.out ST)
  have nHO11 := Aside0.mk (Kd.R_below HO11.out ST)
  have nBX0 := Aside0.mk (blk_below BX0.out ST)
  have nBX1 := Aside0.mk (blk_below BX1.out ST)
  clear HB ZC HO3 HO7 HO10 HO11 BX0 BX1 ST hb hr
  have HB := nHB
  clear nHB
  have ZC := nZC
  clear nZC
  have HO3 := nHO3
  clear nHO3
  have HO7 := nHO7
  clear nHO7
  have HO10 := nHO10
  clear nHO10
  have HO11 := nHO11
  clear nHO11
  have BX0 := nBX0
  clear nBX0
  have BX1 := nBX1
  clear nBX1
  have zc0_0 : w20.cell? ⟨w.heap.size, 0, none⟩ = some (.int .i64 a0_0) := (blk_cell BX0.out 0).trans rfl
  have zc0_1 : w20.cell? ⟨w.heap.size, 1, none⟩ = some (.slice A0_1 l0_1.length c0_1) := (blk_cell BX0.out 1).trans rfl
  have zc1_0 : w20.cell? ⟨w5.heap.size, 0, none⟩ = some (.int .i64 n0a) := (blk_cell BX1.out 0).trans rfl
  have zc1_1 : w20.cell? ⟨w5.heap.size, 1, none⟩ = some (.slice A4_ n0b.length c4_) := (blk_cell BX1.out 1).trans rfl
  go_wp2_with fail
  refine (laws_eqIntS.calls k _ _ s0 _ _ s0 true _ (law_C HO12.out (by repeat (first | exact Below.refl _ _ | apply below_alloc | apply pw_below_drewN | apply below_drew1))) (law_c HO12.out) (law_C HO3.out (by repeat (first | exact Below.refl _ _ | apply below_alloc | apply pw_below_drewN | apply below_drew1))) (law_c HO3.out) HE0.out).mono ?_
  rintro e w21 ⟨rfl, hd⟩
  have hb := hd.below
  clear zc0_0 zc0_1 zc1_0 zc1_1
  have ST : Below w20.heap.size w20 w21 := bel_then (by repeat (first | exact Below.refl _ _ | apply below_alloc | apply pw_below_drewN | apply below_drew1)) hb
  have nZC := Aside0.mk (Nat.le_trans ZC.out ST.size)
  have nHB : Aside0 (Below w.heap.size w w21) := ⟨bel_then HB.out ST⟩
  have nHO3 := Aside0.mk (Kd.R_below HO3.out ST)
  have nHO7 := Aside0.mk (Kd.R_below HO7.out ST)
  have nHO10 := Aside0.mk (Kd.S_below HO10.out ST)
  have nHO11 := Aside0.mk (Kd.R_below HO11.out ST)
  have nHO12 := Aside0.mk (Kd.R_below HO12.out ST)
  have nBX0 := Aside0.mk (blk_below BX0.out ST)
  have nBX1 := Aside0.mk (blk_below BX1.out ST)
  clear HB ZC HO3 HO7 HO10 HO11 HO12 BX0 BX1 ST hb hd
  have HB := nHB
  clear nHB
  have ZC := nZC
  clear nZC
  have HO3 := nHO3
  clear nHO3
  have HO7 := nHO7
  clear nHO7
  have HO10 := nHO10
  clear nHO10
  have HO11 := nHO11
  clear nHO11
  have HO12 := nHO12
  clear nHO12
  have BX0 := nBX0
  clear nBX0
  have BX1 := nBX1
  clear nBX1
  have zc0_0 : w21.cell? ⟨w.heap.size, 0, none⟩ = some (.int .i64 a0_0) := (blk_cell BX0.out 0).trans rfl
  have zc0_1 : w21.cell? ⟨w.heap.size, 1, none⟩ = some (.slice A0_1 l0_1.length c0_1) := (blk_cell BX0.out 1).trans rfl
  have zc1_0 : w21.cell? ⟨w5.heap.size, 0, none⟩ = some (.int .i64 n0a) := (blk_cell BX1.out 0).trans rfl
  have zc1_1 : w21.cell? ⟨w5.heap.size, 1, none⟩ = some (.slice A4_ n0b.length c4_) := (blk_cell BX1.out 1).trans rfl
  go_wp2_with fail
  refine (lawHeldIntS.calls k _ _ s0.length mk2 1 _ _ (Kd.R_reads' HO7.out).1 (law_C0 HO7.out (by repeat (first | exact Below.refl _ _ | apply below_alloc | apply pw_below_drewN | apply below_drew1))) (law_c0 HO7.out) HQ.out).mono ?_
  rintro e w22 ⟨rfl, hd⟩
  have hb := hd.below
  clear zc0_0 zc0_1 zc1_0 zc1_1
  have ST : Below w21.heap.size w21 w22 := bel_then (by repeat (first | exact Below.refl _ _ | apply below_alloc | apply pw_below_drewN | apply below_drew1)) hb
  have nZC := Aside0.mk (Nat.le_trans ZC.out ST.size)
  have nHB : Aside0 (Below w.heap.size w w22) := ⟨bel_then HB.out ST⟩
  have nHO3 := Aside0.mk (Kd.R_below HO3.out ST)
  have nHO7 := Aside0.mk (Kd.R_below HO7.out ST)
  have nHO10 := Aside0.mk (Kd.S_below HO10.out ST)
  have nHO11 := Aside0.mk (Kd.R_below HO11.out ST)
  have nHO12 := Aside0.mk (Kd.R_below HO12.out ST)
  have nBX0 := Aside0.mk (blk_below BX0.out ST)
  have nBX1 := Aside0.mk (blk_below BX1.out ST)
  clear HB ZC HO3 HO7 HO10 HO11 HO12 BX0 BX1 ST hb hd
  have HB := nHB
  clear nHB
  have ZC := nZC
  clear nZC
  have HO3 := nHO3
  clear nHO3
  have HO7 := nHO7
  clear nHO7
  have HO10 := nHO10
  clear nHO10
  have HO11 := nHO11
  clear nHO11
  have HO12 := nHO12
  clear nHO12
  have BX0 := nBX0
  clear nBX0
  have BX1 := nBX1
  clear nBX1
  go_wp2
  go_ret
  exact ⟨rfl, by repeat (first | exact HB.out | apply below_alloc | apply pw_below_drewN | apply below_drew1)⟩

end Go.Proofs.Ytnfafdlglhbijaa.PFnExactFinishFrom
