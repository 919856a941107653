-- written by xprint.py (a program of this session's, over the kit's print): printed functions, and some by hand
import Derived.Test.YtmhhjmadpnkelaaPFnExactVectorsOfx0
import Derived.Test.YtmhhjmadpnkelaaPFnExactVectorsOfx1
import Derived.Test.YtmhhjmadpnkelaaPFnExactVectorsOfx2
import Derived.Test.YtmhhjmadpnkelaaPFnExactVectorsOfx5
import Derived.Test.YtmhhjmadpnkelaaPFnExactVectorsOfx7
import Derived.Test.YtmhhjmadpnkelaaPFnExactVectorsOfx8
namespace Go.Proofs.Ytmhhjmadpnkelaa.PFnExactVectorsOf
open Go.RowKit Go.Proofs.YtmhhjmadpnkelaaW.PrintWords Go.Proofs.YtmhhjmadpnkelaaW.PrintLast Go.Proofs.YtmhhjmadpnkelaaW.PrintMore
attribute [local go_sem] max2_int min2_int max_two min_two max_three min_three max_four min_four   -- for this text's walks alone
set_option linter.unusedVariables false
set_option linter.unusedSimpArgs false

/-! ### laws_FnExactVectorsOf: function 7, by hand -/
/-- Whole numbers may be written over, in blocks of S; nothing else changes. -/
def Sh (S : Nat → Prop) (w w' : World) : Prop :=
  w.heap.size ≤ w'.heap.size ∧ (∀ k, k < w.heap.size → ¬ S k → w'.heap[k]? = w.heap[k]?) ∧
  (∀ (p : Addr) (v : Value), w.cell? p = some v → ∃ v', w'.cell? p = some v' ∧ (v' = v ∨ ((∃ a, v = .int .i64 a) ∧ ∃ b, v' = .int .i64 b))) ∧
  (∀ p : Addr, p.block < w.heap.size → w'.frozen? p = w.frozen? p)
theorem Sh.refl (S : Nat → Prop) (w : World) : Sh S w w := ⟨Nat.le_refl _, fun _ _ _ => rfl, fun _ v h => ⟨v, h, .inl rfl⟩, fun _ _ => rfl⟩
theorem Sh.trans {S : Nat → Prop} {w1 w2 w3 : World} (h : Sh S w1 w2) (k : Sh S w2 w3) : Sh S w1 w3 := by
  obtain ⟨a1, a2, a3, a4⟩ := h
  obtain ⟨b1, b2, b3, b4⟩ := k
  refine ⟨Nat.le_trans a1 b1, fun i hi hn => (b2 i (Nat.lt_of_lt_of_le hi a1) hn).trans (a2 i hi hn), fun p v hp => ?_, fun p hp => (b4 p (Nat.lt_of_lt_of_le hp a1)).trans (a4 p hp)⟩
  obtain ⟨v', h1, h2⟩ := a3 p v hp
  obtain ⟨v'', h3, h4⟩ := b3 p v' h1
  refine ⟨v'', h3, ?_⟩
  rcases h2 with rfl | ⟨hx, y, rfl⟩
  · exact h4
  · rcases h4 with rfl | ⟨_, hz⟩
    · exact .inr ⟨hx, y, rfl⟩
    · exact .inr ⟨hx, hz⟩
theorem Sh.mono {S S' : Nat → Prop} {w w' : World} (h : Sh S w w') (hs : ∀ k, S k → S' k) : Sh S' w w' :=
  ⟨h.1, fun i hi hn => h.2.1 i hi (fun hk => hn (hs i hk)), h.2.2.1, h.2.2.2⟩
theorem Sh.kept {S : Nat → Prop} {w w' : World} (h : Sh S w w') : Kept w w' S := ⟨h.1, h.2.1⟩
theorem Sh.drew {S : Nat → Prop} {w w' : World} (h : Sh S w w') : Sh S w w'.drew := h
theorem Sh.drewN {S : Nat → Prop} {w w' : World} (h : Sh S w w') (n : Nat) : Sh S w (w'.drewN n) := h
theorem Sh.set {S : Nat → Prop} {w w' : World} (h : Sh S w w') {p : Addr} {a : Int} (hc : w'.cell? p = some (.int .i64 a)) (hS : S p.block) (b : Int) : Sh S w (w'.setCell p (.int .i64 b)) := by
  refine h.trans ⟨by simp, fun k _ hn => Below.heap_setCell w' p _ k (fun e => hn (e ▸ hS)), fun q v hq => ?_, fun q _ => by simp⟩
  by_cases e : p = q
  · subst e
    rw [hc] at hq
    exact ⟨_, World.cell?_setCell_same _ _ _ hc, .inr ⟨⟨a, (Option.some.inj hq).symm⟩, b, rfl⟩⟩
  · exact ⟨v, by rw [World.cell?_setCell_other _ _ _ _ e]; exact hq, .inl rfl⟩
theorem Sh.cell {S : Nat → Prop} {w w' : World} (h : Sh S w w') {p : Addr} {v : Value} (hp : w.cell? p = some v) (hv : ∀ a, v ≠ .int .i64 a) : w'.cell? p = some v := by
  obtain ⟨v', h1, rfl | ⟨⟨a, rfl⟩, _⟩⟩ := h.2.2.1 p v hp
  · exact h1
  · exact absurd rfl (hv a)
/-- A slice of n whole numbers that may be written, in blocks of S. -/
def Ints (S : Nat → Prop) (w : World) (A : Option Addr) (n : Nat) : Prop :=
  n ≤ 9223372036854775807 ∧ (0 < n → ∃ ad, A = some ad ∧ S ad.block ∧ ∀ i, i < n → (∃ z, w.cell? (ad.add i) = some (.int .i64 z)) ∧ w.frozen? (ad.add i) = false)
theorem sh_add_block (ad : Addr) (i : Nat) : (ad.add i).block = ad.block := by unfold Addr.add; split <;> rfl
theorem Sh.int {S : Nat → Prop} {w w' : World} (h : Sh S w w') {p : Addr} (hc : ∃ z, w.cell? p = some (.int .i64 z)) (hf : w.frozen? p = false) : (∃ z, w'.cell? p = some (.int .i64 z)) ∧ w'.frozen? p = false := by
  obtain ⟨z, hz⟩ := hc
  refine ⟨?_, (h.2.2.2 p (World.block_lt_of_cell? w _ hz)).trans hf⟩
  obtain ⟨v', h1, rfl | ⟨_, b, rfl⟩⟩ := h.2.2.1 _ _ hz
  · exact ⟨z, h1⟩
  · exact ⟨b, h1⟩
theorem Ints.sh {S : Nat → Prop} {w w' : World} {A : Option Addr} {n : Nat} (h : Ints S w A n) (k : Sh S w w') : Ints S w' A n := by
  refine ⟨h.1, fun hp => ?_⟩
  obtain ⟨ad, rfl, hS, hc⟩ := h.2 hp
  exact ⟨ad, rfl, hS, fun i hi => k.int (hc i hi).1 (hc i hi).2⟩
theorem Ints.of_R {S ok : Nat → Prop} {w : World} {base : Nat} {v : Value} {xs : List Int} (h : Kd.R (Kd.int .i64) 3 w base ok v xs) (hs : ∀ k, ok k → S k) : ∃ A c, v = .slice A xs.length c ∧ Ints S w A xs.length := by
  obtain ⟨A, c, rfl, hl, hC⟩ := Kd.R_reads h
  refine ⟨A, c, rfl, hC.2.1, fun hp => ?_⟩
  obtain ⟨g, cap, eq, hb, hlt, _, hG⟩ := Kd.R_form h hp
  injection eq with ea _ ec
  subst ea
  subst ec
  refine ⟨_, rfl, hs _ (h.1 g rfl), fun i hi => ?_⟩
  obtain ⟨h1, h2⟩ := Kd.R_celln 0 h (i : Int) (by omega) (by omega)
  rw [Int.toNat_natCast] at h1 h2
  rw [add_plain]
  exact ⟨⟨_, h1⟩, h2⟩
theorem Sh.of_below {S : Nat → Prop} {w w' : World} (h : Below w.heap.size w w') : Sh S w w' := by
  refine ⟨h.size, fun k hk _ => h.block k hk, fun p v hp => ⟨v, pw_cell_below h hp, .inl rfl⟩, fun p hp => ?_⟩
  unfold World.frozen?
  rw [h.block _ hp]
theorem Sh.alloc {S : Nat → Prop} {w w' : World} (h : Sh S w w') (o : Obj) : Sh S w (w'.alloc o) := h.trans (Sh.of_below (below_alloc (Below.refl _ _) o))
theorem bel_then {w W w' : World} (h : Below w.heap.size w W) (hb : Below W.heap.size W w') : Below w.heap.size w w' := below_then h h.size hb
theorem law_madeR {α : Type} {d : Kd α} {e n : Nat} {ok : Nat → Prop} {wl W w' : World} {v : Value} {xs : List α} (h : Kd.R d e w' W.heap.size ok v xs) (hb : Below W.heap.size W w') (hn : n ≤ wl.heap.size) (hW : Below wl.heap.size wl W) :
    ∃ (lo hi : Nat) (A : Option Addr) (c : Nat), (n ≤ lo ∧ lo ≤ hi) ∧ hi ≤ w'.heap.size ∧ v = .slice A xs.length c ∧ Kd.R d e w' lo (fun k => lo ≤ k ∧ k < hi) v xs := by
  obtain ⟨A, c, hv⟩ := Kd.R_slice h
  have := hW.size
  have := hb.size
  exact ⟨W.heap.size, w'.heap.size, A, c, by omega, Nat.le_refl _, hv, Kd.R_mono (Kd.R_bound h) (fun k hk => ⟨hk.2.1, hk.2.2.1⟩)⟩
theorem law_madeS {α : Type} {d : Kd α} {e n : Nat} {ok : Nat → Prop} {wl W w' : World} {v : Value} {xs : List α} (h : Kd.S d e w' W.heap.size ok v xs) (hb : Below W.heap.size W w') (hn : n ≤ wl.heap.size) (hW : Below wl.heap.size wl W) :
    ∃ (lo hi : Nat) (A : Option Addr) (c : Nat), (n ≤ lo ∧ lo ≤ hi) ∧ hi ≤ w'.heap.size ∧ v = .slice A xs.length c ∧ Kd.S d e w' lo (fun k => lo ≤ k ∧ k < hi) v xs := by
  obtain ⟨A, c, hv⟩ := Kd.R_slice (Kd.S_R h)
  have := hW.size
  have := hb.size
  exact ⟨W.heap.size, w'.heap.size, A, c, by omega, Nat.le_refl _, hv, Kd.S_mono (Kd.S_bound h) (fun k hk => ⟨hk.2.1, hk.2.2.1⟩)⟩
theorem law_kept {wl W w' : World} {S : Nat → Prop} (h : Below wl.heap.size wl W) (hk : Kept W w' S) : Kept wl w' S := (Kept.of_below h S).then_ hk (fun _ h => .inl h)
/-- A marked row of plain values lies where it lay. -/
theorem law_marked {α : Type} {d : Kd α} {W w' : World} {base base' e : Nat} {ok P : Nat → Prop} {v : Value} {xs ys : List α} (hE : d.E = []) (h0 : Kd.R d e W base P v xs) (h : Kd.R d e w' base' ok v ys) : Kd.R d e w' base' P v ys :=
  Kd.R_mono (Kd.R_tight hE h) (fun k hk => h0.1 k hk.symm)
theorem law_C {α : Type} {d : Kd α} {e base n c : Nat} {ok : Nat → Prop} {w W : World} {A : Option Addr} {xs : List α} (h : Kd.R d e w base ok (.slice A n c) xs) (hb : Below w.heap.size w W) : Kd.C d W A xs.length xs := (Kd.R_reads' (Kd.R_below h hb)).2.2
theorem law_c {α : Type} {d : Kd α} {e base c : Nat} {ok : Nat → Prop} {w : World} {A : Option Addr} {xs : List α} (h : Kd.R d e w base ok (.slice A xs.length c) xs) : xs.length ≤ c := (Kd.R_reads' h).2.1
theorem law_C0 {α : Type} {d : Kd α} {e base n c : Nat} {ok : Nat → Prop} {w W : World} {A : Option Addr} {xs : List α} (h : Kd.R d e w base ok (.slice A n c) xs) (hb : Below w.heap.size w W) : Kd.C d W A xs.length xs := (Kd.R_reads' (Kd.R_below h hb)).2.2
theorem law_c0 {α : Type} {d : Kd α} {e base n c : Nat} {ok : Nat → Prop} {w : World} {A : Option Addr} {xs : List α} (h : Kd.R d e w base ok (.slice A n c) xs) : xs.length ≤ c := (Kd.R_reads' h).1 ▸ (Kd.R_reads' h).2.1
set_option maxHeartbeats 8000000 in
set_option maxRecDepth 100000 in
theorem shMarkIntS.calls (S : Nat → Prop) (A : Option Addr) (c n : Nat) (a : Int) (w0 w : World) (hB : Below w0.heap.size w0 w) (hS : ∀ k, S k → w0.heap.size ≤ k) (hi : Ints S w A n) (ha : 0 ≤ a) (han : a + n ≤ 9223372036854775807) :
    Calls Try.prog 22 #[.slice A n c, .int .i64 a] w fun e w' => e = .returned (.int .i64 (a + n)) ∧ Below w0.heap.size w0 w' ∧ Sh S w w' := by
  have HI := Aside0.mk hi
  have HS := Aside0.mk hS
  have HB := Aside0.mk hB
  have HA := Aside0.mk ha
  have HAN := Aside0.mk han
  have HSH := Aside0.mk (Sh.refl S w)
  clear hi hS hB ha han
  go_enter Try.func22, Try.ntmps22
  go_wp2
  go_loopg [1, 5] n (fun kq v1 v5 w' => ∃ j : Nat, v1 = .int .i64 (a + (j : Int)) ∧ v5 = .int .i64 (j : Int) ∧ Aside0 (kq + j = n) ∧ Aside0 (Below w0.heap.size w0 w') ∧ Aside0 (Sh S w w'))
  case atStart => exact ⟨0, by simp, by simp, ⟨by omega⟩, ⟨by repeat (first | exact HB.out | apply below_alloc | apply pw_below_drewN | apply below_drew1)⟩, ⟨by first | exact HSH.out | exact Sh.drewN HSH.out _⟩⟩
  case round =>
    clear HB HSH
    obtain ⟨j, rfl, rfl, HK, HB, HSH⟩ := hrel
    by_cases hlt : j < n
    · obtain ⟨ad, rfl, hSad, hcell⟩ := (HI.out.sh HSH.out).2 (by omega)
      obtain ⟨⟨z, hz⟩, hf⟩ := hcell j hlt
      have hd : decide (j < n) = true := decide_eq_true hlt
      have hd0 : decide (0 ≤ (j : Int)) = true := decide_eq_true (by omega)
      have HD := Aside0.mk hlt
      clear hcell
      cases gk with
      | zero => exact absurd HK.out (by have := HD.out; omega)
      | succ k1 =>
        go_wp2
        go_roundg k1
        case measure => omega
        case rel => 
          exact ⟨j + 1, by have := HAN.out; have := HA.out; have := HD.out; congr 1; unfold wrap64; omega, by have := HI.out.1; have := HD.out; congr 1; unfold wrap64; omega, ⟨by have := HK.out; omega⟩, ⟨by refine HB.out.setCell ?_ _; rw [sh_add_block]; exact HS.out _ hSad⟩, ⟨by refine Sh.set HSH.out hz ?_ _; rw [sh_add_block]; exact hSad⟩⟩
    · have hd : decide (j < n) = false := decide_eq_false hlt
      have HD := Aside0.mk hlt
      clear hlt
      go_wp2
      go_ret
      exact ⟨by have := HK.out; have := HD.out; rw [show j = n by omega]; rfl, by repeat (first | exact HB.out | apply below_alloc | apply pw_below_drewN | apply below_drew1), by first | exact HSH.out | exact Sh.drewN HSH.out _⟩
theorem lawHeldIntS.calls (k : Nat) (A : Option Addr) (c n : Nat) (l : List Int) (a r : Int) (w : World) (hn : n = l.length) (hr : Kd.C (Kd.int .i64) w A l.length l) (hc : l.length ≤ c) (h : laws_heldIntS.f k l a = some r) :
    Calls Try.prog 23 #[.slice A n c, .int .i64 a] w fun e w' => e = .returned (.int .i64 r) ∧ Drawn0 w w' := by
  subst hn
  exact laws_heldIntS.calls k A c l a r w hr hc h
def markSSGo (k : Nat) : List (List Int) → Int → Option (Int × List (List Int))
  | [], v => some (v, [])
  | x :: l, v => (laws_markIntS.f k x v).bind fun t => (markSSGo k l t.1).bind fun u => some (u.1, t.2 :: u.2)
theorem rows_at {W : World} {base n cap g : Nat} {ok : Nat → Prop} {xs : List (List Int)} (h : Kd.S (Kd.slice 3 (Kd.int .i64)) 29 W base ok (.slice (some ⟨g, 0, none⟩) n cap) xs) (j : Nat) (hj : j < n) :
    ∃ (oki : Nat → Prop) (A : Option Addr) (c : Nat), Kd.R (Kd.int .i64) 3 W base oki (.slice A (xs.getD j []).length c) (xs.getD j []) ∧ W.cell? ⟨g, j, none⟩ = some (.slice A (xs.getD j []).length c) ∧ (∀ k, oki k → ok k) ∧
      ∀ {W' : World} {ys : List Int}, Kept W W' oki → Kd.R (Kd.int .i64) 3 W' base oki (.slice A (xs.getD j []).length c) ys → Kd.S (Kd.slice 3 (Kd.int .i64)) 29 W' base ok (.slice (some ⟨g, 0, none⟩) n cap) (xs.set j ys) := by
  obtain ⟨oki, c, hcl, hM, hcc, hok, hH⟩ := Kd.S_lend h [] (j : Int) (by omega) (by omega)
  rw [Int.toNat_natCast] at hM hcc
  obtain ⟨v, rfl, hR⟩ := hM
  obtain ⟨A, c, rfl⟩ := Kd.R_slice hR
  refine ⟨oki, A, c, hR, by have h2 := hcc 0 _ rfl; simpa [Kd.slice] using h2, fun k hk => (hok k hk).1, fun hk hR' => ?_⟩
  have h3 := Kd.H_kept hH hk (fun _ _ hn => hn)
  have h4 := Kd.H_back h3 (x' := _) (okp := oki) ⟨_, rfl, hR'⟩ (fun _ hk => hk)
  rwa [Int.toNat_natCast] at h4
set_option maxHeartbeats 8000000 in
set_option maxRecDepth 100000 in
theorem shMarkIntSS.calls (k : Nat) (P : Nat → Prop) (v : Value) (l : List (List Int)) (a : Int) (r1 : Int) (r2 : List (List Int)) (w0 w : World) (hB : Below w0.heap.size w0 w) (ho : Kd.S (Kd.slice 3 (Kd.int .i64)) 29 w w0.heap.size P v l) (h : markSSGo k l a = some (r1, r2)) :
    Calls Try.prog 32 #[v, .int .i64 a] w fun e w' => e = .returned (.int .i64 r1) ∧ Kd.S (Kd.slice 3 (Kd.int .i64)) 29 w' w0.heap.size P v r2 ∧ Below w0.heap.size w0 w' ∧ Kept w w' P := by
  obtain ⟨A, c, rfl⟩ := Kd.R_slice (Kd.S_R ho)
  have HO := Aside0.mk ho
  have HB := Aside0.mk hB
  have HF := Aside0.mk h
  have HLN := Aside0.mk (Kd.R_reads' (Kd.S_R ho)).2.2.2.1
  obtain ⟨ln, hln⟩ : ∃ ln, ln = l.length := ⟨_, rfl⟩
  rw [← hln] at HO HLN ⊢
  have HL := Aside0.mk hln
  clear ho hB h hln
  go_enter Try.func32, Try.ntmps32
  go_wp2
  go_loopg [1, 5] ln (fun kq v1 v5 w' => ∃ (j : Nat) (aj : Int) (xs ds : List (List Int)) (rs : List (List Int)), v1 = .int .i64 aj ∧ v5 = .int .i64 (j : Int) ∧ Aside0 (kq + j = ln) ∧ Aside0 (Below w0.heap.size w0 w') ∧ Aside0 (Kept w w' P) ∧ Aside0 (Kd.S (Kd.slice 3 (Kd.int .i64)) 29 w' w0.heap.size P (.slice A ln c) xs) ∧ Aside0 (xs = ds ++ l.drop j ∧ ds.length = j ∧ markSSGo k (l.drop j) aj = some (r1, rs) ∧ r2 = ds ++ rs))
  case atStart => exact ⟨0, a, l, [], r2, rfl, rfl, ⟨by omega⟩, ⟨by repeat (first | exact HB.out | apply below_alloc | apply pw_below_drewN | apply below_drew1)⟩, ⟨Kept.of_below (by repeat (first | exact Below.refl _ _ | apply below_alloc | apply pw_below_drewN | apply below_drew1)) _⟩, ⟨Kd.S_below HO.out (by repeat (first | exact Below.refl _ _ | apply below_alloc | apply pw_below_drewN | apply below_drew1))⟩, ⟨by simp, rfl, by simpa using HF.out, rfl⟩⟩
  case round =>
    clear HB HF HO
    obtain ⟨j, aj, xs, ds, rs, rfl, rfl, HK, HB, HKP, HO, HX⟩ := hrel
    by_cases hlt : j < ln
    · obtain ⟨hx1, hx2, hx3, hx4⟩ := HX.out
      have hll := HL.out
      have hget : xs.getD j [] = l.getD j [] := by
        rw [hx1, List.getD_eq_getElem?_getD, List.getElem?_append_right (by omega), hx2, Nat.sub_self, List.getElem?_drop, Nat.add_zero, ← List.getD_eq_getElem?_getD]
      have hdr : l.drop j = l.getD j [] :: l.drop (j + 1) := by
        rw [List.drop_eq_getElem_cons (by omega), List.getD_eq_getElem?_getD, List.getElem?_eq_getElem (by omega)]; rfl
      rw [hdr] at hx3
      simp only [markSSGo] at hx3
      obtain ⟨⟨a2, y⟩, hy, hx3⟩ := Option.bind_eq_some_iff.1 hx3
      obtain ⟨⟨u1, u2⟩, hu, hx3⟩ := Option.bind_eq_some_iff.1 hx3
      simp only [Option.some.injEq, Prod.mk.injEq] at hx3
      obtain ⟨rfl, rfl⟩ := hx3
      simp only at hu
      rw [← hget] at hy
      obtain ⟨g, cap, eg, hgb, hgl, _⟩ := Kd.R_form (Kd.S_R HO.out) (by rw [hx1]; simp; omega)
      injection eg with ea en ec
      subst ea
      subst ec
      clear en
      obtain ⟨oki, A0, c0, hR, hx, hok, hback⟩ := rows_at HO.out j hlt
      obtain ⟨row, hrow⟩ : ∃ row, row = xs.getD j [] := ⟨_, rfl⟩
      rw [← hrow] at hR hx hback hy
      have HR := Aside0.mk hR
      have HBK := Aside0.mk (fun {W' : World} {ys : List Int} => hback (W' := W') (ys := ys))
      have HOK := Aside0.mk hok
      have HY := Aside0.mk hy
      have HU := Aside0.mk hu
      have HX2 := Aside0.mk (show ∀ ys : List Int, xs.set j ys = (ds ++ [ys]) ++ l.drop (j + 1) from fun ys => by
        rw [hx1, hdr, List.set_append_right _ _ (by omega), hx2, Nat.sub_self, List.set_cons_zero, List.append_assoc]; rfl)
      have HX3 := Aside0.mk hx2
      have HX4 := Aside0.mk hx4
      have hd : decide (j < ln) = true := decide_eq_true hlt
      clear hx1 hx2 hx4 hll hget hdr hy hu hR hok hback hrow HX
      cases gk with
      | zero => exact absurd HK.out (by omega)
      | succ k1 =>
        have hxp : wr.cell? (({ block := g, off := 0, spot := none } : Addr).add j) = some (.slice A0 row.length c0) := by rw [add_plain]; exact hx
        go_wp2_with fail
        refine (laws_markIntS.calls k oki _ row aj a2 y w0 _ ?hb ?hr HY.out).mono ?_
        case hb => repeat (first | exact HB.out | apply below_alloc | apply pw_below_drewN | apply below_drew1)
        case hr => exact Kd.R_below HR.out (by repeat (first | exact Below.refl _ _ | apply below_alloc | apply pw_below_drewN | apply below_drew1))
        rintro e w1 ⟨rfl, hr1, hb1, hk1⟩
        have HB1 := Aside0.mk hb1
        have HK1 := Aside0.mk (law_kept (wl := wr) (by repeat (first | exact Below.refl _ _ | apply below_alloc | apply pw_below_drewN | apply below_drew1)) hk1)
        have HR1 := Aside0.mk (Kd.R_mono (Kd.R_tight rfl hr1) (fun k hk => HR.out.1 k hk.symm))
        have HO1 := Aside0.mk (HBK.out HK1.out HR1.out)
        have HKP1 := Aside0.mk (HKP.out.then_ HK1.out (fun k hk => .inl (HOK.out k hk)))
        clear hr1 hb1 hk1 hx hxp HBK
        go_wp2
        go_roundg k1
        case measure => omega
        case rel =>
          exact ⟨j + 1, a2, _, ds ++ [y], u2, rfl, by have := HLN.out; congr 1; unfold wrap64; omega, ⟨by have := HK.out; omega⟩, ⟨by repeat (first | exact HB1.out | apply below_alloc | apply pw_below_drewN | apply below_drew1)⟩, ⟨by first | exact HKP1.out | exact Kept.drewN HKP1.out _⟩, ⟨Kd.S_below HO1.out (by repeat (first | exact Below.refl _ _ | apply below_alloc | apply pw_below_drewN | apply below_drew1))⟩, ⟨HX2.out y, by have := HX3.out; simp; omega, HU.out, by rw [HX4.out]; simp⟩⟩
    · have hd : decide (j < ln) = false := decide_eq_false hlt
      have HD := Aside0.mk hlt
      clear hlt
      go_wp2
      go_ret
      have hj : j = ln := by have := HK.out; have := HD.out; omega
      obtain ⟨hx1, hx2, hx3, hx4⟩ := HX.out
      rw [List.drop_of_length_le (by have := HL.out; omega)] at hx1 hx3
      simp only [markSSGo, Option.some.injEq, Prod.mk.injEq] at hx3
      obtain ⟨e1, e2⟩ := hx3
      exact ⟨by rw [← e1]; rfl, by rw [hx4, ← e2, ← hx1]; exact Kd.S_below HO.out (by repeat (first | exact Below.refl _ _ | apply below_alloc | apply pw_below_drewN | apply below_drew1)), by repeat (first | exact HB.out | apply below_alloc | apply pw_below_drewN | apply below_drew1), by first | exact HKP.out | exact Kept.drewN HKP.out _⟩
theorem lawHeldIntSS.calls (k : Nat) (A : Option Addr) (c n : Nat) (l : List (List Int)) (a r : Int) (w : World) (hn : n = l.length) (hr : Kd.C (Kd.slice 3 (Kd.int .i64)) w A l.length l) (hc : l.length ≤ c) (h : laws_heldIntSS.f k l a = some r) :
    Calls Try.prog 33 #[.slice A n c, .int .i64 a] w fun e w' => e = .returned (.int .i64 r) ∧ Drawn0 w w' := by
  subst hn
  exact laws_heldIntSS.calls k A c l a r w hr hc h
def laws_FnExactVectorsOf.f (k : Nat) (a0 : Int) (l1 : List S64) : Option Bool :=
  (laws_szActS.f l1 1048576).bind fun t => if t < 0 then some true else
  (laws_toActS.f k l1).bind fun m1 =>
  (spec_VectorsOf.f k a0 m1).bind fun s =>
  (impl_VectorsOf.f k a0 m1).bind fun g =>
  (laws_eqIntSS.f k s.1 s.1).bind fun b0 =>
  (laws_eqActS.f k m1 m1).bind fun b1 =>
  (laws_markActS.f k m1 1).bind fun ma =>
  (markSSGo k s.1 1).bind fun mk => (laws_heldIntSS.f k mk.2 1).bind fun q =>
  if g = s ∧ b0 = true ∧ b1 = true ∧ ¬ ma.1 < 0 ∧ q = mk.1 ∧ ¬ q < 0 then some true else none
set_option maxHeartbeats 8000000 in
set_option maxRecDepth 100000 in
theorem laws_FnExactVectorsOf.calls (k : Nat) (a0 : Int) (A1 : Option Addr) (c1 : Nat) (l1 : List S64) (r : Bool) (w : World) (hr1 : Kd.C k64 w A1 l1.length l1) (hc1 : l1.length ≤ c1) (h : laws_FnExactVectorsOf.f k a0 l1 = some r) :
    Calls Try.prog 7 #[.int .i64 a0, .slice A1 l1.length c1] w fun e w' => e = .returned (.bool r) ∧ Below w.heap.size w w' := by
  have HR1 := Aside0.mk hr1
  have HC1 := Aside0.mk hc1
  have HB := Aside0.mk (Below.refl w.heap.size w)
  clear hr1 hc1
  unfold laws_FnExactVectorsOf.f at h
  obtain ⟨t, T, h⟩ := Option.bind_eq_some_iff.1 h
  have HT := Aside0.mk T
  clear T
  by_cases ht : t < 0
  · rw [if_pos ht] at h
    obtain rfl := Option.some.inj h
    have hdt : decide (t < 0) = true := decide_eq_true ht
    clear ht
    go_enter Try.func7, Try.ntmps7
    go_wp2_with fail
    refine (laws_szActS.calls _ _ l1 1048576 t _ (Kd.C_below HR1.out (by repeat (first | exact HB.out | apply below_alloc | apply pw_below_drewN | apply below_drew1))) HC1.out HT.out).mono ?_
    rintro e w1 ⟨rfl, hd⟩
    have hb := hd.below
    clear hd
    have HB1 : Aside0 (Below w.heap.size w w1) := ⟨bel_then (by repeat (first | exact HB.out | apply below_alloc | apply pw_below_drewN | apply below_drew1)) hb⟩
    clear hb
    go_wp2
    go_ret
    exact ⟨rfl, by repeat (first | exact HB1.out | apply below_alloc | apply pw_below_drewN | apply below_drew1)⟩
  rw [if_neg ht] at h
  have hdt : decide (t < 0) = false := decide_eq_false ht
  clear ht
  obtain ⟨m1, hm1, h⟩ := Option.bind_eq_some_iff.1 h
  obtain ⟨⟨s0, s1⟩, hS, h⟩ := Option.bind_eq_some_iff.1 h
  obtain ⟨g, hG, h⟩ := Option.bind_eq_some_iff.1 h
  obtain ⟨b0, hE0, h⟩ := Option.bind_eq_some_iff.1 h
  obtain ⟨b1, hE1, h⟩ := Option.bind_eq_some_iff.1 h
  obtain ⟨⟨ma1, ma2⟩, hMA, h⟩ := Option.bind_eq_some_iff.1 h
  obtain ⟨⟨mk1, mk2⟩, hMK, h⟩ := Option.bind_eq_some_iff.1 h
  obtain ⟨q, hQ, h⟩ := Option.bind_eq_some_iff.1 h
  try simp only at hm1 hS hG hE0 hE1 hMA hMK hQ h
  split at h
  case isFalse => cases h
  rename_i hh
  obtain rfl := Option.some.inj h
  obtain ⟨rfl, rfl, rfl, hsz, rfl, hq⟩ := hh
  have HM1 := Aside0.mk hm1
  have HSP := Aside0.mk hS
  have HG := Aside0.mk hG
  have HE0 := Aside0.mk hE0
  have HE1 := Aside0.mk hE1
  have HMA := Aside0.mk hMA
  have HMK := Aside0.mk hMK
  have HQ := Aside0.mk hQ
  have hda : decide (ma1 < 0) = false := decide_eq_false hsz
  have hdq : decide (q < 0) = false := decide_eq_false hq
  clear hm1 hS hG hE0 hE1 hMA hMK hQ hsz hq h
  go_enter Try.func7, Try.ntmps7
  go_wp2_with fail
  refine (laws_szActS.calls _ _ l1 1048576 t _ (Kd.C_below HR1.out (by repeat (first | exact HB.out | apply below_alloc | apply pw_below_drewN | apply below_drew1))) HC1.out HT.out).mono ?_
  rintro e w1 ⟨rfl, hd⟩
  have hb := hd.below
  have nHB : Aside0 (Below w.heap.size w w1) := ⟨bel_then (by repeat (first | exact HB.out | apply below_alloc | apply pw_below_drewN | apply below_drew1)) hb⟩
  have ZC : Aside0 (w.heap.size + 0 ≤ w1.heap.size) := ⟨by have := hb.size; simpa using this⟩
  have ZW : Aside0 (w.heap.size ≤ w.heap.size + 0) := ⟨Nat.le_add_right _ _⟩
  clear HB hb
  have HB := nHB
  clear nHB
  go_wp2_with fail
  refine (laws_toActS.calls k _ _ l1 m1 _ (Kd.C_below HR1.out (bel_then HB.out (by repeat (first | exact Below.refl _ _ | apply below_alloc | apply pw_below_drewN | apply below_drew1)))) HC1.out HM1.out).mono ?_
  rintro e w2 ⟨v, rfl, hr, hb⟩
  have ST : Below w1.heap.size w1 w2 := bel_then (by repeat (first | exact Below.refl _ _ | apply below_alloc | apply pw_below_drewN | apply below_drew1)) hb
  obtain ⟨lo1, hi1, A1_, c1_, hz1, hc1, rfl, ho1⟩ := law_madeR (n := (w.heap.size + 0)) hr hb ZC.out (by repeat (first | exact Below.refl _ _ | apply below_alloc | apply pw_below_drewN | apply below_drew1))
  have ZL1 := Aside0.mk hz1
  have HO1 := Aside0.mk ho1
  clear ho1 hz1
  have nZC := Aside0.mk hc1
  clear hc1
  have nHB : Aside0 (Below w.heap.size w w2) := ⟨bel_then HB.out ST⟩
  clear HB ZC ST hb hr
  have HB := nHB
  clear nHB
  have ZC := nZC
  clear nZC
  go_wp2_with fail
  refine (spec_VectorsOf.calls k a0 _ _ m1 s0 s1 _ (law_C HO1.out (by repeat (first | exact Below.refl _ _ | apply below_alloc | apply pw_below_drewN | apply below_drew1))) (law_c HO1.out) HSP.out).mono ?_
  rintro e w3 ⟨v, rfl, hr, hb⟩
  have ST : Below w2.heap.size w2 w3 := bel_then (by repeat (first | exact Below.refl _ _ | apply below_alloc | apply pw_below_drewN | apply below_drew1)) hb
  obtain ⟨lo2, hi2, A2_, c2_, hz2, hc2, rfl, ho2⟩ := law_madeS (n := hi1) hr hb ZC.out (by repeat (first | exact Below.refl _ _ | apply below_alloc | apply pw_below_drewN | apply below_drew1))
  have ZL2 := Aside0.mk hz2
  have HO2 := Aside0.mk ho2
  clear ho2 hz2
  have nZC := Aside0.mk hc2
  clear hc2
  have nHB : Aside0 (Below w.heap.size w w3) := ⟨bel_then HB.out ST⟩
  have nHO1 := Aside0.mk (Kd.R_below HO1.out ST)
  clear HB ZC HO1 ST hb hr
  have HB := nHB
  clear nHB
  have ZC := nZC
  clear nZC
  have HO1 := nHO1
  clear nHO1
  clear HO1
  go_wp2_with fail
  refine (laws_toActS.calls k _ _ l1 m1 _ (Kd.C_below HR1.out (bel_then HB.out (by repeat (first | exact Below.refl _ _ | apply below_alloc | apply pw_below_drewN | apply below_drew1)))) HC1.out HM1.out).mono ?_
  rintro e w4 ⟨v, rfl, hr, hb⟩
  have ST : Below w3.heap.size w3 w4 := bel_then (by repeat (first | exact Below.refl _ _ | apply below_alloc | apply pw_below_drewN | apply below_drew1)) hb
  obtain ⟨lo3, hi3, A3_, c3_, hz3, hc3, rfl, ho3⟩ := law_madeR (n := hi2) hr hb ZC.out (by repeat (first | exact Below.refl _ _ | apply below_alloc | apply pw_below_drewN | apply below_drew1))
  have ZL3 := Aside0.mk hz3
  have HO3 := Aside0.mk ho3
  clear ho3 hz3
  have nZC := Aside0.mk hc3
  clear hc3
  have nHB : Aside0 (Below w.heap.size w w4) := ⟨bel_then HB.out ST⟩
  have nHO2 := Aside0.mk (Kd.S_below HO2.out ST)
  clear HB ZC HO2 ST hb hr
  have HB := nHB
  clear nHB
  have ZC := nZC
  clear nZC
  have HO2 := nHO2
  clear nHO2
  go_wp2_with fail
  refine (impl_VectorsOf.calls k a0 _ _ m1 s0 s1 _ (law_C HO3.out (by repeat (first | exact Below.refl _ _ | apply below_alloc | apply pw_below_drewN | apply below_drew1))) (law_c HO3.out) HG.out).mono ?_
  rintro e w5 ⟨v, rfl, hr, hb⟩
  have ST : Below w4.heap.size w4 w5 := bel_then (by repeat (first | exact Below.refl _ _ | apply below_alloc | apply pw_below_drewN | apply below_drew1)) hb
  obtain ⟨lo4, hi4, A4_, c4_, hz4, hc4, rfl, ho4⟩ := law_madeS (n := hi3) hr hb ZC.out (by repeat (first | exact Below.refl _ _ | apply below_alloc | apply pw_below_drewN | apply below_drew1))
  have ZL4 := Aside0.mk hz4
  have HO4 := Aside0.mk ho4
  clear ho4 hz4
  have nZC := Aside0.mk hc4
  clear hc4
  have nHB : Aside0 (Below w.heap.size w w5) := ⟨bel_then HB.out ST⟩
  have nHO2 := Aside0.mk (Kd.S_below HO2.out ST)
  have nHO3 := Aside0.mk (Kd.R_below HO3.out ST)
  clear HB ZC HO2 HO3 ST hb hr
  have HB := nHB
  clear nHB
  have ZC := nZC
  clear nZC
  have HO2 := nHO2
  clear nHO2
  have HO3 := nHO3
  clear nHO3
  go_wp2_with fail
  refine (laws_eqIntSS.calls k _ _ s0 _ _ s0 true _ (law_C (Kd.S_R HO4.out) (by repeat (first | exact Below.refl _ _ | apply below_alloc | apply pw_below_drewN | apply below_drew1))) (law_c (Kd.S_R HO4.out)) (law_C (Kd.S_R HO2.out) (by repeat (first | exact Below.refl _ _ | apply below_alloc | apply pw_below_drewN | apply below_drew1))) (law_c (Kd.S_R HO2.out)) HE0.out).mono ?_
  rintro e w6 ⟨rfl, hd⟩
  have hb := hd.below
  have ST : Below w5.heap.size w5 w6 := bel_then (by repeat (first | exact Below.refl _ _ | apply below_alloc | apply pw_below_drewN | apply below_drew1)) hb
  have nZC := Aside0.mk (Nat.le_trans ZC.out ST.size)
  have nHB : Aside0 (Below w.heap.size w w6) := ⟨bel_then HB.out ST⟩
  have nHO2 := Aside0.mk (Kd.S_below HO2.out ST)
  have nHO3 := Aside0.mk (Kd.R_below HO3.out ST)
  have nHO4 := Aside0.mk (Kd.S_below HO4.out ST)
  clear HB ZC HO2 HO3 HO4 ST hb hd
  have HB := nHB
  clear nHB
  have ZC := nZC
  clear nZC
  have HO2 := nHO2
  clear nHO2
  have HO3 := nHO3
  clear nHO3
  have HO4 := nHO4
  clear nHO4
  go_wp2_with fail
  refine (laws_toActS.calls k _ _ l1 m1 _ (Kd.C_below HR1.out (bel_then HB.out (by repeat (first | exact Below.refl _ _ | apply below_alloc | apply pw_below_drewN | apply below_drew1)))) HC1.out HM1.out).mono ?_
  rintro e w7 ⟨v, rfl, hr, hb⟩
  have ST : Below w6.heap.size w6 w7 := bel_then (by repeat (first | exact Below.refl _ _ | apply below_alloc | apply pw_below_drewN | apply below_drew1)) hb
  obtain ⟨lo5, hi5, A5_, c5_, hz5, hc5, rfl, ho5⟩ := law_madeR (n := hi4) hr hb ZC.out (by repeat (first | exact Below.refl _ _ | apply below_alloc | apply pw_below_drewN | apply below_drew1))
  have ZL5 := Aside0.mk hz5
  have HO5 := Aside0.mk ho5
  clear ho5 hz5
  have nZC := Aside0.mk hc5
  clear hc5
  have nHB : Aside0 (Below w.heap.size w w7) := ⟨bel_then HB.out ST⟩
  have nHO2 := Aside0.mk (Kd.S_below HO2.out ST)
  have nHO3 := Aside0.mk (Kd.R_below HO3.out ST)
  have nHO4 := Aside0.mk (Kd.S_below HO4.out ST)
  clear HB ZC HO2 HO3 HO4 ST hb hr
  have HB := nHB
  clear nHB
  have ZC := nZC
  clear nZC
  have HO2 := nHO2
  clear nHO2
  have HO3 := nHO3
  clear nHO3
  have HO4 := nHO4
  clear nHO4
  go_wp2_with fail
  refine (laws_eqActS.calls k _ _ m1 _ _ m1 true _ (law_C HO3.out (by repeat (first | exact Below.refl _ _ | apply below_alloc | apply pw_below_drewN | apply below_drew1))) (law_c HO3.out) (law_C HO5.out (by repeat (first | exact Below.refl _ _ | apply below_alloc | apply pw_below_drewN | apply below_drew1))) (law_c HO5.out) HE1.out).mono ?_
  rintro e w8 ⟨rfl, hb⟩
  have ST : Below w7.heap.size w7 w8 := bel_then (by repeat (first | exact Below.refl _ _ | apply below_alloc | apply pw_below_drewN | apply below_drew1)) hb
  have nZC := Aside0.mk (Nat.le_trans ZC.out ST.size)
  have nHB : Aside0 (Below w.heap.size w w8) := ⟨bel_then HB.out ST⟩
  have nHO2 := Aside0.mk (Kd.S_below HO2.out ST)
  have nHO3 := Aside0.mk (Kd.R_below HO3.out ST)
  have nHO4 := Aside0.mk (Kd.S_below HO4.out ST)
  have nHO5 := Aside0.mk (Kd.R_below HO5.out ST)
  clear HB ZC HO2 HO3 HO4 HO5 ST hb
  have HB := nHB
  clear nHB
  have ZC := nZC
  clear nZC
  have HO2 := nHO2
  clear nHO2
  have HO3 := nHO3
  clear nHO3
  have HO4 := nHO4
  clear nHO4
  have HO5 := nHO5
  clear nHO5
  clear HO5
  go_wp2_with fail
  refine (laws_markActS.calls k (fun k => lo3 ≤ k ∧ k < hi3) _ m1 1 _ ma2 w _ (bel_then HB.out (by repeat (first | exact Below.refl _ _ | apply below_alloc | apply pw_below_drewN | apply below_drew1))) (Kd.R_lower (Kd.R_below HO3.out (by repeat (first | exact Below.refl _ _ | apply below_alloc | apply pw_below_drewN | apply below_drew1))) (by have := ZL1.out; have := ZL2.out; have := ZL3.out; have := ZL4.out; have := ZL5.out; have := ZC.out; have := ZW.out; omega)) HMA.out).mono ?_
  rintro e w9 ⟨rfl, hr, hb, hk⟩
  have KP : Kept w8 w9 (fun k => lo3 ≤ k ∧ k < hi3) := law_kept (by repeat (first | exact Below.refl _ _ | apply below_alloc | apply pw_below_drewN | apply below_drew1)) hk
  have nZC := Aside0.mk (Nat.le_trans ZC.out KP.1)
  have nHB : Aside0 (Below w.heap.size w w9) := ⟨hb⟩
  have nHO2 := Aside0.mk (Kd.S_kept HO2.out KP (fun k h1 h2 => by have := ZL1.out; have := ZL2.out; have := ZL3.out; have := ZL4.out; have := ZL5.out; have := ZC.out; have := ZW.out; omega))
  have nHO4 := Aside0.mk (Kd.S_kept HO4.out KP (fun k h1 h2 => by have := ZL1.out; have := ZL2.out; have := ZL3.out; have := ZL4.out; have := ZL5.out; have := ZC.out; have := ZW.out; omega))
  have nHO3 := Aside0.mk (law_marked rfl HO3.out hr)
  clear HB ZC HO2 HO3 HO4 KP hb hr hk
  have HB := nHB
  clear nHB
  have ZC := nZC
  clear nZC
  have HO2 := nHO2
  clear nHO2
  have HO4 := nHO4
  clear nHO4
  have HO3 := nHO3
  clear nHO3
  clear HO3
  go_wp2_with fail
  refine (laws_eqIntSS.calls k _ _ s0 _ _ s0 true _ (law_C (Kd.S_R HO4.out) (by repeat (first | exact Below.refl _ _ | apply below_alloc | apply pw_below_drewN | apply below_drew1))) (law_c (Kd.S_R HO4.out)) (law_C (Kd.S_R HO2.out) (by repeat (first | exact Below.refl _ _ | apply below_alloc | apply pw_below_drewN | apply below_drew1))) (law_c (Kd.S_R HO2.out)) HE0.out).mono ?_
  rintro e w10 ⟨rfl, hd⟩
  have hb := hd.below
  have ST : Below w9.heap.size w9 w10 := bel_then (by repeat (first | exact Below.refl _ _ | apply below_alloc | apply pw_below_drewN | apply below_drew1)) hb
  have nZC := Aside0.mk (Nat.le_trans ZC.out ST.size)
  have nHB : Aside0 (Below w.heap.size w w10) := ⟨bel_then HB.out ST⟩
  have nHO2 := Aside0.mk (Kd.S_below HO2.out ST)
  have nHO4 := Aside0.mk (Kd.S_below HO4.out ST)
  clear HB ZC HO2 HO4 ST hb hd
  have HB := nHB
  clear nHB
  have ZC := nZC
  clear nZC
  have HO2 := nHO2
  clear nHO2
  have HO4 := nHO4
  clear nHO4
  go_wp2_with fail
  refine (shMarkIntSS.calls k (fun k => lo4 ≤ k ∧ k < hi4) _ s0 1 _ mk2 w _ (bel_then HB.out (by repeat (first | exact Below.refl _ _ | apply below_alloc | apply pw_below_drewN | apply below_drew1))) (Kd.S_lower (Kd.S_below HO4.out (by repeat (first | exact Below.refl _ _ | apply below_alloc | apply pw_below_drewN | apply below_drew1))) (by have := ZL1.out; have := ZL2.out; have := ZL3.out; have := ZL4.out; have := ZL5.out; have := ZC.out; have := ZW.out; omega)) HMK.out).mono ?_
  rintro e w11 ⟨rfl, hr, hb, hk⟩
  have KP : Kept w10 w11 (fun k => lo4 ≤ k ∧ k < hi4) := law_kept (by repeat (first | exact Below.refl _ _ | apply below_alloc | apply pw_below_drewN | apply below_drew1)) hk
  have nZC := Aside0.mk (Nat.le_trans ZC.out KP.1)
  have nHB : Aside0 (Below w.heap.size w w11) := ⟨hb⟩
  have nHO2 := Aside0.mk (Kd.S_kept HO2.out KP (fun k h1 h2 => by have := ZL1.out; have := ZL2.out; have := ZL3.out; have := ZL4.out; have := ZL5.out; have := ZC.out; have := ZW.out; omega))
  have nHO4 := Aside0.mk hr
  clear HB ZC HO2 HO4 KP hb hr hk
  have HB := nHB
  clear nHB
  have ZC := nZC
  clear nZC
  have HO2 := nHO2
  clear nHO2
  have HO4 := nHO4
  clear nHO4
  go_wp2_with fail
  refine (lawHeldIntSS.calls k _ _ s0.length mk2 1 _ _ (Kd.R_reads' (Kd.S_R HO4.out)).1 (law_C0 (Kd.S_R HO4.out) (by repeat (first | exact Below.refl _ _ | apply below_alloc | apply pw_below_drewN | apply below_drew1))) (law_c0 (Kd.S_R HO4.out)) HQ.out).mono ?_
  rintro e w12 ⟨rfl, hd⟩
  have hb := hd.below
  have ST : Below w11.heap.size w11 w12 := bel_then (by repeat (first | exact Below.refl _ _ | apply below_alloc | apply pw_below_drewN | apply below_drew1)) hb
  have nZC := Aside0.mk (Nat.le_trans ZC.out ST.size)
  have nHB : Aside0 (Below w.heap.size w w12) := ⟨bel_then HB.out ST⟩
  have nHO2 := Aside0.mk (Kd.S_below HO2.out ST)
  have nHO4 := Aside0.mk (Kd.S_below HO4.out ST)
  clear HB ZC HO2 HO4 ST hb hd
  have HB := nHB
  clear nHB
  have ZC := nZC
  clear nZC
  have HO2 := nHO2
  clear nHO2
  have HO4 := nHO4
  clear nHO4
  go_wp2_with fail
  refine (laws_toActS.calls k _ _ l1 m1 _ (Kd.C_below HR1.out (bel_then HB.out (by repeat (first | exact Below.refl _ _ | apply below_alloc | apply pw_below_drewN | apply below_drew1)))) HC1.out HM1.out).mono ?_
  rintro e w13 ⟨v, rfl, hr, hb⟩
  have ST : Below w12.heap.size w12 w13 := bel_then (by repeat (first | exact Below.refl _ _ | apply below_alloc | apply pw_below_drewN | apply below_drew1)) hb
  obtain ⟨lo6, hi6, A6_, c6_, hz6, hc6, rfl, ho6⟩ := law_madeR (n := hi5) hr hb ZC.out (by repeat (first | exact Below.refl _ _ | apply below_alloc | apply pw_below_drewN | apply below_drew1))
  have ZL6 := Aside0.mk hz6
  have HO6 := Aside0.mk ho6
  clear ho6 hz6
  have nZC := Aside0.mk hc6
  clear hc6
  have nHB : Aside0 (Below w.heap.size w w13) := ⟨bel_then HB.out ST⟩
  have nHO2 := Aside0.mk (Kd.S_below HO2.out ST)
  have nHO4 := Aside0.mk (Kd.S_below HO4.out ST)
  clear HB ZC HO2 HO4 ST hb hr
  have HB := nHB
  clear nHB
  have ZC := nZC
  clear nZC
  have HO2 := nHO2
  clear nHO2
  have HO4 := nHO4
  clear nHO4
  go_wp2_with fail
  refine (impl_VectorsOf.calls k a0 _ _ m1 s0 s1 _ (law_C HO6.out (by repeat (first | exact Below.refl _ _ | apply below_alloc | apply pw_below_drewN | apply below_drew1))) (law_c HO6.out) HG.out).mono ?_
  rintro e w14 ⟨v, rfl, hr, hb⟩
  have ST : Below w13.heap.size w13 w14 := bel_then (by repeat (first | exact Below.refl _ _ | apply below_alloc | apply pw_below_drewN | apply below_drew1)) hb
  obtain ⟨lo7, hi7, A7_, c7_, hz7, hc7, rfl, ho7⟩ := law_madeS (n := hi6) hr hb ZC.out (by repeat (first | exact Below.refl _ _ | apply below_alloc | apply pw_below_drewN | apply below_drew1))
  have ZL7 := Aside0.mk hz7
  have HO7 := Aside0.mk ho7
  clear ho7 hz7
  have nZC := Aside0.mk hc7
  clear hc7
  have nHB : Aside0 (Below w.heap.size w w14) := ⟨bel_then HB.out ST⟩
  have nHO2 := Aside0.mk (Kd.S_below HO2.out ST)
  have nHO4 := Aside0.mk (Kd.S_below HO4.out ST)
  have nHO6 := Aside0.mk (Kd.R_below HO6.out ST)
  clear HB ZC HO2 HO4 HO6 ST hb hr
  have HB := nHB
  clear nHB
  have ZC := nZC
  clear nZC
  have HO2 := nHO2
  clear nHO2
  have HO4 := nHO4
  clear nHO4
  have HO6 := nHO6
  clear nHO6
  go_wp2_with fail
  refine (laws_eqIntSS.calls k _ _ s0 _ _ s0 true _ (law_C (Kd.S_R HO7.out) (by repeat (first | exact Below.refl _ _ | apply below_alloc | apply pw_below_drewN | apply below_drew1))) (law_c (Kd.S_R HO7.out)) (law_C (Kd.S_R HO2.out) (by repeat (first | exact Below.refl _ _ | apply below_alloc | apply pw_below_drewN | apply below_drew1))) (law_c (Kd.S_R HO2.out)) HE0.out).mono ?_
  rintro e w15 ⟨rfl, hd⟩
  have hb := hd.below
  have ST : Below w14.heap.size w14 w15 := bel_then (by repeat (first | exact Below.refl _ _ | apply below_alloc | apply pw_below_drewN | apply below_drew1)) hb
  have nZC := Aside0.mk (Nat.le_trans ZC.out ST.size)
  have nHB : Aside0 (Below w.heap.size w w15) := ⟨bel_then HB.out ST⟩
  have nHO2 := Aside0.mk (Kd.S_below HO2.out ST)
  have nHO4 := Aside0.mk (Kd.S_below HO4.out ST)
  have nHO6 := Aside0.mk (Kd.R_below HO6.out ST)
  have nHO7 := Aside0.mk (Kd.S_below HO7.out ST)
  clear HB ZC HO2 HO4 HO6 HO7 ST hb hd
  have HB := nHB
  clear nHB
  have ZC := nZC
  clear nZC
  have HO2 := nHO2
  clear nHO2
  have HO4 := nHO4
  clear nHO4
  have HO6 := nHO6
  clear nHO6
  have HO7 := nHO7
  clear nHO7
  go_wp2_with fail
  refine (lawHeldIntSS.calls k _ _ s0.length mk2 1 _ _ (Kd.R_reads' (Kd.S_R HO4.out)).1 (law_C0 (Kd.S_R HO4.out) (by repeat (first | exact Below.refl _ _ | apply below_alloc | apply pw_below_drewN | apply below_drew1))) (law_c0 (Kd.S_R HO4.out)) HQ.out).mono ?_
  rintro e w16 ⟨rfl, hd⟩
  have hb := hd.below
  have ST : Below w15.heap.size w15 w16 := bel_then (by repeat (first | exact Below.refl _ _ | apply below_alloc | apply pw_below_drewN | apply below_drew1)) hb
  have nZC := Aside0.mk (Nat.le_trans ZC.out ST.size)
  have nHB : Aside0 (Below w.heap.size w w16) := ⟨bel_then HB.out ST⟩
  have nHO2 := Aside0.mk (Kd.S_below HO2.out ST)
  have nHO4 := Aside0.mk (Kd.S_below HO4.out ST)
  have nHO6 := Aside0.mk (Kd.R_below HO6.out ST)
  have nHO7 := Aside0.mk (Kd.S_below HO7.out ST)
  clear HB ZC HO2 HO4 HO6 HO7 ST hb hd
  have HB := nHB
  clear nHB
  have ZC := nZC
  clear nZC
  have HO2 := nHO2
  clear nHO2
  have HO4 := nHO4
  clear nHO4
  have HO6 := nHO6
  clear nHO6
  have HO7 := nHO7
  clear nHO7
  go_wp2
  go_ret
  exact ⟨rfl, by repeat (first | exact HB.out | apply below_alloc | apply pw_below_drewN | apply below_drew1)⟩

end Go.Proofs.Ytmhhjmadpnkelaa.PFnExactVectorsOf
