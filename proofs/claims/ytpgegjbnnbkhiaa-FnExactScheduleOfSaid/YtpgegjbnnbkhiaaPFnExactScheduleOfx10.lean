-- written by xprint.py (a program of this session's, over the kit's print): printed functions, and some by hand
import Derived.Test.YtpgegjbnnbkhiaaPFnExactScheduleOfx0
import Derived.Test.YtpgegjbnnbkhiaaPFnExactScheduleOfx1
import Derived.Test.YtpgegjbnnbkhiaaPFnExactScheduleOfx2
import Derived.Test.YtpgegjbnnbkhiaaPFnExactScheduleOfx3
import Derived.Test.YtpgegjbnnbkhiaaPFnExactScheduleOfx5
import Derived.Test.YtpgegjbnnbkhiaaPFnExactScheduleOfx8
import Derived.Test.YtpgegjbnnbkhiaaPFnExactScheduleOfx9
namespace Go.Proofs.Ytpgegjbnnbkhiaa.PFnExactScheduleOf
open Go.RowKit Go.Proofs.YtpgegjbnnbkhiaaW.PrintWords Go.Proofs.YtpgegjbnnbkhiaaW.PrintLast Go.Proofs.YtpgegjbnnbkhiaaW.PrintMore
attribute [local go_sem] max2_int min2_int max_two min_two max_three min_three max_four min_four   -- for this text's walks alone
set_option linter.unusedVariables false
set_option linter.unusedSimpArgs false

/-! ### laws_FnExactScheduleOf: function 11, by hand -/
/-- Whole numbers may be written over, in blocks of S; nothing else changes. -/
def Sh (S : Nat → Prop) (w w' : World) : Prop :=
  w.heap.size ≤ w'.heap.size ∧ (∀ k, k < w.heap.size → ¬ S k → w'.heap[k]? = w.heap[k]?) ∧
  (∀ (p : Addr) (v : Value), w.cell? p = some v → ∃ v', w'.cell? p = some v' ∧ (v' = v ∨ ((∃ a, v = .int .i64 a) ∧ ∃ b, v' = .int .i64 b))) ∧
  (∀ p : Addr, p.block < w.heap.size → w'.frozen? p = w.frozen? p)
theorem Sh.refl (S : Nat → Prop) (w : World) : Sh S w w := ⟨Nat.le_refl _, fun _ _ _ => rfl, fun _ v h => ⟨v, h, .inl rfl⟩, fun _ _ => rfl⟩
theorem Sh.trans {S : Nat → Prop} {w1 w2 w3 : World} (h : Sh S w1 w2) (k : Sh S w2 w3) : Sh S w1 w3 := by
  obtain ⟨a1, a2, a3, a4⟩ := h
  obtain ⟨b1, b2, b3, b4⟩ := k
  refine ⟨Nat.le_trans a1 b1, fun i hi hn => (b2 i (Nat.lt_of_lt_of_le hi a1) hn).trans (a2 i hi hn), fun p v hp => ?_, fun p hp => (b4 p (Nat.lt_of_lt_of_le hp a1)).trans (a4 p hp)⟩
  obtain ⟨v', h1, h2⟩ := a3 p v hp
  obtain ⟨v'', h3, h4⟩ := b3 p v' h1
  refine ⟨v'', h3, ?_⟩
  rcases h2 with rfl | ⟨hx, y, rfl⟩
  · exact h4
  · rcases h4 with rfl | ⟨_, hz⟩
    · exact .inr ⟨hx, y, rfl⟩
    · exact .inr ⟨hx, hz⟩
theorem Sh.mono {S S' : Nat → Prop} {w w' : World} (h : Sh S w w') (hs : ∀ k, S k → S' k) : Sh S' w w' :=
  ⟨h.1, fun i hi hn => h.2.1 i hi (fun hk => hn (hs i hk)), h.2.2.1, h.2.2.2⟩
theorem Sh.kept {S : Nat → Prop} {w w' : World} (h : Sh S w w') : Kept w w' S := ⟨h.1, h.2.1⟩
theorem Sh.drew {S : Nat → Prop} {w w' : World} (h : Sh S w w') : Sh S w w'.drew := h
theorem Sh.drewN {S : Nat → Prop} {w w' : World} (h : Sh S w w') (n : Nat) : Sh S w (w'.drewN n) := h
theorem Sh.set {S : Nat → Prop} {w w' : World} (h : Sh S w w') {p : Addr} {a : Int} (hc : w'.cell? p = some (.int .i64 a)) (hS : S p.block) (b : Int) : Sh S w (w'.setCell p (.int .i64 b)) := by
  refine h.trans ⟨by simp, fun k _ hn => Below.heap_setCell w' p _ k (fun e => hn (e ▸ hS)), fun q v hq => ?_, fun q _ => by simp⟩
  by_cases e : p = q
  · subst e
    rw [hc] at hq
    exact ⟨_, World.cell?_setCell_same _ _ _ hc, .inr ⟨⟨a, (Option.some.inj hq).symm⟩, b, rfl⟩⟩
  · exact ⟨v, by rw [World.cell?_setCell_other _ _ _ _ e]; exact hq, .inl rfl⟩
theorem Sh.cell {S : Nat → Prop} {w w' : World} (h : Sh S w w') {p : Addr} {v : Value} (hp : w.cell? p = some v) (hv : ∀ a, v ≠ .int .i64 a) : w'.cell? p = some v := by
  obtain ⟨v', h1, rfl | ⟨⟨a, rfl⟩, _⟩⟩ := h.2.2.1 p v hp
  · exact h1
  · exact absurd rfl (hv a)
/-- A slice of n whole numbers that may be written, in blocks of S. -/
def Ints (S : Nat → Prop) (w : World) (A : Option Addr) (n : Nat) : Prop :=
  n ≤ 9223372036854775807 ∧ (0 < n → ∃ ad, A = some ad ∧ S ad.block ∧ ∀ i, i < n → (∃ z, w.cell? (ad.add i) = some (.int .i64 z)) ∧ w.frozen? (ad.add i) = false)
theorem sh_add_block (ad : Addr) (i : Nat) : (ad.add i).block = ad.block := by unfold Addr.add; split <;> rfl
theorem Sh.int {S : Nat → Prop} {w w' : World} (h : Sh S w w') {p : Addr} (hc : ∃ z, w.cell? p = some (.int .i64 z)) (hf : w.frozen? p = false) : (∃ z, w'.cell? p = some (.int .i64 z)) ∧ w'.frozen? p = false := by
  obtain ⟨z, hz⟩ := hc
  refine ⟨?_, (h.2.2.2 p (World.block_lt_of_cell? w _ hz)).trans hf⟩
  obtain ⟨v', h1, rfl | ⟨_, b, rfl⟩⟩ := h.2.2.1 _ _ hz
  · exact ⟨z, h1⟩
  · exact ⟨b, h1⟩
theorem Ints.sh {S : Nat → Prop} {w w' : World} {A : Option Addr} {n : Nat} (h : Ints S w A n) (k : Sh S w w') : Ints S w' A n := by
  refine ⟨h.1, fun hp => ?_⟩
  obtain ⟨ad, rfl, hS, hc⟩ := h.2 hp
  exact ⟨ad, rfl, hS, fun i hi => k.int (hc i hi).1 (hc i hi).2⟩
theorem Ints.of_R {S ok : Nat → Prop} {w : World} {base : Nat} {v : Value} {xs : List Int} (h : Kd.R (Kd.int .i64) 3 w base ok v xs) (hs : ∀ k, ok k → S k) : ∃ A c, v = .slice A xs.length c ∧ Ints S w A xs.length := by
  obtain ⟨A, c, rfl, hl, hC⟩ := Kd.R_reads h
  refine ⟨A, c, rfl, hC.2.1, fun hp => ?_⟩
  obtain ⟨g, cap, eq, hb, hlt, _, hG⟩ := Kd.R_form h hp
  injection eq with ea _ ec
  subst ea
  subst ec
  refine ⟨_, rfl, hs _ (h.1 g rfl), fun i hi => ?_⟩
  obtain ⟨h1, h2⟩ := Kd.R_celln 0 h (i : Int) (by omega) (by omega)
  rw [Int.toNat_natCast] at h1 h2
  rw [add_plain]
  exact ⟨⟨_, h1⟩, h2⟩
theorem Sh.of_below {S : Nat → Prop} {w w' : World} (h : Below w.heap.size w w') : Sh S w w' := by
  refine ⟨h.size, fun k hk _ => h.block k hk, fun p v hp => ⟨v, pw_cell_below h hp, .inl rfl⟩, fun p hp => ?_⟩
  unfold World.frozen?
  rw [h.block _ hp]
theorem Sh.alloc {S : Nat → Prop} {w w' : World} (h : Sh S w w') (o : Obj) : Sh S w (w'.alloc o) := h.trans (Sh.of_below (below_alloc (Below.refl _ _) o))
theorem bel_then {w W w' : World} (h : Below w.heap.size w W) (hb : Below W.heap.size W w') : Below w.heap.size w w' := below_then h h.size hb
theorem law_madeR {α : Type} {d : Kd α} {e n : Nat} {ok : Nat → Prop} {wl W w' : World} {v : Value} {xs : List α} (h : Kd.R d e w' W.heap.size ok v xs) (hb : Below W.heap.size W w') (hn : n ≤ wl.heap.size) (hW : Below wl.heap.size wl W) :
    ∃ (lo hi : Nat) (A : Option Addr) (c : Nat), (n ≤ lo ∧ lo ≤ hi) ∧ hi ≤ w'.heap.size ∧ v = .slice A xs.length c ∧ Kd.R d e w' lo (fun k => lo ≤ k ∧ k < hi) v xs := by
  obtain ⟨A, c, hv⟩ := Kd.R_slice h
  have := hW.size
  have := hb.size
  exact ⟨W.heap.size, w'.heap.size, A, c, by omega, Nat.le_refl _, hv, Kd.R_mono (Kd.R_bound h) (fun k hk => ⟨hk.2.1, hk.2.2.1⟩)⟩
theorem law_madeS {α : Type} {d : Kd α} {e n : Nat} {ok : Nat → Prop} {wl W w' : World} {v : Value} {xs : List α} (h : Kd.S d e w' W.heap.size ok v xs) (hb : Below W.heap.size W w') (hn : n ≤ wl.heap.size) (hW : Below wl.heap.size wl W) :
    ∃ (lo hi : Nat) (A : Option Addr) (c : Nat), (n ≤ lo ∧ lo ≤ hi) ∧ hi ≤ w'.heap.size ∧ v = .slice A xs.length c ∧ Kd.S d e w' lo (fun k => lo ≤ k ∧ k < hi) v xs := by
  obtain ⟨A, c, hv⟩ := Kd.R_slice (Kd.S_R h)
  have := hW.size
  have := hb.size
  exact ⟨W.heap.size, w'.heap.size, A, c, by omega, Nat.le_refl _, hv, Kd.S_mono (Kd.S_bound h) (fun k hk => ⟨hk.2.1, hk.2.2.1⟩)⟩
theorem law_kept {wl W w' : World} {S : Nat → Prop} (h : Below wl.heap.size wl W) (hk : Kept W w' S) : Kept wl w' S := (Kept.of_below h S).then_ hk (fun _ h => .inl h)
/-- A marked row of plain values lies where it lay. -/
theorem law_marked {α : Type} {d : Kd α} {W w' : World} {base base' e : Nat} {ok P : Nat → Prop} {v : Value} {xs ys : List α} (hE : d.E = []) (h0 : Kd.R d e W base P v xs) (h : Kd.R d e w' base' ok v ys) : Kd.R d e w' base' P v ys :=
  Kd.R_mono (Kd.R_tight hE h) (fun k hk => h0.1 k hk.symm)
theorem law_C {α : Type} {d : Kd α} {e base n c : Nat} {ok : Nat → Prop} {w W : World} {A : Option Addr} {xs : List α} (h : Kd.R d e w base ok (.slice A n c) xs) (hb : Below w.heap.size w W) : Kd.C d W A xs.length xs := (Kd.R_reads' (Kd.R_below h hb)).2.2
theorem law_c {α : Type} {d : Kd α} {e base c : Nat} {ok : Nat → Prop} {w : World} {A : Option Addr} {xs : List α} (h : Kd.R d e w base ok (.slice A xs.length c) xs) : xs.length ≤ c := (Kd.R_reads' h).2.1
theorem law_C0 {α : Type} {d : Kd α} {e base n c : Nat} {ok : Nat → Prop} {w W : World} {A : Option Addr} {xs : List α} (h : Kd.R d e w base ok (.slice A n c) xs) (hb : Below w.heap.size w W) : Kd.C d W A xs.length xs := (Kd.R_reads' (Kd.R_below h hb)).2.2
theorem law_c0 {α : Type} {d : Kd α} {e base n c : Nat} {ok : Nat → Prop} {w : World} {A : Option Addr} {xs : List α} (h : Kd.R d e w base ok (.slice A n c) xs) : xs.length ≤ c := (Kd.R_reads' h).1 ▸ (Kd.R_reads' h).2.1
set_option maxHeartbeats 8000000 in
set_option maxRecDepth 100000 in
theorem shMarkIntS.calls (S : Nat → Prop) (A : Option Addr) (c n : Nat) (a : Int) (w0 w : World) (hB : Below w0.heap.size w0 w) (hS : ∀ k, S k → w0.heap.size ≤ k) (hi : Ints S w A n) (ha : 0 ≤ a) (han : a + n ≤ 9223372036854775807) :
    Calls Try.prog 21 #[.slice A n c, .int .i64 a] w fun e w' => e = .returned (.int .i64 (a + n)) ∧ Below w0.heap.size w0 w' ∧ Sh S w w' := by
  have HI := Aside0.mk hi
  have HS := Aside0.mk hS
  have HB := Aside0.mk hB
  have HA := Aside0.mk ha
  have HAN := Aside0.mk han
  have HSH := Aside0.mk (Sh.refl S w)
  clear hi hS hB ha han
  go_enter Try.func21, Try.ntmps21
  go_wp2
  go_loopg [1, 5] n (fun kq v1 v5 w' => ∃ j : Nat, v1 = .int .i64 (a + (j : Int)) ∧ v5 = .int .i64 (j : Int) ∧ Aside0 (kq + j = n) ∧ Aside0 (Below w0.heap.size w0 w') ∧ Aside0 (Sh S w w'))
  case atStart => exact ⟨0, by simp, by simp, ⟨by omega⟩, ⟨by repeat (first | exact HB.out | apply below_alloc | apply pw_below_drewN | apply below_drew1)⟩, ⟨by first | exact HSH.out | exact Sh.drewN HSH.out _⟩⟩
  case round =>
    clear HB HSH
    obtain ⟨j, rfl, rfl, HK, HB, HSH⟩ := hrel
    by_cases hlt : j < n
    · obtain ⟨ad, rfl, hSad, hcell⟩ := (HI.out.sh HSH.out).2 (by omega)
      obtain ⟨⟨z, hz⟩, hf⟩ := hcell j hlt
      have hd : decide (j < n) = true := decide_eq_true hlt
      have hd0 : decide (0 ≤ (j : Int)) = true := decide_eq_true (by omega)
      have HD := Aside0.mk hlt
      clear hcell
      cases gk with
      | zero => exact absurd HK.out (by have := HD.out; omega)
      | succ k1 =>
        go_wp2
        go_roundg k1
        case measure => omega
        case rel => 
          exact ⟨j + 1, by have := HAN.out; have := HA.out; have := HD.out; congr 1; unfold wrap64; omega, by have := HI.out.1; have := HD.out; congr 1; unfold wrap64; omega, ⟨by have := HK.out; omega⟩, ⟨by refine HB.out.setCell ?_ _; rw [sh_add_block]; exact HS.out _ hSad⟩, ⟨by refine Sh.set HSH.out hz ?_ _; rw [sh_add_block]; exact hSad⟩⟩
    · have hd : decide (j < n) = false := decide_eq_false hlt
      have HD := Aside0.mk hlt
      clear hlt
      go_wp2
      go_ret
      exact ⟨by have := HK.out; have := HD.out; rw [show j = n by omega]; rfl, by repeat (first | exact HB.out | apply below_alloc | apply pw_below_drewN | apply below_drew1), by first | exact HSH.out | exact Sh.drewN HSH.out _⟩
def tot53 (l : List S53) : Nat := (l.map fun s => 1 + s.f1.length).sum
def At53 (S : Nat → Prop) (w : World) (A : Option Addr) (l : List S53) : Prop :=
  l.length ≤ 9223372036854775807 ∧ (0 < l.length → ∃ ad, A = some ad ∧ S ad.block ∧ ∀ j, j < l.length → ∃ A1 c1, (∃ z, w.cell? (ad.add (j * 2)) = some (.int .i64 z)) ∧ w.frozen? (ad.add (j * 2)) = false ∧ w.cell? ⟨(ad.add (j * 2)).block, (ad.add (j * 2)).off + 1, none⟩ = some (.slice A1 (rd_T53 l j).f1.length c1) ∧ Ints S w A1 (rd_T53 l j).f1.length)
theorem At53.sh {S : Nat → Prop} {w w' : World} {A : Option Addr} {l : List S53} (h : At53 S w A l) (k : Sh S w w') : At53 S w' A l := by
  refine ⟨h.1, fun hp => ?_⟩
  obtain ⟨ad, rfl, hS, hc⟩ := h.2 hp
  refine ⟨ad, rfl, hS, fun j hj => ?_⟩
  obtain ⟨A1, c1, h0, hf, h1, h3⟩ := hc j hj
  have h5 := k.int h0 hf
  exact ⟨A1, c1, h5.1, h5.2, k.cell h1 (fun _ => by simp), h3.sh k⟩
theorem At53.of_S {S ok : Nat → Prop} {w : World} {base : Nat} {v : Value} {l : List S53} (h : Kd.S k53 53 w base ok v l) (hs : ∀ k, ok k → S k) : ∃ A c, v = .slice A l.length c ∧ At53 S w A l := by
  have hR := Kd.S_R h
  obtain ⟨A, c, rfl, hl, hC⟩ := Kd.R_reads hR
  refine ⟨A, c, rfl, hC.2.1, fun hp => ?_⟩
  obtain ⟨g, cap, eq, hb, hlt, _, hG⟩ := Kd.R_form hR hp
  injection eq with ea _ ec
  subst ea
  subst ec
  refine ⟨_, rfl, hs _ (hR.1 g rfl), fun j hj => ?_⟩
  obtain ⟨cs, hcl, hM, hcc, hf⟩ := Kd.R_elem hR z53 (j : Int) (by omega) (by omega)
  obtain ⟨v1, rfl, r1⟩ := k53_openM hM
  obtain ⟨A1, c1, rfl, i1⟩ := Ints.of_R r1 (fun k hk => hs k hk.1)
  have h0 := hcc 0 _ rfl
  have h1 := hcc 1 _ rfl
  have hf0 := hf 0
  rw [Int.toNat_natCast] at h0 h1 hf0
  refine ⟨A1, c1, ⟨(l.getD j z53).f0, ?_⟩, ?_, ?_, i1⟩
  · rw [add_plain]; exact h0
  · rw [add_plain]; exact hf0
  · rw [add_plain]; exact h1
theorem tot53_snoc (l : List S53) (j : Nat) (h : j < l.length) : tot53 (l.take (j + 1)) = tot53 (l.take j) + (1 + (rd_T53 l j).f1.length) := by
  unfold tot53
  rw [List.take_succ_eq_append_getElem h, List.map_append, List.sum_append]
  simp [rd_T53, List.getD_eq_getElem?_getD, h]
theorem tot53_le (l : List S53) (j : Nat) : tot53 (l.take j) ≤ tot53 l := by
  conv => rhs; rw [← List.take_append_drop j l]
  unfold tot53
  rw [List.map_append, List.sum_append]
  omega
set_option maxHeartbeats 8000000 in
set_option maxRecDepth 100000 in
theorem shMarkTaskS.calls (S : Nat → Prop) (A : Option Addr) (c : Nat) (l : List S53) (a : Int) (w0 w : World) (hB : Below w0.heap.size w0 w) (hS : ∀ k, S k → w0.heap.size ≤ k) (hi : At53 S w A l) (ha : 0 ≤ a) (han : a + tot53 l ≤ 9223372036854775807) :
    Calls Try.prog 20 #[.slice A l.length c, .int .i64 a] w fun e w' => e = .returned (.int .i64 (a + tot53 l)) ∧ Below w0.heap.size w0 w' ∧ Sh S w w' := by
  have HI := Aside0.mk hi
  have HS := Aside0.mk hS
  have HB := Aside0.mk hB
  have HA := Aside0.mk ha
  have HAN := Aside0.mk han
  have HSH := Aside0.mk (Sh.refl S w)
  clear hi hS hB ha han
  have hu53 := Try.underlying53
  go_enter Try.func20, Try.ntmps20
  go_wp2
  go_loopg [1, 5] l.length (fun kq v1 v5 w' => ∃ j : Nat, v1 = .int .i64 (a + (tot53 (l.take j) : Nat)) ∧ v5 = .int .i64 (j : Int) ∧ Aside0 (kq + j = l.length) ∧ Aside0 (Below w0.heap.size w0 w') ∧ Aside0 (Sh S w w'))
  case atStart => exact ⟨0, by simp [tot53], by simp, ⟨by omega⟩, ⟨by repeat (first | exact HB.out | apply below_alloc | apply pw_below_drewN | apply below_drew1)⟩, ⟨by first | exact HSH.out | exact Sh.drewN HSH.out _⟩⟩
  case round =>
    clear HB HSH
    obtain ⟨j, rfl, rfl, HK, HB, HSH⟩ := hrel
    by_cases hlt : j < l.length
    · obtain ⟨ad, rfl, hSad, hcell⟩ := (HI.out.sh HSH.out).2 (by omega)
      obtain ⟨A1, c1, ⟨z, hz⟩, hf, hx1, hi1⟩ := hcell j hlt
      have hsb : S (ad.add (j * 2)).block := by rw [sh_add_block]; exact hSad
      have HSH1 := Aside0.mk (Sh.set (Sh.refl S wr) hz hsb (a + (tot53 (l.take j) : Nat)))
      have hx1' := HSH1.out.cell hx1 (fun _ => by simp)
      have HB1 := Aside0.mk (HB.out.setCell (p := ad.add (j * 2)) (HS.out _ hsb) (.int .i64 (a + (tot53 (l.take j) : Nat))))
      have HI1 := Aside0.mk (hi1.sh HSH1.out)
      have hd : decide (j < l.length) = true := decide_eq_true hlt
      have HD := Aside0.mk hlt
      have HT := Aside0.mk (tot53_snoc l j hlt)
      have HL := Aside0.mk (tot53_le l (j + 1))
      have hw : wrap64 (a + (tot53 (l.take j) : Nat) + 1) = a + (tot53 (l.take j) : Nat) + 1 := by have := HA.out; have := HAN.out; have := HT.out; have := HL.out; unfold wrap64; omega
      clear hcell hi1 hx1
      cases gk with
      | zero => exact absurd HK.out (by have := HD.out; omega)
      | succ k1 =>
        go_wp2_with fail
        (try rw [hw])
        refine (shMarkIntS.calls S A1 c1 _ _ w0 _ ?hb HS.out ?hi (by have := HA.out; omega) (by have := HA.out; have := HAN.out; have := HT.out; have := HL.out; omega)).mono ?_
        case hb => repeat (first | exact HB1.out | apply below_alloc | apply pw_below_drewN | apply below_drew1)
        case hi => exact HI1.out
        rintro e w1 ⟨rfl, hb1, hs1⟩
        have HB2 := Aside0.mk hb1
        have HS2 := Aside0.mk ((HSH.out.trans HSH1.out).trans hs1)
        clear hb1 hs1 hx1' hz hf
        go_wp2
        go_roundg k1
        case measure => omega
        case rel =>
          exact ⟨j + 1, by have := HT.out; congr 1; omega, by have := HI.out.1; have := HD.out; congr 1; unfold wrap64; omega, ⟨by have := HK.out; omega⟩, ⟨by repeat (first | exact HB2.out | apply below_alloc | apply pw_below_drewN | apply below_drew1)⟩, ⟨by first | exact HS2.out | exact Sh.drewN HS2.out _⟩⟩
    · have hd : decide (j < l.length) = false := decide_eq_false hlt
      have HD := Aside0.mk hlt
      clear hlt
      go_wp2
      go_ret
      exact ⟨by have := HK.out; have := HD.out; rw [show j = l.length by omega, List.take_length]; rfl, by repeat (first | exact HB.out | apply below_alloc | apply pw_below_drewN | apply below_drew1), by first | exact HSH.out | exact Sh.drewN HSH.out _⟩
instance : DecidableEq S66 := fun a b => decidable_of_iff (a.f0 = b.f0 ∧ a.f1 = b.f1 ∧ a.f2 = b.f2) ⟨fun h => by cases a; cases b; simp_all, fun h => by subst h; exact ⟨rfl, rfl, rfl⟩⟩
theorem lawHeldSlotS.calls (k : Nat) (A : Option Addr) (c n : Nat) (l : List S66) (a r : Int) (w : World) (hn : n = l.length) (hr : Kd.C k66 w A l.length l) (hc : l.length ≤ c) (h : laws_heldSlotS.f k l a = some r) :
    Calls Try.prog 41 #[.slice A n c, .int .i64 a] w fun e w' => e = .returned (.int .i64 r) ∧ Drawn0 w w' := by
  subst hn
  exact laws_heldSlotS.calls k A c l a r w hr hc h
def laws_FnExactScheduleOf.f (k : Nat) (l0 : List S52) (a1 : Int) : Option Bool :=
  (laws_szTaskS.f k l0 1048576).bind fun t => if t < 0 then some true else
  (laws_toTaskS.f k l0).bind fun m0 =>
  (spec_ScheduleOf.f k m0 a1).bind fun s =>
  (impl_ScheduleOf.f k m0 a1).bind fun g =>
  (laws_eqSlotS.f k s.1 s.1).bind fun b0 =>
  (laws_eqTaskS.f k m0 m0).bind fun b1 =>
  (laws_markSlotS.f k s.1 1).bind fun mk => (laws_heldSlotS.f k mk.2 1).bind fun q =>
  if g = s ∧ b0 = true ∧ b1 = true ∧ 1 + (tot53 m0 : Int) ≤ 9223372036854775807 ∧ q = mk.1 ∧ ¬ q < 0 then some true else none
set_option maxHeartbeats 8000000 in
set_option maxRecDepth 100000 in
theorem laws_FnExactScheduleOf.calls (k : Nat) (A0 : Option Addr) (c0 : Nat) (l0 : List S52) (a1 : Int) (r : Bool) (w : World) (hr0 : Kd.C k52 w A0 l0.length l0) (hc0 : l0.length ≤ c0) (h : laws_FnExactScheduleOf.f k l0 a1 = some r) :
    Calls Try.prog 11 #[.slice A0 l0.length c0, .int .i64 a1] w fun e w' => e = .returned (.bool r) ∧ Below w.heap.size w w' := by
  have HR0 := Aside0.mk hr0
  have HC0 := Aside0.mk hc0
  have HB := Aside0.mk (Below.refl w.heap.size w)
  clear hr0 hc0
  unfold laws_FnExactScheduleOf.f at h
  obtain ⟨t, T, h⟩ := Option.bind_eq_some_iff.1 h
  have HT := Aside0.mk T
  clear T
  by_cases ht : t < 0
  · rw [if_pos ht] at h
    obtain rfl := Option.some.inj h
    have hdt : decide (t < 0) = true := decide_eq_true ht
    clear ht
    go_enter Try.func11, Try.ntmps11
    go_wp2_with fail
    refine (laws_szTaskS.calls k _ _ l0 1048576 t _ (Kd.C_below HR0.out (by repeat (first | exact HB.out | apply below_alloc | apply pw_below_drewN | apply below_drew1))) HC0.out HT.out).mono ?_
    rintro e w1 ⟨rfl, hb⟩
    have HB1 : Aside0 (Below w.heap.size w w1) := ⟨bel_then (by repeat (first | exact HB.out | apply below_alloc | apply pw_below_drewN | apply below_drew1)) hb⟩
    clear hb
    go_wp2
    go_ret
    exact ⟨rfl, by repeat (first | exact HB1.out | apply below_alloc | apply pw_below_drewN | apply below_drew1)⟩
  rw [if_neg ht] at h
  have hdt : decide (t < 0) = false := decide_eq_false ht
  clear ht
  obtain ⟨m0, hm0, h⟩ := Option.bind_eq_some_iff.1 h
  obtain ⟨⟨s0, s1, s2⟩, hS, h⟩ := Option.bind_eq_some_iff.1 h
  obtain ⟨g, hG, h⟩ := Option.bind_eq_some_iff.1 h
  obtain ⟨b0, hE0, h⟩ := Option.bind_eq_some_iff.1 h
  obtain ⟨b1, hE1, h⟩ := Option.bind_eq_some_iff.1 h
  obtain ⟨⟨mk1, mk2⟩, hMK, h⟩ := Option.bind_eq_some_iff.1 h
  obtain ⟨q, hQ, h⟩ := Option.bind_eq_some_iff.1 h
  try simp only at hm0 hS hG hE0 hE1 hMK hQ h
  split at h
  case isFalse => cases h
  rename_i hh
  obtain rfl := Option.some.inj h
  obtain ⟨rfl, rfl, rfl, hsz, rfl, hq⟩ := hh
  have HM0 := Aside0.mk hm0
  have HSP := Aside0.mk hS
  have HG := Aside0.mk hG
  have HE0 := Aside0.mk hE0
  have HE1 := Aside0.mk hE1
  have HMK := Aside0.mk hMK
  have HQ := Aside0.mk hQ
  have HSZ := Aside0.mk hsz
  have hdq : decide (q < 0) = false := decide_eq_false hq
  clear hm0 hS hG hE0 hE1 hMK hQ hsz hq h
  go_enter Try.func11, Try.ntmps11
  go_wp2_with fail
  refine (laws_szTaskS.calls k _ _ l0 1048576 t _ (Kd.C_below HR0.out (by repeat (first | exact HB.out | apply below_alloc | apply pw_below_drewN | apply below_drew1))) HC0.out HT.out).mono ?_
  rintro e w1 ⟨rfl, hb⟩
  have nHB : Aside0 (Below w.heap.size w w1) := ⟨bel_then (by repeat (first | exact HB.out | apply below_alloc | apply pw_below_drewN | apply below_drew1)) hb⟩
  have ZC : Aside0 (w.heap.size + 0 ≤ w1.heap.size) := ⟨by have := hb.size; simpa using this⟩
  have ZW : Aside0 (w.heap.size ≤ w.heap.size + 0) := ⟨Nat.le_add_right _ _⟩
  clear HB hb
  have HB := nHB
  clear nHB
  go_wp2_with fail
  refine (laws_toTaskS.calls k _ _ l0 m0 _ (Kd.C_below HR0.out (bel_then HB.out (by repeat (first | exact Below.refl _ _ | apply below_alloc | apply pw_below_drewN | apply below_drew1)))) HC0.out HM0.out).mono ?_
  rintro e w2 ⟨v, rfl, hr, hb⟩
  have ST : Below w1.heap.size w1 w2 := bel_then (by repeat (first | exact Below.refl _ _ | apply below_alloc | apply pw_below_drewN | apply below_drew1)) hb
  obtain ⟨lo1, hi1, A1_, c1_, hz1, hc1, rfl, ho1⟩ := law_madeS (n := (w.heap.size + 0)) hr hb ZC.out (by repeat (first | exact Below.refl _ _ | apply below_alloc | apply pw_below_drewN | apply below_drew1))
  have ZL1 := Aside0.mk hz1
  have HO1 := Aside0.mk ho1
  clear ho1 hz1
  have nZC := Aside0.mk hc1
  clear hc1
  have nHB : Aside0 (Below w.heap.size w w2) := ⟨bel_then HB.out ST⟩
  clear HB ZC ST hb hr
  have HB := nHB
  clear nHB
  have ZC := nZC
  clear nZC
  go_wp2_with fail
  refine (spec_ScheduleOf.calls k _ _ m0 a1 s0 s1 s2 _ (law_C (Kd.S_R HO1.out) (by repeat (first | exact Below.refl _ _ | apply below_alloc | apply pw_below_drewN | apply below_drew1))) (law_c (Kd.S_R HO1.out)) HSP.out).mono ?_
  rintro e w3 ⟨v, rfl, hr, hb⟩
  have ST : Below w2.heap.size w2 w3 := bel_then (by repeat (first | exact Below.refl _ _ | apply below_alloc | apply pw_below_drewN | apply below_drew1)) hb
  obtain ⟨lo2, hi2, A2_, c2_, hz2, hc2, rfl, ho2⟩ := law_madeR (n := hi1) hr hb ZC.out (by repeat (first | exact Below.refl _ _ | apply below_alloc | apply pw_below_drewN | apply below_drew1))
  have ZL2 := Aside0.mk hz2
  have HO2 := Aside0.mk ho2
  clear ho2 hz2
  have nZC := Aside0.mk hc2
  clear hc2
  have nHB : Aside0 (Below w.heap.size w w3) := ⟨bel_then HB.out ST⟩
  have nHO1 := Aside0.mk (Kd.S_below HO1.out ST)
  clear HB ZC HO1 ST hb hr
  have HB := nHB
  clear nHB
  have ZC := nZC
  clear nZC
  have HO1 := nHO1
  clear nHO1
  clear HO1
  go_wp2_with fail
  refine (laws_toTaskS.calls k _ _ l0 m0 _ (Kd.C_below HR0.out (bel_then HB.out (by repeat (first | exact Below.refl _ _ | apply below_alloc | apply pw_below_drewN | apply below_drew1)))) HC0.out HM0.out).mono ?_
  rintro e w4 ⟨v, rfl, hr, hb⟩
  have ST : Below w3.heap.size w3 w4 := bel_then (by repeat (first | exact Below.refl _ _ | apply below_alloc | apply pw_below_drewN | apply below_drew1)) hb
  obtain ⟨lo3, hi3, A3_, c3_, hz3, hc3, rfl, ho3⟩ := law_madeS (n := hi2) hr hb ZC.out (by repeat (first | exact Below.refl _ _ | apply below_alloc | apply pw_below_drewN | apply below_drew1))
  have ZL3 := Aside0.mk hz3
  have HO3 := Aside0.mk ho3
  clear ho3 hz3
  have nZC := Aside0.mk hc3
  clear hc3
  have nHB : Aside0 (Below w.heap.size w w4) := ⟨bel_then HB.out ST⟩
  have nHO2 := Aside0.mk (Kd.R_below HO2.out ST)
  clear HB ZC HO2 ST hb hr
  have HB := nHB
  clear nHB
  have ZC := nZC
  clear nZC
  have HO2 := nHO2
  clear nHO2
  go_wp2_with fail
  refine (impl_ScheduleOf.calls k _ _ m0 a1 s0 s1 s2 _ (law_C (Kd.S_R HO3.out) (by repeat (first | exact Below.refl _ _ | apply below_alloc | apply pw_below_drewN | apply below_drew1))) (law_c (Kd.S_R HO3.out)) HG.out).mono ?_
  rintro e w5 ⟨v, rfl, hr, hb⟩
  have ST : Below w4.heap.size w4 w5 := bel_then (by repeat (first | exact Below.refl _ _ | apply below_alloc | apply pw_below_drewN | apply below_drew1)) hb
  obtain ⟨lo4, hi4, A4_, c4_, hz4, hc4, rfl, ho4⟩ := law_madeR (n := hi3) hr hb ZC.out (by repeat (first | exact Below.refl _ _ | apply below_alloc | apply pw_below_drewN | apply below_drew1))
  have ZL4 := Aside0.mk hz4
  have HO4 := Aside0.mk ho4
  clear ho4 hz4
  have nZC := Aside0.mk hc4
  clear hc4
  have nHB : Aside0 (Below w.heap.size w w5) := ⟨bel_then HB.out ST⟩
  have nHO2 := Aside0.mk (Kd.R_below HO2.out ST)
  have nHO3 := Aside0.mk (Kd.S_below HO3.out ST)
  clear HB ZC HO2 HO3 ST hb hr
  have HB := nHB
  clear nHB
  have ZC := nZC
  clear nZC
  have HO2 := nHO2
  clear nHO2
  have HO3 := nHO3
  clear nHO3
  go_wp2_with fail
  refine (laws_eqSlotS.calls k _ _ s0 _ _ s0 true _ (law_C HO4.out (by repeat (first | exact Below.refl _ _ | apply below_alloc | apply pw_below_drewN | apply below_drew1))) (law_c HO4.out) (law_C HO2.out (by repeat (first | exact Below.refl _ _ | apply below_alloc | apply pw_below_drewN | apply below_drew1))) (law_c HO2.out) HE0.out).mono ?_
  rintro e w6 ⟨rfl, hb⟩
  have ST : Below w5.heap.size w5 w6 := bel_then (by repeat (first | exact Below.refl _ _ | apply below_alloc | apply pw_below_drewN | apply below_drew1)) hb
  have nZC := Aside0.mk (Nat.le_trans ZC.out ST.size)
  have nHB : Aside0 (Below w.heap.size w w6) := ⟨bel_then HB.out ST⟩
  have nHO2 := Aside0.mk (Kd.R_below HO2.out ST)
  have nHO3 := Aside0.mk (Kd.S_below HO3.out ST)
  have nHO4 := Aside0.mk (Kd.R_below HO4.out ST)
  clear HB ZC HO2 HO3 HO4 ST hb
  have HB := nHB
  clear nHB
  have ZC := nZC
  clear nZC
  have HO2 := nHO2
  clear nHO2
  have HO3 := nHO3
  clear nHO3
  have HO4 := nHO4
  clear nHO4
  go_wp2_with fail
  refine (laws_toTaskS.calls k _ _ l0 m0 _ (Kd.C_below HR0.out (bel_then HB.out (by repeat (first | exact Below.refl _ _ | apply below_alloc | apply pw_below_drewN | apply below_drew1)))) HC0.out HM0.out).mono ?_
  rintro e w7 ⟨v, rfl, hr, hb⟩
  have ST : Below w6.heap.size w6 w7 := bel_then (by repeat (first | exact Below.refl _ _ | apply below_alloc | apply pw_below_drewN | apply below_drew1)) hb
  obtain ⟨lo5, hi5, A5_, c5_, hz5, hc5, rfl, ho5⟩ := law_madeS (n := hi4) hr hb ZC.out (by repeat (first | exact Below.refl _ _ | apply below_alloc | apply pw_below_drewN | apply below_drew1))
  have ZL5 := Aside0.mk hz5
  have HO5 := Aside0.mk ho5
  clear ho5 hz5
  have nZC := Aside0.mk hc5
  clear hc5
  have nHB : Aside0 (Below w.heap.size w w7) := ⟨bel_then HB.out ST⟩
  have nHO2 := Aside0.mk (Kd.R_below HO2.out ST)
  have nHO3 := Aside0.mk (Kd.S_below HO3.out ST)
  have nHO4 := Aside0.mk (Kd.R_below HO4.out ST)
  clear HB ZC HO2 HO3 HO4 ST hb hr
  have HB := nHB
  clear nHB
  have ZC := nZC
  clear nZC
  have HO2 := nHO2
  clear nHO2
  have HO3 := nHO3
  clear nHO3
  have HO4 := nHO4
  clear nHO4
  go_wp2_with fail
  refine (laws_eqTaskS.calls k _ _ m0 _ _ m0 true _ (law_C (Kd.S_R HO3.out) (by repeat (first | exact Below.refl _ _ | apply below_alloc | apply pw_below_drewN | apply below_drew1))) (law_c (Kd.S_R HO3.out)) (law_C (Kd.S_R HO5.out) (by repeat (first | exact Below.refl _ _ | apply below_alloc | apply pw_below_drewN | apply below_drew1))) (law_c (Kd.S_R HO5.out)) HE1.out).mono ?_
  rintro e w8 ⟨rfl, hb⟩
  have ST : Below w7.heap.size w7 w8 := bel_then (by repeat (first | exact Below.refl _ _ | apply below_alloc | apply pw_below_drewN | apply below_drew1)) hb
  have nZC := Aside0.mk (Nat.le_trans ZC.out ST.size)
  have nHB : Aside0 (Below w.heap.size w w8) := ⟨bel_then HB.out ST⟩
  have nHO2 := Aside0.mk (Kd.R_below HO2.out ST)
  have nHO3 := Aside0.mk (Kd.S_below HO3.out ST)
  have nHO4 := Aside0.mk (Kd.R_below HO4.out ST)
  have nHO5 := Aside0.mk (Kd.S_below HO5.out ST)
  clear HB ZC HO2 HO3 HO4 HO5 ST hb
  have HB := nHB
  clear nHB
  have ZC := nZC
  clear nZC
  have HO2 := nHO2
  clear nHO2
  have HO3 := nHO3
  clear nHO3
  have HO4 := nHO4
  clear nHO4
  have HO5 := nHO5
  clear nHO5
  clear HO5
  obtain ⟨Axm0, cxm0, exm0, hxm0⟩ := At53.of_S (S := (fun k => lo3 ≤ k ∧ k < hi3)) HO3.out (fun _ h => h)
  cases exm0
  have HXm0 := Aside0.mk hxm0
  clear hxm0
  go_wp2_with fail
  refine (shMarkTaskS.calls (fun k => lo3 ≤ k ∧ k < hi3) _ _ m0 _ w _ (bel_then HB.out (by repeat (first | exact Below.refl _ _ | apply below_alloc | apply pw_below_drewN | apply below_drew1))) (fun k h => by have := ZL1.out; have := ZL2.out; have := ZL3.out; have := ZL4.out; have := ZL5.out; have := ZC.out; have := ZW.out; omega) (HXm0.out.sh (Sh.of_below (by repeat (first | exact Below.refl _ _ | apply below_alloc | apply pw_below_drewN | apply below_drew1)))) (by omega) (by have := HSZ.out; omega)).mono ?_
  rintro e w9 ⟨rfl, hb, hs⟩
  have KP : Kept w8 w9 (fun k => lo3 ≤ k ∧ k < hi3) := law_kept (by repeat (first | exact Below.refl _ _ | apply below_alloc | apply pw_below_drewN | apply below_drew1)) hs.kept
  have nZC := Aside0.mk (Nat.le_trans ZC.out KP.1)
  have nHB : Aside0 (Below w.heap.size w w9) := ⟨hb⟩
  have nHO2 := Aside0.mk (Kd.R_kept HO2.out KP (fun k h1 h2 => by have := ZL1.out; have := ZL2.out; have := ZL3.out; have := ZL4.out; have := ZL5.out; have := ZC.out; have := ZW.out; omega))
  have nHO4 := Aside0.mk (Kd.R_kept HO4.out KP (fun k h1 h2 => by have := ZL1.out; have := ZL2.out; have := ZL3.out; have := ZL4.out; have := ZL5.out; have := ZC.out; have := ZW.out; omega))
  clear HB ZC HO2 HO3 HO4 KP hb hs
  have HB := nHB
  clear nHB
  have ZC := nZC
  clear nZC
  have HO2 := nHO2
  clear nHO2
  have HO4 := nHO4
  clear nHO4
  have hk0 : decide ((1 : Int) + (tot53 m0 : Nat) < 0) = false := decide_eq_false (by omega)
  go_wp2_with fail
  refine (laws_eqSlotS.calls k _ _ s0 _ _ s0 true _ (law_C HO4.out (by repeat (first | exact Below.refl _ _ | apply below_alloc | apply pw_below_drewN | apply below_drew1))) (law_c HO4.out) (law_C HO2.out (by repeat (first | exact Below.refl _ _ | apply below_alloc | apply pw_below_drewN | apply below_drew1))) (law_c HO2.out) HE0.out).mono ?_
  rintro e w10 ⟨rfl, hb⟩
  have ST : Below w9.heap.size w9 w10 := bel_then (by repeat (first | exact Below.refl _ _ | apply below_alloc | apply pw_below_drewN | apply below_drew1)) hb
  have nZC := Aside0.mk (Nat.le_trans ZC.out ST.size)
  have nHB : Aside0 (Below w.heap.size w w10) := ⟨bel_then HB.out ST⟩
  have nHO2 := Aside0.mk (Kd.R_below HO2.out ST)
  have nHO4 := Aside0.mk (Kd.R_below HO4.out ST)
  clear HB ZC HO2 HO4 ST hb
  have HB := nHB
  clear nHB
  have ZC := nZC
  clear nZC
  have HO2 := nHO2
  clear nHO2
  have HO4 := nHO4
  clear nHO4
  go_wp2_with fail
  refine (laws_markSlotS.calls k (fun k => lo4 ≤ k ∧ k < hi4) _ s0 1 _ mk2 w _ (bel_then HB.out (by repeat (first | exact Below.refl _ _ | apply below_alloc | apply pw_below_drewN | apply below_drew1))) (Kd.R_lower (Kd.R_below HO4.out (by repeat (first | exact Below.refl _ _ | apply below_alloc | apply pw_below_drewN | apply below_drew1))) (by have := ZL1.out; have := ZL2.out; have := ZL3.out; have := ZL4.out; have := ZL5.out; have := ZC.out; have := ZW.out; omega)) HMK.out).mono ?_
  rintro e w11 ⟨rfl, hr, hb, hk⟩
  have KP : Kept w10 w11 (fun k => lo4 ≤ k ∧ k < hi4) := law_kept (by repeat (first | exact Below.refl _ _ | apply below_alloc | apply pw_below_drewN | apply below_drew1)) hk
  have nZC := Aside0.mk (Nat.le_trans ZC.out KP.1)
  have nHB : Aside0 (Below w.heap.size w w11) := ⟨hb⟩
  have nHO2 := Aside0.mk (Kd.R_kept HO2.out KP (fun k h1 h2 => by have := ZL1.out; have := ZL2.out; have := ZL3.out; have := ZL4.out; have := ZL5.out; have := ZC.out; have := ZW.out; omega))
  have nHO4 := Aside0.mk (law_marked rfl HO4.out hr)
  clear HB ZC HO2 HO4 KP hb hr hk
  have HB := nHB
  clear nHB
  have ZC := nZC
  clear nZC
  have HO2 := nHO2
  clear nHO2
  have HO4 := nHO4
  clear nHO4
  go_wp2_with fail
  refine (lawHeldSlotS.calls k _ _ s0.length mk2 1 _ _ (Kd.R_reads' HO4.out).1 (law_C0 HO4.out (by repeat (first | exact Below.refl _ _ | apply below_alloc | apply pw_below_drewN | apply below_drew1))) (law_c0 HO4.out) HQ.out).mono ?_
  rintro e w12 ⟨rfl, hd⟩
  have hb := hd.below
  have ST : Below w11.heap.size w11 w12 := bel_then (by repeat (first | exact Below.refl _ _ | apply below_alloc | apply pw_below_drewN | apply below_drew1)) hb
  have nZC := Aside0.mk (Nat.le_trans ZC.out ST.size)
  have nHB : Aside0 (Below w.heap.size w w12) := ⟨bel_then HB.out ST⟩
  have nHO2 := Aside0.mk (Kd.R_below HO2.out ST)
  have nHO4 := Aside0.mk (Kd.R_below HO4.out ST)
  clear HB ZC HO2 HO4 ST hb hd
  have HB := nHB
  clear nHB
  have ZC := nZC
  clear nZC
  have HO2 := nHO2
  clear nHO2
  have HO4 := nHO4
  clear nHO4
  go_wp2_with fail
  refine (laws_toTaskS.calls k _ _ l0 m0 _ (Kd.C_below HR0.out (bel_then HB.out (by repeat (first | exact Below.refl _ _ | apply below_alloc | apply pw_below_drewN | apply below_drew1)))) HC0.out HM0.out).mono ?_
  rintro e w13 ⟨v, rfl, hr, hb⟩
  have ST : Below w12.heap.size w12 w13 := bel_then (by repeat (first | exact Below.refl _ _ | apply below_alloc | apply pw_below_drewN | apply below_drew1)) hb
  obtain ⟨lo6, hi6, A6_, c6_, hz6, hc6, rfl, ho6⟩ := law_madeS (n := hi5) hr hb ZC.out (by repeat (first | exact Below.refl _ _ | apply below_alloc | apply pw_below_drewN | apply below_drew1))
  have ZL6 := Aside0.mk hz6
  have HO6 := Aside0.mk ho6
  clear ho6 hz6
  have nZC := Aside0.mk hc6
  clear hc6
  have nHB : Aside0 (Below w.heap.size w w13) := ⟨bel_then HB.out ST⟩
  have nHO2 := Aside0.mk (Kd.R_below HO2.out ST)
  have nHO4 := Aside0.mk (Kd.R_below HO4.out ST)
  clear HB ZC HO2 HO4 ST hb hr
  have HB := nHB
  clear nHB
  have ZC := nZC
  clear nZC
  have HO2 := nHO2
  clear nHO2
  have HO4 := nHO4
  clear nHO4
  go_wp2_with fail
  refine (impl_ScheduleOf.calls k _ _ m0 a1 s0 s1 s2 _ (law_C (Kd.S_R HO6.out) (by repeat (first | exact Below.refl _ _ | apply below_alloc | apply pw_below_drewN | apply below_drew1))) (law_c (Kd.S_R HO6.out)) HG.out).mono ?_
  rintro e w14 ⟨v, rfl, hr, hb⟩
  have ST : Below w13.heap.size w13 w14 := bel_then (by repeat (first | exact Below.refl _ _ | apply below_alloc | apply pw_below_drewN | apply below_drew1)) hb
  obtain ⟨lo7, hi7, A7_, c7_, hz7, hc7, rfl, ho7⟩ := law_madeR (n := hi6) hr hb ZC.out (by repeat (first | exact Below.refl _ _ | apply below_alloc | apply pw_below_drewN | apply below_drew1))
  have ZL7 := Aside0.mk hz7
  have HO7 := Aside0.mk ho7
  clear ho7 hz7
  have nZC := Aside0.mk hc7
  clear hc7
  have nHB : Aside0 (Below w.heap.size w w14) := ⟨bel_then HB.out ST⟩
  have nHO2 := Aside0.mk (Kd.R_below HO2.out ST)
  have nHO4 := Aside0.mk (Kd.R_below HO4.out ST)
  have nHO6 := Aside0.mk (Kd.S_below HO6.out ST)
  clear HB ZC HO2 HO4 HO6 ST hb hr
  have HB := nHB
  clear nHB
  have ZC := nZC
  clear nZC
  have HO2 := nHO2
  clear nHO2
  have HO4 := nHO4
  clear nHO4
  have HO6 := nHO6
  clear nHO6
  go_wp2_with fail
  refine (laws_eqSlotS.calls k _ _ s0 _ _ s0 true _ (law_C HO7.out (by repeat (first | exact Below.refl _ _ | apply below_alloc | apply pw_below_drewN | apply below_drew1))) (law_c HO7.out) (law_C HO2.out (by repeat (first | exact Below.refl _ _ | apply below_alloc | apply pw_below_drewN | apply below_drew1))) (law_c HO2.out) HE0.out).mono ?_
  rintro e w15 ⟨rfl, hb⟩
  have ST : Below w14.heap.size w14 w15 := bel_then (by repeat (first | exact Below.refl _ _ | apply below_alloc | apply pw_below_drewN | apply below_drew1)) hb
  have nZC := Aside0.mk (Nat.le_trans ZC.out ST.size)
  have nHB : Aside0 (Below w.heap.size w w15) := ⟨bel_then HB.out ST⟩
  have nHO2 := Aside0.mk (Kd.R_below HO2.out ST)
  have nHO4 := Aside0.mk (Kd.R_below HO4.out ST)
  have nHO6 := Aside0.mk (Kd.S_below HO6.out ST)
  have nHO7 := Aside0.mk (Kd.R_below HO7.out ST)
  clear HB ZC HO2 HO4 HO6 HO7 ST hb
  have HB := nHB
  clear nHB
  have ZC := nZC
  clear nZC
  have HO2 := nHO2
  clear nHO2
  have HO4 := nHO4
  clear nHO4
  have HO6 := nHO6
  clear nHO6
  have HO7 := nHO7
  clear nHO7
  go_wp2_with fail
  refine (lawHeldSlotS.calls k _ _ s0.length mk2 1 _ _ (Kd.R_reads' HO4.out).1 (law_C0 HO4.out (by repeat (first | exact Below.refl _ _ | apply below_alloc | apply pw_below_drewN | apply below_drew1))) (law_c0 HO4.out) HQ.out).mono ?_
  rintro e w16 ⟨rfl, hd⟩
  have hb := hd.below
  have ST : Below w15.heap.size w15 w16 := bel_then (by repeat (first | exact Below.refl _ _ | apply below_alloc | apply pw_below_drewN | apply below_drew1)) hb
  have nZC := Aside0.mk (Nat.le_trans ZC.out ST.size)
  have nHB : Aside0 (Below w.heap.size w w16) := ⟨bel_then HB.out ST⟩
  have nHO2 := Aside0.mk (Kd.R_below HO2.out ST)
  have nHO4 := Aside0.mk (Kd.R_below HO4.out ST)
  have nHO6 := Aside0.mk (Kd.S_below HO6.out ST)
  have nHO7 := Aside0.mk (Kd.R_below HO7.out ST)
  clear HB ZC HO2 HO4 HO6 HO7 ST hb hd
  have HB := nHB
  clear nHB
  have ZC := nZC
  clear nZC
  have HO2 := nHO2
  clear nHO2
  have HO4 := nHO4
  clear nHO4
  have HO6 := nHO6
  clear nHO6
  have HO7 := nHO7
  clear nHO7
  go_wp2
  go_ret
  exact ⟨rfl, by repeat (first | exact HB.out | apply below_alloc | apply pw_below_drewN | apply below_drew1)⟩

end Go.Proofs.Ytpgegjbnnbkhiaa.PFnExactScheduleOf
