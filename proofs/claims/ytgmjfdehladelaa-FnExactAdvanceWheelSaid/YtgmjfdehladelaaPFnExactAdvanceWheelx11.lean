-- written by xprint.py (a program of this session's, over the kit's print): printed functions, and some by hand
import Derived.Test.YtgmjfdehladelaaPFnExactAdvanceWheelx0
import Derived.Test.YtgmjfdehladelaaPFnExactAdvanceWheelx1
import Derived.Test.YtgmjfdehladelaaPFnExactAdvanceWheelx2
import Derived.Test.YtgmjfdehladelaaPFnExactAdvanceWheelx3
import Derived.Test.YtgmjfdehladelaaPFnExactAdvanceWheelx7
import Derived.Test.YtgmjfdehladelaaPFnExactAdvanceWheelx10
namespace Go.Proofs.Ytgmjfdehladelaa.PFnExactAdvanceWheel
open Go.RowKit Go.Proofs.YtgmjfdehladelaaW.PrintWords Go.Proofs.YtgmjfdehladelaaW.PrintLast Go.Proofs.YtgmjfdehladelaaW.PrintMore
attribute [local go_sem] max2_int min2_int max_two min_two max_three min_three max_four min_four   -- for this text's walks alone
set_option linter.unusedVariables false
set_option linter.unusedSimpArgs false

/-! ### laws_FnExactAdvanceWheel: function 10, by hand -/
instance decS45 : DecidableEq S45 := fun a b =>
 if h : a.f0 = b.f0 ∧ a.f1 = b.f1 then isTrue (by obtain ⟨h0, h1⟩ := h; cases a; cases b; simp only at h0 h1; rw [h0, h1])
 else isFalse (fun e => h (by rw [e]; exact ⟨rfl, rfl⟩))
theorem bel_then {w W w' : World} (h : Below w.heap.size w W) (hb : Below W.heap.size W w') : Below w.heap.size w w' := below_then h h.size hb
theorem law_madeR {α : Type} {d : Kd α} {e n : Nat} {ok : Nat → Prop} {wl W w' : World} {v : Value} {xs : List α} (h : Kd.R d e w' W.heap.size ok v xs) (hb : Below W.heap.size W w') (hn : n ≤ wl.heap.size) (hW : Below wl.heap.size wl W) :
  ∃ (lo hi : Nat) (A : Option Addr) (c : Nat), (n ≤ lo ∧ lo ≤ hi) ∧ hi ≤ w'.heap.size ∧ v = .slice A xs.length c ∧ Kd.R d e w' lo (fun k => lo ≤ k ∧ k < hi) v xs := by
 obtain ⟨A, c, hv⟩ := Kd.R_slice h
 have := hW.size
 have := hb.size
 exact ⟨W.heap.size, w'.heap.size, A, c, by omega, Nat.le_refl _, hv, Kd.R_mono (Kd.R_bound h) (fun k hk => ⟨hk.2.1, hk.2.2.1⟩)⟩
theorem law_madeS {α : Type} {d : Kd α} {e n : Nat} {ok : Nat → Prop} {wl W w' : World} {v : Value} {xs : List α} (h : Kd.S d e w' W.heap.size ok v xs) (hb : Below W.heap.size W w') (hn : n ≤ wl.heap.size) (hW : Below wl.heap.size wl W) :
  ∃ (lo hi : Nat) (A : Option Addr) (c : Nat), (n ≤ lo ∧ lo ≤ hi) ∧ hi ≤ w'.heap.size ∧ v = .slice A xs.length c ∧ Kd.S d e w' lo (fun k => lo ≤ k ∧ k < hi) v xs := by
 obtain ⟨A, c, hv⟩ := Kd.R_slice (Kd.S_R h)
 have := hW.size
 have := hb.size
 exact ⟨W.heap.size, w'.heap.size, A, c, by omega, Nat.le_refl _, hv, Kd.S_mono (Kd.S_bound h) (fun k hk => ⟨hk.2.1, hk.2.2.1⟩)⟩
theorem law_kept {wl W w' : World} {S : Nat → Prop} (h : Below wl.heap.size wl W) (hk : Kept W w' S) : Kept wl w' S := (Kept.of_below h S).then_ hk (fun _ h => .inl h)
/-- A marked row of plain values lies where it lay. -/
theorem law_marked {α : Type} {d : Kd α} {W w' : World} {base base' e : Nat} {ok P : Nat → Prop} {v : Value} {xs ys : List α} (hE : d.E = []) (h0 : Kd.R d e W base P v xs) (h : Kd.R d e w' base' ok v ys) : Kd.R d e w' base' P v ys :=
 Kd.R_mono (Kd.R_tight hE h) (fun k hk => h0.1 k hk.symm)
theorem law_C {α : Type} {d : Kd α} {e base n c : Nat} {ok : Nat → Prop} {w W : World} {A : Option Addr} {xs : List α} (h : Kd.R d e w base ok (.slice A n c) xs) (hb : Below w.heap.size w W) : Kd.C d W A xs.length xs := (Kd.R_reads' (Kd.R_below h hb)).2.2
theorem law_c {α : Type} {d : Kd α} {e base c : Nat} {ok : Nat → Prop} {w : World} {A : Option Addr} {xs : List α} (h : Kd.R d e w base ok (.slice A xs.length c) xs) : xs.length ≤ c := (Kd.R_reads' h).2.1
theorem law_C0 {α : Type} {d : Kd α} {e base n c : Nat} {ok : Nat → Prop} {w W : World} {A : Option Addr} {xs : List α} (h : Kd.R d e w base ok (.slice A n c) xs) (hb : Below w.heap.size w W) : Kd.C d W A xs.length xs := (Kd.R_reads' (Kd.R_below h hb)).2.2
theorem law_c0 {α : Type} {d : Kd α} {e base n c : Nat} {ok : Nat → Prop} {w : World} {A : Option Addr} {xs : List α} (h : Kd.R d e w base ok (.slice A n c) xs) : xs.length ≤ c := (Kd.R_reads' h).1 ▸ (Kd.R_reads' h).2.1
def markTTGo (k : Nat) : List (List S45) → Int → Option (Int × List (List S45))
 | [], v => some (v, [])
 | x :: l, v => (laws_markTimerS.f k x v).bind fun t => (markTTGo k l t.1).bind fun u => some (u.1, t.2 :: u.2)
theorem rows_at {W : World} {base n cap g : Nat} {ok : Nat → Prop} {xs : List (List S45)} (h : Kd.S (Kd.slice 45 k45) 48 W base ok (.slice (some ⟨g, 0, none⟩) n cap) xs) (j : Nat) (hj : j < n) :
  ∃ (oki : Nat → Prop) (A : Option Addr) (c : Nat), Kd.R k45 45 W base oki (.slice A (xs.getD j []).length c) (xs.getD j []) ∧ W.cell? ⟨g, j, none⟩ = some (.slice A (xs.getD j []).length c) ∧ (∀ k, oki k → ok k) ∧
   ∀ {W' : World} {ys : List S45}, Kept W W' oki → Kd.R k45 45 W' base oki (.slice A (xs.getD j []).length c) ys → Kd.S (Kd.slice 45 k45) 48 W' base ok (.slice (some ⟨g, 0, none⟩) n cap) (xs.set j ys) := by
 obtain ⟨oki, c, hcl, hM, hcc, hok, hH⟩ := Kd.S_lend h [] (j : Int) (by omega) (by omega)
 rw [Int.toNat_natCast] at hM hcc
 obtain ⟨v, rfl, hR⟩ := hM
 obtain ⟨A, c, rfl⟩ := Kd.R_slice hR
 refine ⟨oki, A, c, hR, by have h2 := hcc 0 _ rfl; simpa [Kd.slice] using h2, fun k hk => (hok k hk).1, fun hk hR' => ?_⟩
 have h3 := Kd.H_kept hH hk (fun _ _ hn => hn)
 have h4 := Kd.H_back h3 (x' := _) (okp := oki) ⟨_, rfl, hR'⟩ (fun _ hk => hk)
 rwa [Int.toNat_natCast] at h4
set_option maxHeartbeats 8000000 in
set_option maxRecDepth 100000 in
theorem shMarkTimerSS.calls (k : Nat) (P : Nat → Prop) (v : Value) (l : List (List S45)) (a : Int) (r1 : Int) (r2 : List (List S45)) (w0 w : World) (hB : Below w0.heap.size w0 w) (ho : Kd.S (Kd.slice 45 k45) 48 w w0.heap.size P v l) (h : markTTGo k l a = some (r1, r2)) :
  Calls Try.prog 46 #[v, .int .i64 a] w fun e w' => e = .returned (.int .i64 r1) ∧ Kd.S (Kd.slice 45 k45) 48 w' w0.heap.size P v r2 ∧ Below w0.heap.size w0 w' ∧ Kept w w' P := by
 obtain ⟨A, c, rfl⟩ := Kd.R_slice (Kd.S_R ho)
 have HO := Aside0.mk ho
 have HB := Aside0.mk hB
 have HF := Aside0.mk h
 have HLN := Aside0.mk (Kd.R_reads' (Kd.S_R ho)).2.2.2.1
 obtain ⟨ln, hln⟩ : ∃ ln, ln = l.length := ⟨_, rfl⟩
 rw [← hln] at HO HLN ⊢
 have HL := Aside0.mk hln
 clear ho hB h hln
 go_enter Try.func46, Try.ntmps46
 go_wp2
 go_loopg [1, 5] ln (fun kq v1 v5 w' => ∃ (j : Nat) (aj : Int) (xs ds : List (List S45)) (rs : List (List S45)), v1 = .int .i64 aj ∧ v5 = .int .i64 (j : Int) ∧ Aside0 (kq + j = ln) ∧ Aside0 (Below w0.heap.size w0 w') ∧ Aside0 (Kept w w' P) ∧ Aside0 (Kd.S (Kd.slice 45 k45) 48 w' w0.heap.size P (.slice A ln c) xs) ∧ Aside0 (xs = ds ++ l.drop j ∧ ds.length = j ∧ markTTGo k (l.drop j) aj = some (r1, rs) ∧ r2 = ds ++ rs))
 case atStart => exact ⟨0, a, l, [], r2, rfl, rfl, ⟨by omega⟩, ⟨by repeat (first | exact HB.out | apply below_alloc | apply pw_below_drewN | apply below_drew1)⟩, ⟨Kept.of_below (by repeat (first | exact Below.refl _ _ | apply below_alloc | apply pw_below_drewN | apply below_drew1)) _⟩, ⟨Kd.S_below HO.out (by repeat (first | exact Below.refl _ _ | apply below_alloc | apply pw_below_drewN | apply below_drew1))⟩, ⟨by simp, rfl, by simpa using HF.out, rfl⟩⟩
 case round =>
  clear HB HF HO
  obtain ⟨j, aj, xs, ds, rs, rfl, rfl, HK, HB, HKP, HO, HX⟩ := hrel
  by_cases hlt : j < ln
  ·obtain ⟨hx1, hx2, hx3, hx4⟩ := HX.out
   have hll := HL.out
   have hget : xs.getD j [] = l.getD j [] := by
    rw [hx1, List.getD_eq_getElem?_getD, List.getElem?_append_right (by omega), hx2, Nat.sub_self, List.getElem?_drop, Nat.add_zero, ← List.getD_eq_getElem?_getD]
   have hdr : l.drop j = l.getD j [] :: l.drop (j + 1) := by
    rw [List.drop_eq_getElem_cons (by omega), List.getD_eq_getElem?_getD, List.getElem?_eq_getElem (by omega)]; rfl
   rw [hdr] at hx3
   simp only [markTTGo] at hx3
   obtain ⟨⟨a2, y⟩, hy, hx3⟩ := Option.bind_eq_some_iff.1 hx3
   obtain ⟨⟨u1, u2⟩, hu, hx3⟩ := Option.bind_eq_some_iff.1 hx3
   simp only [Option.some.injEq, Prod.mk.injEq] at hx3
   obtain ⟨rfl, rfl⟩ := hx3
   simp only at hu
   rw [← hget] at hy
   obtain ⟨g, cap, eg, hgb, hgl, _⟩ := Kd.R_form (Kd.S_R HO.out) (by rw [hx1]; simp; omega)
   injection eg with ea en ec
   subst ea
   subst ec
   clear en
   obtain ⟨oki, A0, c0, hR, hx, hok, hback⟩ := rows_at HO.out j hlt
   obtain ⟨row, hrow⟩ : ∃ row, row = xs.getD j [] := ⟨_, rfl⟩
   rw [← hrow] at hR hx hback hy
   have HR := Aside0.mk hR
   have HBK := Aside0.mk (fun {W' : World} {ys : List S45} => hback (W' := W') (ys := ys))
   have HOK := Aside0.mk hok
   have HY := Aside0.mk hy
   have HU := Aside0.mk hu
   have HX2 := Aside0.mk (show ∀ ys : List S45, xs.set j ys = (ds ++ [ys]) ++ l.drop (j + 1) from fun ys => by
    rw [hx1, hdr, List.set_append_right _ _ (by omega), hx2, Nat.sub_self, List.set_cons_zero, List.append_assoc]; rfl)
   have HX3 := Aside0.mk hx2
   have HX4 := Aside0.mk hx4
   have hd : decide (j < ln) = true := decide_eq_true hlt
   clear hx1 hx2 hx4 hll hget hdr hy hu hR hok hback hrow HX
   cases gk with
   | zero => exact absurd HK.out (by omega)
   | succ k1 =>
    have hxp : wr.cell? (({ block := g, off := 0, spot := none } : Addr).add j) = some (.slice A0 row.length c0) := by rw [add_plain]; exact hx
    go_wp2_with fail
    refine (laws_markTimerS.calls k oki _ row aj a2 y w0 _ ?hb ?hr HY.out).mono ?_
    case hb => repeat (first | exact HB.out | apply below_alloc | apply pw_below_drewN | apply below_drew1)
    case hr => exact Kd.R_below HR.out (by repeat (first | exact Below.refl _ _ | apply below_alloc | apply pw_below_drewN | apply below_drew1))
    rintro e w1 ⟨rfl, hr1, hb1, hk1⟩
    have HB1 := Aside0.mk hb1
    have HK1 := Aside0.mk (law_kept (wl := wr) (by repeat (first | exact Below.refl _ _ | apply below_alloc | apply pw_below_drewN | apply below_drew1)) hk1)
    have HR1 := Aside0.mk (Kd.R_mono (Kd.R_tight rfl hr1) (fun k hk => HR.out.1 k hk.symm))
    have HO1 := Aside0.mk (HBK.out HK1.out HR1.out)
    have HKP1 := Aside0.mk (HKP.out.then_ HK1.out (fun k hk => .inl (HOK.out k hk)))
    clear hr1 hb1 hk1 hx hxp HBK
    go_wp2
    go_roundg k1
    case measure => omega
    case rel =>
     exact ⟨j + 1, a2, _, ds ++ [y], u2, rfl, by have := HLN.out; congr 1; unfold wrap64; omega, ⟨by have := HK.out; omega⟩, ⟨by repeat (first | exact HB1.out | apply below_alloc | apply pw_below_drewN | apply below_drew1)⟩, ⟨by first | exact HKP1.out | exact Kept.drewN HKP1.out _⟩, ⟨Kd.S_below HO1.out (by repeat (first | exact Below.refl _ _ | apply below_alloc | apply pw_below_drewN | apply below_drew1))⟩, ⟨HX2.out y, by have := HX3.out; simp; omega, HU.out, by rw [HX4.out]; simp⟩⟩
  ·have hd : decide (j < ln) = false := decide_eq_false hlt
   have HD := Aside0.mk hlt
   clear hlt
   go_wp2
   go_ret
   have hj : j = ln := by have := HK.out; have := HD.out; omega
   obtain ⟨hx1, hx2, hx3, hx4⟩ := HX.out
   rw [List.drop_of_length_le (by have := HL.out; omega)] at hx1 hx3
   simp only [markTTGo, Option.some.injEq, Prod.mk.injEq] at hx3
   obtain ⟨e1, e2⟩ := hx3
   exact ⟨by rw [← e1]; rfl, by rw [hx4, ← e2, ← hx1]; exact Kd.S_below HO.out (by repeat (first | exact Below.refl _ _ | apply below_alloc | apply pw_below_drewN | apply below_drew1)), by repeat (first | exact HB.out | apply below_alloc | apply pw_below_drewN | apply below_drew1), by first | exact HKP.out | exact Kept.drewN HKP.out _⟩
set_option maxHeartbeats 8000000 in
set_option maxRecDepth 100000 in
theorem shMarkWheel.calls (k : Nat) (P : Nat → Prop) (n0 : Int) (A : Option Addr) (c n : Nat) (l : List (List S45)) (a : Int) (r1 : Int) (r2 : List (List S45)) (w0 w : World) (hB : Below w0.heap.size w0 w) (ho : Kd.S (Kd.slice 45 k45) 48 w w0.heap.size P (.slice A n c) l) (h : markTTGo k l a = some (r1, r2)) :
  Calls Try.prog 16 #[.agg #[.int .i64 n0, .slice A n c], .int .i64 a] w fun e w' => e = .returned (.int .i64 r1) ∧ Kd.S (Kd.slice 45 k45) 48 w' w0.heap.size P (.slice A n c) r2 ∧ Below w0.heap.size w0 w' ∧ Kept w w' P := by
 have HO := Aside0.mk ho
 have HB := Aside0.mk hB
 have HF := Aside0.mk h
 clear ho hB h
 go_enter Try.func16, Try.ntmps16
 go_wp2_with fail
 refine (shMarkTimerSS.calls k P _ l a r1 r2 w0 _ ?hb ?ho HF.out).mono ?_
 case hb => repeat (first | exact HB.out | apply below_alloc | apply pw_below_drewN | apply below_drew1)
 case ho => exact Kd.S_below HO.out (by repeat (first | exact Below.refl _ _ | apply below_alloc | apply pw_below_drewN | apply below_drew1))
 rintro e w1 ⟨rfl, hr1, hb1, hk1⟩
 have HR1 := Aside0.mk hr1
 have HB1 := Aside0.mk hb1
 have HK1 := Aside0.mk (law_kept (wl := w) (by repeat (first | exact Below.refl _ _ | apply below_alloc | apply pw_below_drewN | apply below_drew1)) hk1)
 clear hr1 hb1 hk1
 go_wp2
 go_ret
 exact ⟨rfl, Kd.S_below HR1.out (by repeat (first | exact Below.refl _ _ | apply below_alloc | apply pw_below_drewN | apply below_drew1)), by repeat (first | exact HB1.out | apply below_alloc | apply pw_below_drewN | apply below_drew1), by first | exact HK1.out | exact Kept.drewN HK1.out _⟩
theorem lawHeldWheel.calls (k : Nat) (n0 : Int) (A : Option Addr) (c n : Nat) (l : List (List S45)) (a r : Int) (w : World) (hn : n = l.length) (hr : Kd.C (Kd.slice 45 k45) w A l.length l) (hc : l.length ≤ c) (h : laws_heldWheel.f k n0 l a = some r) :
  Calls Try.prog 17 #[.agg #[.int .i64 n0, .slice A n c], .int .i64 a] w fun e w' => e = .returned (.int .i64 r) ∧ Below w.heap.size w w' := by
 subst hn
 exact laws_heldWheel.calls k n0 A c l a r w hr hc h
/-- two objects of one call: a wheel and whole numbers: the numbers' own block apart from the wheel's -/
theorem law_made2 {n : Nat} {wl W w' : World} {v u : Value} {xs : List (List S45)} {ys : List Int} (h : Kd.S (Kd.slice 45 k45) 48 w' W.heap.size (fun _ => True) v xs) (hu : Kd.R (Kd.int .i64) 3 w' W.heap.size (fun _ => True) u ys) (hb : Below W.heap.size W w') (hn : n ≤ wl.heap.size) (hW : Below wl.heap.size wl W) :
  ∃ (lo hi bl bh : Nat) (A A' : Option Addr) (c c' : Nat), (n ≤ lo ∧ lo ≤ bl ∧ bl ≤ bh ∧ bh ≤ hi) ∧ hi ≤ w'.heap.size ∧ v = .slice A xs.length c ∧ u = .slice A' ys.length c' ∧ Kd.S (Kd.slice 45 k45) 48 w' lo (fun k => (lo ≤ k ∧ k < hi) ∧ ¬ (bl ≤ k ∧ k < bh)) v xs ∧ Kd.R (Kd.int .i64) 3 w' lo (fun k => bl ≤ k ∧ k < bh) u ys := by
 obtain ⟨A, c, hv⟩ := Kd.R_slice (Kd.S_R h)
 obtain ⟨A', c', hv'⟩ := Kd.R_slice hu
 have h1 := hW.size
 have h2 := hb.size
 cases hvo : u.ownBlock with
 | none =>
  exact ⟨W.heap.size, w'.heap.size, W.heap.size, W.heap.size, A, A', c, c', by omega, Nat.le_refl _, hv, hv', Kd.S_mono (Kd.S_bound h) (fun k hk => ⟨⟨hk.2.1, hk.2.2.1⟩, by omega⟩), Kd.R_mono (Kd.R_tight rfl hu) (fun k hk => by rw [hvo] at hk; cases hk)⟩
 | some b =>
  obtain ⟨cells, hc⟩ := Kd.R_typed hu b hvo
  have h3 := Kd.R_base hu b hvo
  have h4 := Kd.R_lt hu b hvo
  refine ⟨W.heap.size, w'.heap.size, b, b + 1, A, A', c, c', by omega, Nat.le_refl _, hv, hv', Kd.S_mono (Kd.S_bound (Kd.S_types h hc (by decide))) (fun k hk => ⟨⟨hk.2.1, hk.2.2.1⟩, ?_⟩), Kd.R_mono (Kd.R_tight rfl hu) (fun k hk => ?_)⟩
  ·have := hk.1.2; omega
  ·rw [hvo] at hk; injection hk with hk; omega
theorem lawHeldIntS.calls (k : Nat) (A : Option Addr) (c n : Nat) (l : List Int) (a r : Int) (w : World) (hn : n = l.length) (hr : Kd.C (Kd.int .i64) w A l.length l) (hc : l.length ≤ c) (h : laws_heldIntS.f k l a = some r) :
  Calls Try.prog 36 #[.slice A n c, .int .i64 a] w fun e w' => e = .returned (.int .i64 r) ∧ Drawn0 w w' := by
 subst hn
 exact laws_heldIntS.calls k A c l a r w hr hc h
def laws_FnExactAdvanceWheel.f (k : Nat) (a0_0 : Int) (l0_1 : List (List S43)) (a1 : Int) : Option Bool :=
 (laws_szWheel.f k a0_0 l0_1 1048576).bind fun t => if t < 0 then some true else
 (laws_toWheel.f k a0_0 l0_1).bind fun x =>
 (spec_AdvanceWheel.f k x.1 x.2 a1).bind fun s =>
 (impl_AdvanceWheel.f k x.1 x.2 a1).bind fun g =>
 (laws_eqWheel.f k s.1 s.2.1 s.1 s.2.1).bind fun b0 =>
 (laws_eqIntS.f k s.2.2.1 s.2.2.1).bind fun b2 =>
 (laws_eqWheel.f k x.1 x.2 x.1 x.2).bind fun b1 =>
 (markTTGo k x.2 1).bind fun mx =>
 (markTTGo k s.2.1 1).bind fun mk =>
 (laws_markIntS.f k s.2.2.1 mk.1).bind fun mi =>
 (laws_heldWheel.f k s.1 mk.2 1).bind fun q =>
 (laws_heldIntS.f k mi.2 q).bind fun p =>
 if g = s ∧ b0 = true ∧ b2 = true ∧ b1 = true ∧ ¬ mx.1 < 0 ∧ p = mi.1 ∧ ¬ q < 0 ∧ ¬ p < 0 then some true else none
set_option maxHeartbeats 16000000 in
set_option maxRecDepth 100000 in
theorem laws_FnExactAdvanceWheel.calls (k : Nat) (a0_0 : Int) (A0_1 : Option Addr) (c0_1 : Nat) (l0_1 : List (List S43)) (a1 : Int) (r : Bool) (w : World) (hr0_1 : Kd.C (Kd.slice 43 k43) w A0_1 l0_1.length l0_1) (hc0_1 : l0_1.length ≤ c0_1) (h : laws_FnExactAdvanceWheel.f k a0_0 l0_1 a1 = some r) :
  Calls Try.prog 10 #[.agg #[.int .i64 a0_0, .slice A0_1 l0_1.length c0_1], .int .i64 a1] w fun e w' => e = .returned (.bool r) ∧ Below w.heap.size w w' := by
 have hu34 := Try.underlying34
 have hu27 := Try.underlying27
 have HR0_1 := Aside0.mk hr0_1
 have HC0_1 := Aside0.mk hc0_1
 have HB := Aside0.mk (Below.refl w.heap.size w)
 clear hr0_1 hc0_1
 unfold laws_FnExactAdvanceWheel.f at h
 replace h := Option.bind_eq_some_iff.1 h
 obtain ⟨t, T, h⟩ := h
 have HT := Aside0.mk T
 clear T
 by_cases ht : t < 0
 ·rw [if_pos ht] at h
  obtain rfl := Option.some.inj h
  have hdt : decide (t < 0) = true := decide_eq_true ht
  clear ht
  go_enter Try.func10, Try.ntmps10
  go_wp2_with fail
  refine (laws_szWheel.calls k a0_0 A0_1 c0_1 l0_1 1048576 t _ (Kd.C_below HR0_1.out (by repeat (first | exact HB.out | apply below_alloc | apply pw_below_drewN | apply below_drew1))) HC0_1.out HT.out).mono ?_
  rintro e w1 ⟨rfl, hb⟩
  have HB1 : Aside0 (Below w.heap.size w w1) := ⟨bel_then (by repeat (first | exact HB.out | apply below_alloc | apply pw_below_drewN | apply below_drew1)) hb⟩
  clear hb
  go_wp2
  go_ret
  exact ⟨rfl, by repeat (first | exact HB1.out | apply below_alloc | apply pw_below_drewN | apply below_drew1)⟩
 rw [if_neg ht] at h
 have hdt : decide (t < 0) = false := decide_eq_false ht
 clear ht
 replace h := Option.bind_eq_some_iff.1 h
 obtain ⟨⟨x1, x2⟩, hx, h⟩ := h
 replace h := Option.bind_eq_some_iff.1 h
 obtain ⟨⟨s1, s2, s3, s4, s5⟩, hS, h⟩ := h
 replace h := Option.bind_eq_some_iff.1 h
 obtain ⟨g, hG, h⟩ := h
 replace h := Option.bind_eq_some_iff.1 h
 obtain ⟨b0, hE0, h⟩ := h
 replace h := Option.bind_eq_some_iff.1 h
 obtain ⟨b2, hE2, h⟩ := h
 replace h := Option.bind_eq_some_iff.1 h
 obtain ⟨b1, hE1, h⟩ := h
 replace h := Option.bind_eq_some_iff.1 h
 obtain ⟨⟨mx1, mx2⟩, hMX, h⟩ := h
 replace h := Option.bind_eq_some_iff.1 h
 obtain ⟨⟨mk1, mk2⟩, hMK, h⟩ := h
 replace h := Option.bind_eq_some_iff.1 h
 obtain ⟨⟨mi1, mi2⟩, hMI, h⟩ := h
 replace h := Option.bind_eq_some_iff.1 h
 obtain ⟨q, hQ, h⟩ := h
 replace h := Option.bind_eq_some_iff.1 h
 obtain ⟨p, hP, h⟩ := h
 try simp only at hx hS hG hE0 hE2 hE1 hMX hMK hMI hQ hP h
 split at h
 case isFalse => cases h
 rename_i hh
 obtain rfl := Option.some.inj h
 obtain ⟨rfl, rfl, rfl, rfl, hmx, rfl, hq, hp⟩ := hh
 have HX := Aside0.mk hx
 have HSP := Aside0.mk hS
 have HG := Aside0.mk hG
 have HE0 := Aside0.mk hE0
 have HE2 := Aside0.mk hE2
 have HE1 := Aside0.mk hE1
 have HMX := Aside0.mk hMX
 have HMK := Aside0.mk hMK
 have HMI := Aside0.mk hMI
 have HQ := Aside0.mk hQ
 have HP := Aside0.mk hP
 have hdm : decide (mx1 < 0) = false := decide_eq_false hmx
 have hdq : decide (q < 0) = false := decide_eq_false hq
 have hdp : decide (p < 0) = false := decide_eq_false hp
 clear hx hS hG hE0 hE2 hE1 hMX hMK hMI hQ hP hmx hq h hp
 go_enter Try.func10, Try.ntmps10
 go_wp2_with fail
 refine (laws_szWheel.calls k a0_0 A0_1 c0_1 l0_1 1048576 t _ (Kd.C_below HR0_1.out (by repeat (first | exact HB.out | apply below_alloc | apply pw_below_drewN | apply below_drew1))) HC0_1.out HT.out).mono ?_
 rintro e w1 ⟨rfl, hb⟩
 have nBX0 : Aside0 (w1.heap[w.heap.size]? = some (.cells #[.int .i64 a0_0, .slice A0_1 l0_1.length c0_1] 34 (0, 0))) := ⟨blk_below (by first | exact heap_alloc_new _ _ | (have h_ := heap_alloc_new (w.alloc (.cells #[.int .i64 a0_0, .slice A0_1 l0_1.length c0_1] 34)) (.cells #[.int .i64 a0_0, .slice A0_1 l0_1.length c0_1] 34); simpa using h_)) hb⟩
 have nHB : Aside0 (Below w.heap.size w w1) := ⟨bel_then (by repeat (first | exact HB.out | apply below_alloc | apply pw_below_drewN | apply below_drew1)) hb⟩
 have ZC : Aside0 (w.heap.size + 1 ≤ w1.heap.size) := ⟨by have := hb.size; simpa using this⟩
 have ZW : Aside0 (w.heap.size ≤ w.heap.size + 1) := ⟨Nat.le_add_right _ _⟩
 clear HB hb
 have HB := nHB
 clear nHB
 have BX0 := nBX0
 clear nBX0
 have zc0_0 : w1.cell? ⟨w.heap.size, 0, none⟩ = some (.int .i64 a0_0) := (blk_cell BX0.out 0).trans rfl
 have zc0_1 : w1.cell? ⟨w.heap.size, 1, none⟩ = some (.slice A0_1 l0_1.length c0_1) := (blk_cell BX0.out 1).trans rfl
 go_wp2_with fail
 refine (laws_toWheel.calls k a0_0 _ _ l0_1 x1 x2 _ (Kd.C_below HR0_1.out (bel_then HB.out (by repeat (first | exact Below.refl _ _ | apply below_alloc | apply pw_below_drewN | apply below_drew1)))) HC0_1.out HX.out).mono ?_
 rintro e w2 ⟨v, rfl, hr, hb⟩
 clear zc0_0 zc0_1
 have ST : Below w1.heap.size w1 w2 := bel_then (by repeat (first | exact Below.refl _ _ | apply below_alloc | apply pw_below_drewN | apply below_drew1)) hb
 obtain ⟨lo1, hi1, A1_, c1_, hz1, hc1, rfl, ho1⟩ := law_madeS (n := (w.heap.size + 1)) hr hb ZC.out (by repeat (first | exact Below.refl _ _ | apply below_alloc | apply pw_below_drewN | apply below_drew1))
 have ZL1 := Aside0.mk hz1
 have HO1 := Aside0.mk ho1
 clear ho1 hz1
 have nZC := Aside0.mk hc1
 clear hc1
 have nHB : Aside0 (Below w.heap.size w w2) := ⟨bel_then HB.out ST⟩
 have nBX0 := Aside0.mk (blk_below BX0.out ST)
 clear HB ZC BX0 ST hb hr
 have HB := nHB
 clear nHB
 have ZC := nZC
 clear nZC
 have BX0 := nBX0
 clear nBX0
 have zc0_0 : w2.cell? ⟨w.heap.size, 0, none⟩ = some (.int .i64 a0_0) := (blk_cell BX0.out 0).trans rfl
 have zc0_1 : w2.cell? ⟨w.heap.size, 1, none⟩ = some (.slice A0_1 l0_1.length c0_1) := (blk_cell BX0.out 1).trans rfl
 go_wp2_with fail
 refine (spec_AdvanceWheel.calls k x1 _ _ x2 a1 s1 s2 s3 s4 s5 _ (law_C (Kd.S_R HO1.out) (by repeat (first | exact Below.refl _ _ | apply below_alloc | apply pw_below_drewN | apply below_drew1))) (law_c (Kd.S_R HO1.out)) HSP.out).mono ?_
 rintro e w3 ⟨v, u, rfl, hr, hu, hb⟩
 clear zc0_0 zc0_1
 have ST : Below w2.heap.size w2 w3 := bel_then (by repeat (first | exact Below.refl _ _ | apply below_alloc | apply pw_below_drewN | apply below_drew1)) hb
 obtain ⟨lo2, hi2, bl2, bh2, A2_, A3_, c2_, c3_, hz2, hc2, rfl, rfl, ho2, ho3⟩ := law_made2 (n := hi1) hr hu hb ZC.out (by repeat (first | exact Below.refl _ _ | apply below_alloc | apply pw_below_drewN | apply below_drew1))
 have ZL2 := Aside0.mk hz2
 have HO2 := Aside0.mk ho2
 have HO3 := Aside0.mk ho3
 clear ho2 ho3 hz2
 have nZC := Aside0.mk hc2
 clear hc2
 have nHB : Aside0 (Below w.heap.size w w3) := ⟨bel_then HB.out ST⟩
 have nHO1 := Aside0.mk (Kd.S_below HO1.out ST)
 have nBX0 := Aside0.mk (blk_below BX0.out ST)
 clear HB ZC HO1 BX0 ST hb hr hu
 have HB := nHB
 clear nHB
 have ZC := nZC
 clear nZC
 have HO1 := nHO1
 clear nHO1
 have BX0 := nBX0
 clear nBX0
 clear HO1
 have zc0_0 : w3.cell? ⟨w.heap.size, 0, none⟩ = some (.int .i64 a0_0) := (blk_cell BX0.out 0).trans rfl
 have zd0_0 := pw_cell_below (below_alloc (Below.refl _ _) (.cells #[.int .i64 s1, .slice A2_ s2.length c2_] 27)) zc0_0
 have zc0_1 : w3.cell? ⟨w.heap.size, 1, none⟩ = some (.slice A0_1 l0_1.length c0_1) := (blk_cell BX0.out 1).trans rfl
 have zd0_1 := pw_cell_below (below_alloc (Below.refl _ _) (.cells #[.int .i64 s1, .slice A2_ s2.length c2_] 27)) zc0_1
 go_wp2_with fail
 refine (laws_toWheel.calls k a0_0 _ _ l0_1 x1 x2 _ (Kd.C_below HR0_1.out (bel_then HB.out (by repeat (first | exact Below.refl _ _ | apply below_alloc | apply pw_below_drewN | apply below_drew1)))) HC0_1.out HX.out).mono ?_
 rintro e w4 ⟨v, rfl, hr, hb⟩
 clear zc0_0 zd0_0 zc0_1 zd0_1
 have ST : Below w3.heap.size w3 w4 := bel_then (by repeat (first | exact Below.refl _ _ | apply below_alloc | apply pw_below_drewN | apply below_drew1)) hb
 have mBX1 : Aside0 (w4.heap[w3.heap.size]? = some (.cells #[.int .i64 s1, .slice A2_ s2.length c2_] 27 (0, 0))) := ⟨blk_below (by first | exact heap_alloc_new _ _ | (have h_ := heap_alloc_new (w3.alloc (.cells #[.int .i64 s1, .slice A2_ s2.length c2_] 27)) (.cells #[.int .i64 s1, .slice A2_ s2.length c2_] 27); simpa using h_)) hb⟩
 have ZL4 := Aside0.mk (show hi2 ≤ w3.heap.size from ZC.out)
 clear ZC
 have ZC : Aside0 (w3.heap.size + 1 ≤ w4.heap.size) := ⟨by have := hb.size; simpa using this⟩
 obtain ⟨lo5, hi5, A5_, c5_, hz5, hc5, rfl, ho5⟩ := law_madeS (n := (w3.heap.size + 1)) hr hb (by simp) (Below.refl _ _)
 have ZL5 := Aside0.mk hz5
 have HO5 := Aside0.mk ho5
 clear ho5 hz5
 have nZC := Aside0.mk hc5
 clear hc5
 have nHB : Aside0 (Below w.heap.size w w4) := ⟨bel_then HB.out ST⟩
 have nHO2 := Aside0.mk (Kd.S_below HO2.out ST)
 have nHO3 := Aside0.mk (Kd.R_below HO3.out ST)
 have nBX0 := Aside0.mk (blk_below BX0.out ST)
 clear HB ZC HO2 HO3 BX0 ST hb hr
 have HB := nHB
 clear nHB
 have ZC := nZC
 clear nZC
 have HO2 := nHO2
 clear nHO2
 have HO3 := nHO3
 clear nHO3
 have BX0 := nBX0
 clear nBX0
 have BX1 := mBX1
 clear mBX1
 have zc0_0 : w4.cell? ⟨w.heap.size, 0, none⟩ = some (.int .i64 a0_0) := (blk_cell BX0.out 0).trans rfl
 have zd0_0 := pw_cell_below (below_alloc (Below.refl _ _) (.cells #[.int .i64 x1, .slice A5_ x2.length c5_] 27)) zc0_0
 have zc0_1 : w4.cell? ⟨w.heap.size, 1, none⟩ = some (.slice A0_1 l0_1.length c0_1) := (blk_cell BX0.out 1).trans rfl
 have zd0_1 := pw_cell_below (below_alloc (Below.refl _ _) (.cells #[.int .i64 x1, .slice A5_ x2.length c5_] 27)) zc0_1
 have zc1_0 : w4.cell? ⟨w3.heap.size, 0, none⟩ = some (.int .i64 s1) := (blk_cell BX1.out 0).trans rfl
 have zd1_0 := pw_cell_below (below_alloc (Below.refl _ _) (.cells #[.int .i64 x1, .slice A5_ x2.length c5_] 27)) zc1_0
 have zc1_1 : w4.cell? ⟨w3.heap.size, 1, none⟩ = some (.slice A2_ s2.length c2_) := (blk_cell BX1.out 1).trans rfl
 have zd1_1 := pw_cell_below (below_alloc (Below.refl _ _) (.cells #[.int .i64 x1, .slice A5_ x2.length c5_] 27)) zc1_1
 go_wp2_with fail
 refine (impl_AdvanceWheel.calls k x1 _ _ x2 a1 s1 s2 s3 s4 s5 _ (law_C (Kd.S_R HO5.out) (by repeat (first | exact Below.refl _ _ | apply below_alloc | apply pw_below_drewN | apply below_drew1))) (law_c (Kd.S_R HO5.out)) HG.out).mono ?_
 rintro e w5 ⟨v, u, rfl, hr, hu, hb⟩
 clear zc0_0 zd0_0 zc0_1 zd0_1 zc1_0 zd1_0 zc1_1 zd1_1
 have ST : Below w4.heap.size w4 w5 := bel_then (by repeat (first | exact Below.refl _ _ | apply below_alloc | apply pw_below_drewN | apply below_drew1)) hb
 have mBX2 : Aside0 (w5.heap[w4.heap.size]? = some (.cells #[.int .i64 x1, .slice A5_ x2.length c5_] 27 (0, 0))) := ⟨blk_below (by first | exact heap_alloc_new _ _ | (have h_ := heap_alloc_new (w4.alloc (.cells #[.int .i64 x1, .slice A5_ x2.length c5_] 27)) (.cells #[.int .i64 x1, .slice A5_ x2.length c5_] 27); simpa using h_)) hb⟩
 have ZL6 := Aside0.mk (show hi5 ≤ w4.heap.size from ZC.out)
 clear ZC
 have ZC : Aside0 (w4.heap.size + 1 ≤ w5.heap.size) := ⟨by have := hb.size; simpa using this⟩
 obtain ⟨lo7, hi7, bl7, bh7, A7_, A8_, c7_, c8_, hz7, hc7, rfl, rfl, ho7, ho8⟩ := law_made2 (n := (w4.heap.size + 1)) hr hu hb (by simp) (Below.refl _ _)
 have ZL7 := Aside0.mk hz7
 have HO7 := Aside0.mk ho7
 have HO8 := Aside0.mk ho8
 clear ho7 ho8 hz7
 have nZC := Aside0.mk hc7
 clear hc7
 have nHB : Aside0 (Below w.heap.size w w5) := ⟨bel_then HB.out ST⟩
 have nHO2 := Aside0.mk (Kd.S_below HO2.out ST)
 have nHO3 := Aside0.mk (Kd.R_below HO3.out ST)
 have nHO5 := Aside0.mk (Kd.S_below HO5.out ST)
 have nBX0 := Aside0.mk (blk_below BX0.out ST)
 have nBX1 := Aside0.mk (blk_below BX1.out ST)
 clear HB ZC HO2 HO3 HO5 BX0 BX1 ST hb hr hu
 have HB := nHB
 clear nHB
 have ZC := nZC
 clear nZC
 have HO2 := nHO2
 clear nHO2
 have HO3 := nHO3
 clear nHO3
 have HO5 := nHO5
 clear nHO5
 have BX0 := nBX0
 clear nBX0
 have BX1 := nBX1
 clear nBX1
 have BX2 := mBX2
 clear mBX2
 have zc0_0 : w5.cell? ⟨w.heap.size, 0, none⟩ = some (.int .i64 a0_0) := (blk_cell BX0.out 0).trans rfl
 have zd0_0 := pw_cell_below (below_alloc (Below.refl _ _) (.cells #[.int .i64 s1, .slice A7_ s2.length c7_] 27)) zc0_0
 have zc0_1 : w5.cell? ⟨w.heap.size, 1, none⟩ = some (.slice A0_1 l0_1.length c0_1) := (blk_cell BX0.out 1).trans rfl
 have zd0_1 := pw_cell_below (below_alloc (Below.refl _ _) (.cells #[.int .i64 s1, .slice A7_ s2.length c7_] 27)) zc0_1
 have zc1_0 : w5.cell? ⟨w3.heap.size, 0, none⟩ = some (.int .i64 s1) := (blk_cell BX1.out 0).trans rfl
 have zd1_0 := pw_cell_below (below_alloc (Below.refl _ _) (.cells #[.int .i64 s1, .slice A7_ s2.length c7_] 27)) zc1_0
 have zc1_1 : w5.cell? ⟨w3.heap.size, 1, none⟩ = some (.slice A2_ s2.length c2_) := (blk_cell BX1.out 1).trans rfl
 have zd1_1 := pw_cell_below (below_alloc (Below.refl _ _) (.cells #[.int .i64 s1, .slice A7_ s2.length c7_] 27)) zc1_1
 have zc2_0 : w5.cell? ⟨w4.heap.size, 0, none⟩ = some (.int .i64 x1) := (blk_cell BX2.out 0).trans rfl
 have zd2_0 := pw_cell_below (below_alloc (Below.refl _ _) (.cells #[.int .i64 s1, .slice A7_ s2.length c7_] 27)) zc2_0
 have zc2_1 : w5.cell? ⟨w4.heap.size, 1, none⟩ = some (.slice A5_ x2.length c5_) := (blk_cell BX2.out 1).trans rfl
 have zd2_1 := pw_cell_below (below_alloc (Below.refl _ _) (.cells #[.int .i64 s1, .slice A7_ s2.length c7_] 27)) zc2_1
 go_wp2_with fail
 refine (laws_eqWheel.calls k s1 _ _ s2 s1 _ _ s2 true _ (law_C (Kd.S_R HO7.out) (by repeat (first | exact Below.refl _ _ | apply below_alloc | apply pw_below_drewN | apply below_drew1))) (law_c (Kd.S_R HO7.out)) (law_C (Kd.S_R HO2.out) (by repeat (first | exact Below.refl _ _ | apply below_alloc | apply pw_below_drewN | apply below_drew1))) (law_c (Kd.S_R HO2.out)) HE0.out).mono ?_
 rintro e w6 ⟨rfl, hb⟩
 clear zc0_0 zd0_0 zc0_1 zd0_1 zc1_0 zd1_0 zc1_1 zd1_1 zc2_0 zd2_0 zc2_1 zd2_1
 have ST : Below w5.heap.size w5 w6 := bel_then (by repeat (first | exact Below.refl _ _ | apply below_alloc | apply pw_below_drewN | apply below_drew1)) hb
 have mBX3 : Aside0 (w6.heap[w5.heap.size]? = some (.cells #[.int .i64 s1, .slice A7_ s2.length c7_] 27 (0, 0))) := ⟨blk_below (by first | exact heap_alloc_new _ _ | (have h_ := heap_alloc_new (w5.alloc (.cells #[.int .i64 s1, .slice A7_ s2.length c7_] 27)) (.cells #[.int .i64 s1, .slice A7_ s2.length c7_] 27); simpa using h_)) hb⟩
 have ZL9 := Aside0.mk (show hi7 ≤ w5.heap.size from ZC.out)
 clear ZC
 have ZC : Aside0 (w5.heap.size + 1 ≤ w6.heap.size) := ⟨by have := hb.size; simpa using this⟩
 have nZC := ZC
 have nHB : Aside0 (Below w.heap.size w w6) := ⟨bel_then HB.out ST⟩
 have nHO2 := Aside0.mk (Kd.S_below HO2.out ST)
 have nHO3 := Aside0.mk (Kd.R_below HO3.out ST)
 have nHO5 := Aside0.mk (Kd.S_below HO5.out ST)
 have nHO7 := Aside0.mk (Kd.S_below HO7.out ST)
 have nHO8 := Aside0.mk (Kd.R_below HO8.out ST)
 have nBX0 := Aside0.mk (blk_below BX0.out ST)
 have nBX1 := Aside0.mk (blk_below BX1.out ST)
 have nBX2 := Aside0.mk (blk_below BX2.out ST)
 clear HB ZC HO2 HO3 HO5 HO7 HO8 BX0 BX1 BX2 ST hb
 have HB := nHB
 clear nHB
 have ZC := nZC
 clear nZC
 have HO2 := nHO2
 clear nHO2
 have HO3 := nHO3
 clear nHO3
 have HO5 := nHO5
 clear nHO5
 have HO7 := nHO7
 clear nHO7
 have HO8 := nHO8
 clear nHO8
 have BX0 := nBX0
 clear nBX0
 have BX1 := nBX1
 clear nBX1
 have BX2 := nBX2
 clear nBX2
 have BX3 := mBX3
 clear mBX3
 have zc0_0 : w6.cell? ⟨w.heap.size, 0, none⟩ = some (.int .i64 a0_0) := (blk_cell BX0.out 0).trans rfl
 have zc0_1 : w6.cell? ⟨w.heap.size, 1, none⟩ = some (.slice A0_1 l0_1.length c0_1) := (blk_cell BX0.out 1).trans rfl
 have zc1_0 : w6.cell? ⟨w3.heap.size, 0, none⟩ = some (.int .i64 s1) := (blk_cell BX1.out 0).trans rfl
 have zc1_1 : w6.cell? ⟨w3.heap.size, 1, none⟩ = some (.slice A2_ s2.length c2_) := (blk_cell BX1.out 1).trans rfl
 have zc2_0 : w6.cell? ⟨w4.heap.size, 0, none⟩ = some (.int .i64 x1) := (blk_cell BX2.out 0).trans rfl
 have zc2_1 : w6.cell? ⟨w4.heap.size, 1, none⟩ = some (.slice A5_ x2.length c5_) := (blk_cell BX2.out 1).trans rfl
 have zc3_0 : w6.cell? ⟨w5.heap.size, 0, none⟩ = some (.int .i64 s1) := (blk_cell BX3.out 0).trans rfl
 have zc3_1 : w6.cell? ⟨w5.heap.size, 1, none⟩ = some (.slice A7_ s2.length c7_) := (blk_cell BX3.out 1).trans rfl
 go_wp2_with fail
 refine (laws_eqIntS.calls k _ _ s3 _ _ s3 true _ (law_C HO8.out (by repeat (first | exact Below.refl _ _ | apply below_alloc | apply pw_below_drewN | apply below_drew1))) (law_c HO8.out) (law_C HO3.out (by repeat (first | exact Below.refl _ _ | apply below_alloc | apply pw_below_drewN | apply below_drew1))) (law_c HO3.out) HE2.out).mono ?_
 rintro e w7 ⟨rfl, hd⟩
 have hb := hd.below
 clear zc0_0 zc0_1 zc1_0 zc1_1 zc2_0 zc2_1 zc3_0 zc3_1
 have ST : Below w6.heap.size w6 w7 := bel_then (by repeat (first | exact Below.refl _ _ | apply below_alloc | apply pw_below_drewN | apply below_drew1)) hb
 have nZC := Aside0.mk (Nat.le_trans ZC.out ST.size)
 have nHB : Aside0 (Below w.heap.size w w7) := ⟨bel_then HB.out ST⟩
 have nHO2 := Aside0.mk (Kd.S_below HO2.out ST)
 have nHO3 := Aside0.mk (Kd.R_below HO3.out ST)
 have nHO5 := Aside0.mk (Kd.S_below HO5.out ST)
 have nHO7 := Aside0.mk (Kd.S_below HO7.out ST)
 have nHO8 := Aside0.mk (Kd.R_below HO8.out ST)
 have nBX0 := Aside0.mk (blk_below BX0.out ST)
 have nBX1 := Aside0.mk (blk_below BX1.out ST)
 have nBX2 := Aside0.mk (blk_below BX2.out ST)
 have nBX3 := Aside0.mk (blk_below BX3.out ST)
 clear HB ZC HO2 HO3 HO5 HO7 HO8 BX0 BX1 BX2 BX3 ST hb hd
 have HB := nHB
 clear nHB
 have ZC := nZC
 clear nZC
 have HO2 := nHO2
 clear nHO2
 have HO3 := nHO3
 clear nHO3
 have HO5 := nHO5
 clear nHO5
 have HO7 := nHO7
 clear nHO7
 have HO8 := nHO8
 clear nHO8
 have BX0 := nBX0
 clear nBX0
 have BX1 := nBX1
 clear nBX1
 have BX2 := nBX2
 clear nBX2
 have BX3 := nBX3
 clear nBX3
 have zc0_0 : w7.cell? ⟨w.heap.size, 0, none⟩ = some (.int .i64 a0_0) := (blk_cell BX0.out 0).trans rfl
 have zc0_1 : w7.cell? ⟨w.heap.size, 1, none⟩ = some (.slice A0_1 l0_1.length c0_1) := (blk_cell BX0.out 1).trans rfl
 have zc1_0 : w7.cell? ⟨w3.heap.size, 0, none⟩ = some (.int .i64 s1) := (blk_cell BX1.out 0).trans rfl
 have zc1_1 : w7.cell? ⟨w3.heap.size, 1, none⟩ = some (.slice A2_ s2.length c2_) := (blk_cell BX1.out 1).trans rfl
 have zc2_0 : w7.cell? ⟨w4.heap.size, 0, none⟩ = some (.int .i64 x1) := (blk_cell BX2.out 0).trans rfl
 have zc2_1 : w7.cell? ⟨w4.heap.size, 1, none⟩ = some (.slice A5_ x2.length c5_) := (blk_cell BX2.out 1).trans rfl
 have zc3_0 : w7.cell? ⟨w5.heap.size, 0, none⟩ = some (.int .i64 s1) := (blk_cell BX3.out 0).trans rfl
 have zc3_1 : w7.cell? ⟨w5.heap.size, 1, none⟩ = some (.slice A7_ s2.length c7_) := (blk_cell BX3.out 1).trans rfl
 try go_wp2
 clear zc0_0 zc0_1 zc1_0 zc1_1 zc2_0 zc2_1 zc3_0 zc3_1
 refine start_ (n := 5) (S := fun w' => w'.cell? ⟨w.heap.size, 0, none⟩ = some (.int .i64 a0_0) ∧ w'.cell? ⟨w.heap.size, 1, none⟩ = some (.slice A0_1 l0_1.length c0_1) ∧ w'.cell? ⟨w3.heap.size, 0, none⟩ = some (.int .i64 s1) ∧ w'.cell? ⟨w3.heap.size, 1, none⟩ = some (.slice A2_ s2.length c2_) ∧ w'.cell? ⟨w4.heap.size, 0, none⟩ = some (.int .i64 x1) ∧ w'.cell? ⟨w4.heap.size, 1, none⟩ = some (.slice A5_ x2.length c5_) ∧ w'.cell? ⟨w5.heap.size, 0, none⟩ = some (.int .i64 s1) ∧ w'.cell? ⟨w5.heap.size, 1, none⟩ = some (.slice A7_ s2.length c7_)) (ds := []) #[false, false, false, false, false] (by kernel_rfl) rfl rfl ⟨(blk_cell BX0.out 0).trans rfl, (blk_cell BX0.out 1).trans rfl, (blk_cell BX1.out 0).trans rfl, (blk_cell BX1.out 1).trans rfl, (blk_cell BX2.out 0).trans rfl, (blk_cell BX2.out 1).trans rfl, (blk_cell BX3.out 0).trans rfl, (blk_cell BX3.out 1).trans rfl⟩ (fun hHeld => ?_)
 refine take_ (i := 0) (N := some 66) (v := ?_) (a' := ?_) #[true, false, false, false, false] rfl rfl (by kernel_rfl) (fun _ _ _ h => h) (Or.inl ⟨by rfl, ?_⟩) hHeld ?_ ?_
 rotate_left
 ·rintro w' ⟨s0, s1, s2, s3, s4, s5, s6, s7⟩
  go_simp
  with_reducible rfl
 rotate_left
 ·simp only [Act.put, List.setIfInBounds_toArray, List.set_cons_zero, List.set_cons_succ, i64_w, i32_w]
  rfl
 refine take_ (i := 1) (N := some 67) (v := ?_) (a' := ?_) #[true, true, false, false, false] rfl rfl (by kernel_rfl) (fun _ _ _ h => h) (Or.inl ⟨by rfl, ?_⟩) hHeld ?_ ?_
 rotate_left
 ·rintro w' ⟨s0, s1, s2, s3, s4, s5, s6, s7⟩
  go_simp
  with_reducible rfl
 rotate_left
 ·simp only [Act.put, List.setIfInBounds_toArray, List.set_cons_zero, List.set_cons_succ, i64_w, i32_w]
  rfl
 refine one_ (i := 2) (N := some 68) #[true, true, true, false, false] rfl rfl (by kernel_rfl) (by decide) (fun K hK => ?_)
 refine goes_ Try.func20 (by kernel_rfl) rfl #[.agg #[.int .i64 a0_0, .slice A0_1 l0_1.length c0_1]] (by rfl) rfl rfl (by (try simp only [List.map_toArray, List.map_cons, List.map_nil]); first | done | rfl | (simp only [List.length_drop, List.length_take]; rfl)) ?_
 refine (laws_toWheel.calls k a0_0 _ _ l0_1 x1 x2 _ (Kd.C_below HR0_1.out (bel_then HB.out (by repeat (first | exact Below.refl _ _ | apply below_alloc | apply pw_below_drewN | apply below_drew1)))) HC0_1.out HX.out).mono ?_
 rintro e w8 ⟨v, rfl, hr, hb⟩
 refine ⟨_, rfl, ?_⟩
 have ST : Below w7.heap.size w7 w8 := bel_then (by repeat (first | exact Below.refl _ _ | apply below_alloc | apply pw_below_drewN | apply below_drew1)) hb
 obtain ⟨lo10, hi10, A10_, c10_, hz10, hc10, rfl, ho10⟩ := law_madeS (n := (w5.heap.size + 1)) hr hb ZC.out (by repeat (first | exact Below.refl _ _ | apply below_alloc | apply pw_below_drewN | apply below_drew1))
 have ZL10 := Aside0.mk hz10
 have HO10 := Aside0.mk ho10
 clear ho10 hz10
 have nZC := Aside0.mk hc10
 clear hc10
 have nHB : Aside0 (Below w.heap.size w w8) := ⟨bel_then HB.out ST⟩
 have nHO2 := Aside0.mk (Kd.S_below HO2.out ST)
 have nHO3 := Aside0.mk (Kd.R_below HO3.out ST)
 have nHO5 := Aside0.mk (Kd.S_below HO5.out ST)
 have nHO7 := Aside0.mk (Kd.S_below HO7.out ST)
 have nHO8 := Aside0.mk (Kd.R_below HO8.out ST)
 have nBX0 := Aside0.mk (blk_below BX0.out ST)
 have nBX1 := Aside0.mk (blk_below BX1.out ST)
 have nBX2 := Aside0.mk (blk_below BX2.out ST)
 have nBX3 := Aside0.mk (blk_below BX3.out ST)
 clear HB ZC HO2 HO3 HO5 HO7 HO8 BX0 BX1 BX2 BX3 ST hb hr
 have HB := nHB
 clear nHB
 have ZC := nZC
 clear nZC
 have HO2 := nHO2
 clear nHO2
 have HO3 := nHO3
 clear nHO3
 have HO5 := nHO5
 clear nHO5
 have HO7 := nHO7
 clear nHO7
 have HO8 := nHO8
 clear nHO8
 have BX0 := nBX0
 clear nBX0
 have BX1 := nBX1
 clear nBX1
 have BX2 := nBX2
 clear nBX2
 have BX3 := nBX3
 clear nBX3
 refine hK.out _ _ ⟨(blk_cell BX0.out 0).trans rfl, (blk_cell BX0.out 1).trans rfl, (blk_cell BX1.out 0).trans rfl, (blk_cell BX1.out 1).trans rfl, (blk_cell BX2.out 0).trans rfl, (blk_cell BX2.out 1).trans rfl, (blk_cell BX3.out 0).trans rfl, (blk_cell BX3.out 1).trans rfl⟩ (fun hHeld => ?_)
 clear hK K
 refine norm_ (a' := ?_) ?_ ?_
 rotate_left
 ·show Act.put _ (some 68) _ = _
  simp only [Act.put, List.setIfInBounds_toArray, List.set_cons_zero, List.set_cons_succ, i64_w, i32_w]
  rfl
 refine one_ (i := 3) (N := some 69) #[true, true, true, true, false] rfl rfl (by kernel_rfl) (by decide) (fun K hK => ?_)
 refine goes_ Try.func15 (by kernel_rfl) rfl #[.agg #[.int .i64 x1, .slice A5_ x2.length c5_], .agg #[.int .i64 x1, .slice A10_ x2.length c10_]] (by rfl) rfl rfl (by (try simp only [List.map_toArray, List.map_cons, List.map_nil]); first | done | rfl | (simp only [List.length_drop, List.length_take]; rfl)) ?_
 refine (laws_eqWheel.calls k x1 _ _ x2 x1 _ _ x2 true _ (law_C (Kd.S_R HO5.out) (by repeat (first | exact Below.refl _ _ | apply below_alloc | apply pw_below_drewN | apply below_drew1))) (law_c (Kd.S_R HO5.out)) (law_C (Kd.S_R HO10.out) (by repeat (first | exact Below.refl _ _ | apply below_alloc | apply pw_below_drewN | apply below_drew1))) (law_c (Kd.S_R HO10.out)) HE1.out).mono ?_
 rintro e w9 ⟨rfl, hb⟩
 refine ⟨_, rfl, ?_⟩
 have ST : Below w8.heap.size w8 w9 := bel_then (by repeat (first | exact Below.refl _ _ | apply below_alloc | apply pw_below_drewN | apply below_drew1)) hb
 have nZC := Aside0.mk (Nat.le_trans ZC.out ST.size)
 have nHB : Aside0 (Below w.heap.size w w9) := ⟨bel_then HB.out ST⟩
 have nHO2 := Aside0.mk (Kd.S_below HO2.out ST)
 have nHO3 := Aside0.mk (Kd.R_below HO3.out ST)
 have nHO5 := Aside0.mk (Kd.S_below HO5.out ST)
 have nHO7 := Aside0.mk (Kd.S_below HO7.out ST)
 have nHO8 := Aside0.mk (Kd.R_below HO8.out ST)
 have nHO10 := Aside0.mk (Kd.S_below HO10.out ST)
 have nBX0 := Aside0.mk (blk_below BX0.out ST)
 have nBX1 := Aside0.mk (blk_below BX1.out ST)
 have nBX2 := Aside0.mk (blk_below BX2.out ST)
 have nBX3 := Aside0.mk (blk_below BX3.out ST)
 clear HB ZC HO2 HO3 HO5 HO7 HO8 HO10 BX0 BX1 BX2 BX3 ST hb
 have HB := nHB
 clear nHB
 have ZC := nZC
 clear nZC
 have HO2 := nHO2
 clear nHO2
 have HO3 := nHO3
 clear nHO3
 have HO5 := nHO5
 clear nHO5
 have HO7 := nHO7
 clear nHO7
 have HO8 := nHO8
 clear nHO8
 have HO10 := nHO10
 clear nHO10
 have BX0 := nBX0
 clear nBX0
 have BX1 := nBX1
 clear nBX1
 have BX2 := nBX2
 clear nBX2
 have BX3 := nBX3
 clear nBX3
 refine hK.out _ _ ⟨(blk_cell BX0.out 0).trans rfl, (blk_cell BX0.out 1).trans rfl, (blk_cell BX1.out 0).trans rfl, (blk_cell BX1.out 1).trans rfl, (blk_cell BX2.out 0).trans rfl, (blk_cell BX2.out 1).trans rfl, (blk_cell BX3.out 0).trans rfl, (blk_cell BX3.out 1).trans rfl⟩ (fun hHeld => ?_)
 clear hK K
 refine norm_ (a' := ?_) ?_ ?_
 rotate_left
 ·show Act.put _ (some 69) _ = _
  simp only [Act.put, List.setIfInBounds_toArray, List.set_cons_zero, List.set_cons_succ, i64_w, i32_w]
  rfl
 refine pure_ (i := 4) (N := some 70) (v := ?_) (a' := ?_) #[true, true, true, true, true] rfl rfl (by kernel_rfl) (fun _ _ _ h => h) (Or.inl ⟨by rfl, ?_⟩) ?_ ?_
 rotate_left
 ·intro w'
  go_simp
  with_reducible rfl
 rotate_left
 ·simp only [Act.put, List.setIfInBounds_toArray, List.set_cons_zero, List.set_cons_succ, i64_w, i32_w]
  rfl
 refine done_ (by kernel_rfl) ?_
 clear hHeld
 clear HO10
 have zc0_0 : w9.cell? ⟨w.heap.size, 0, none⟩ = some (.int .i64 a0_0) := (blk_cell BX0.out 0).trans rfl
 have zc0_1 : w9.cell? ⟨w.heap.size, 1, none⟩ = some (.slice A0_1 l0_1.length c0_1) := (blk_cell BX0.out 1).trans rfl
 have zc1_0 : w9.cell? ⟨w3.heap.size, 0, none⟩ = some (.int .i64 s1) := (blk_cell BX1.out 0).trans rfl
 have zc1_1 : w9.cell? ⟨w3.heap.size, 1, none⟩ = some (.slice A2_ s2.length c2_) := (blk_cell BX1.out 1).trans rfl
 have zc2_0 : w9.cell? ⟨w4.heap.size, 0, none⟩ = some (.int .i64 x1) := (blk_cell BX2.out 0).trans rfl
 have zc2_1 : w9.cell? ⟨w4.heap.size, 1, none⟩ = some (.slice A5_ x2.length c5_) := (blk_cell BX2.out 1).trans rfl
 have zc3_0 : w9.cell? ⟨w5.heap.size, 0, none⟩ = some (.int .i64 s1) := (blk_cell BX3.out 0).trans rfl
 have zc3_1 : w9.cell? ⟨w5.heap.size, 1, none⟩ = some (.slice A7_ s2.length c7_) := (blk_cell BX3.out 1).trans rfl
 go_wp2_with fail
 refine (shMarkWheel.calls k (fun k => lo5 ≤ k ∧ k < hi5) x1 _ _ _ x2 1 _ mx2 w _ (bel_then HB.out (by repeat (first | exact Below.refl _ _ | apply below_alloc | apply pw_below_drewN | apply below_drew1))) (Kd.S_lower (Kd.S_below HO5.out (by repeat (first | exact Below.refl _ _ | apply below_alloc | apply pw_below_drewN | apply below_drew1))) (by have := ZL1.out; have := ZL2.out; have := ZL4.out; have := ZL5.out; have := ZL6.out; have := ZL7.out; have := ZL9.out; have := ZL10.out; have := ZC.out; have := ZW.out; omega)) HMX.out).mono ?_
 rintro e w10 ⟨rfl, hr, hb, hk⟩
 clear zc0_0 zc0_1 zc1_0 zc1_1 zc2_0 zc2_1 zc3_0 zc3_1
 have KP : Kept w9 w10 (fun k => lo5 ≤ k ∧ k < hi5) := law_kept (by repeat (first | exact Below.refl _ _ | apply below_alloc | apply pw_below_drewN | apply below_drew1)) hk
 have nZC := Aside0.mk (Nat.le_trans ZC.out KP.1)
 have nHB : Aside0 (Below w.heap.size w w10) := ⟨hb⟩
 have nHO2 := Aside0.mk (Kd.S_kept HO2.out KP (fun k h1 h2 => by have := ZL1.out; have := ZL2.out; have := ZL4.out; have := ZL5.out; have := ZL6.out; have := ZL7.out; have := ZL9.out; have := ZL10.out; have := ZC.out; have := ZW.out; omega))
 have nHO3 := Aside0.mk (Kd.R_kept HO3.out KP (fun k h1 h2 => by have := ZL1.out; have := ZL2.out; have := ZL4.out; have := ZL5.out; have := ZL6.out; have := ZL7.out; have := ZL9.out; have := ZL10.out; have := ZC.out; have := ZW.out; omega))
 have nHO7 := Aside0.mk (Kd.S_kept HO7.out KP (fun k h1 h2 => by have := ZL1.out; have := ZL2.out; have := ZL4.out; have := ZL5.out; have := ZL6.out; have := ZL7.out; have := ZL9.out; have := ZL10.out; have := ZC.out; have := ZW.out; omega))
 have nHO8 := Aside0.mk (Kd.R_kept HO8.out KP (fun k h1 h2 => by have := ZL1.out; have := ZL2.out; have := ZL4.out; have := ZL5.out; have := ZL6.out; have := ZL7.out; have := ZL9.out; have := ZL10.out; have := ZC.out; have := ZW.out; omega))
 have nHO5 := Aside0.mk hr
 have nBX0 := Aside0.mk (blk_kept BX0.out KP (fun h2 => by have := ZL1.out; have := ZL2.out; have := ZL4.out; have := ZL5.out; have := ZL6.out; have := ZL7.out; have := ZL9.out; have := ZL10.out; have := ZC.out; have := ZW.out; omega))
 have nBX1 := Aside0.mk (blk_kept BX1.out KP (fun h2 => by have := ZL1.out; have := ZL2.out; have := ZL4.out; have := ZL5.out; have := ZL6.out; have := ZL7.out; have := ZL9.out; have := ZL10.out; have := ZC.out; have := ZW.out; omega))
 have nBX2 := Aside0.mk (blk_kept BX2.out KP (fun h2 => by have := ZL1.out; have := ZL2.out; have := ZL4.out; have := ZL5.out; have := ZL6.out; have := ZL7.out; have := ZL9.out; have := ZL10.out; have := ZC.out; have := ZW.out; omega))
 have nBX3 := Aside0.mk (blk_kept BX3.out KP (fun h2 => by have := ZL1.out; have := ZL2.out; have := ZL4.out; have := ZL5.out; have := ZL6.out; have := ZL7.out; have := ZL9.out; have := ZL10.out; have := ZC.out; have := ZW.out; omega))
 clear HB ZC HO2 HO3 HO5 HO7 HO8 BX0 BX1 BX2 BX3 KP hb hr hk
 have HB := nHB
 clear nHB
 have ZC := nZC
 clear nZC
 have HO2 := nHO2
 clear nHO2
 have HO3 := nHO3
 clear nHO3
 have HO7 := nHO7
 clear nHO7
 have HO8 := nHO8
 clear nHO8
 have HO5 := nHO5
 clear nHO5
 have BX0 := nBX0
 clear nBX0
 have BX1 := nBX1
 clear nBX1
 have BX2 := nBX2
 clear nBX2
 have BX3 := nBX3
 clear nBX3
 clear HO5
 have zc0_0 : w10.cell? ⟨w.heap.size, 0, none⟩ = some (.int .i64 a0_0) := (blk_cell BX0.out 0).trans rfl
 have zc0_1 : w10.cell? ⟨w.heap.size, 1, none⟩ = some (.slice A0_1 l0_1.length c0_1) := (blk_cell BX0.out 1).trans rfl
 have zc1_0 : w10.cell? ⟨w3.heap.size, 0, none⟩ = some (.int .i64 s1) := (blk_cell BX1.out 0).trans rfl
 have zc1_1 : w10.cell? ⟨w3.heap.size, 1, none⟩ = some (.slice A2_ s2.length c2_) := (blk_cell BX1.out 1).trans rfl
 have zc2_0 : w10.cell? ⟨w4.heap.size, 0, none⟩ = some (.int .i64 x1) := (blk_cell BX2.out 0).trans rfl
 have zc2_1 : w10.cell? ⟨w4.heap.size, 1, none⟩ = some (.slice A5_ x2.length c5_) := (blk_cell BX2.out 1).trans rfl
 have zc3_0 : w10.cell? ⟨w5.heap.size, 0, none⟩ = some (.int .i64 s1) := (blk_cell BX3.out 0).trans rfl
 have zc3_1 : w10.cell? ⟨w5.heap.size, 1, none⟩ = some (.slice A7_ s2.length c7_) := (blk_cell BX3.out 1).trans rfl
 go_wp2_with fail
 refine (laws_eqWheel.calls k s1 _ _ s2 s1 _ _ s2 true _ (law_C (Kd.S_R HO7.out) (by repeat (first | exact Below.refl _ _ | apply below_alloc | apply pw_below_drewN | apply below_drew1))) (law_c (Kd.S_R HO7.out)) (law_C (Kd.S_R HO2.out) (by repeat (first | exact Below.refl _ _ | apply below_alloc | apply pw_below_drewN | apply below_drew1))) (law_c (Kd.S_R HO2.out)) HE0.out).mono ?_
 rintro e w11 ⟨rfl, hb⟩
 clear zc0_0 zc0_1 zc1_0 zc1_1 zc2_0 zc2_1 zc3_0 zc3_1
 have ST : Below w10.heap.size w10 w11 := bel_then (by repeat (first | exact Below.refl _ _ | apply below_alloc | apply pw_below_drewN | apply below_drew1)) hb
 have nZC := Aside0.mk (Nat.le_trans ZC.out ST.size)
 have nHB : Aside0 (Below w.heap.size w w11) := ⟨bel_then HB.out ST⟩
 have nHO2 := Aside0.mk (Kd.S_below HO2.out ST)
 have nHO3 := Aside0.mk (Kd.R_below HO3.out ST)
 have nHO7 := Aside0.mk (Kd.S_below HO7.out ST)
 have nHO8 := Aside0.mk (Kd.R_below HO8.out ST)
 have nBX0 := Aside0.mk (blk_below BX0.out ST)
 have nBX1 := Aside0.mk (blk_below BX1.out ST)
 have nBX2 := Aside0.mk (blk_below BX2.out ST)
 have nBX3 := Aside0.mk (blk_below BX3.out ST)
 clear HB ZC HO2 HO3 HO7 HO8 BX0 BX1 BX2 BX3 ST hb
 have HB := nHB
 clear nHB
 have ZC := nZC
 clear nZC
 have HO2 := nHO2
 clear nHO2
 have HO3 := nHO3
 clear nHO3
 have HO7 := nHO7
 clear nHO7
 have HO8 := nHO8
 clear nHO8
 have BX0 := nBX0
 clear nBX0
 have BX1 := nBX1
 clear nBX1
 have BX2 := nBX2
 clear nBX2
 have BX3 := nBX3
 clear nBX3
 have zc0_0 : w11.cell? ⟨w.heap.size, 0, none⟩ = some (.int .i64 a0_0) := (blk_cell BX0.out 0).trans rfl
 have zc0_1 : w11.cell? ⟨w.heap.size, 1, none⟩ = some (.slice A0_1 l0_1.length c0_1) := (blk_cell BX0.out 1).trans rfl
 have zc1_0 : w11.cell? ⟨w3.heap.size, 0, none⟩ = some (.int .i64 s1) := (blk_cell BX1.out 0).trans rfl
 have zc1_1 : w11.cell? ⟨w3.heap.size, 1, none⟩ = some (.slice A2_ s2.length c2_) := (blk_cell BX1.out 1).trans rfl
 have zc2_0 : w11.cell? ⟨w4.heap.size, 0, none⟩ = some (.int .i64 x1) := (blk_cell BX2.out 0).trans rfl
 have zc2_1 : w11.cell? ⟨w4.heap.size, 1, none⟩ = some (.slice A5_ x2.length c5_) := (blk_cell BX2.out 1).trans rfl
 have zc3_0 : w11.cell? ⟨w5.heap.size, 0, none⟩ = some (.int .i64 s1) := (blk_cell BX3.out 0).trans rfl
 have zc3_1 : w11.cell? ⟨w5.heap.size, 1, none⟩ = some (.slice A7_ s2.length c7_) := (blk_cell BX3.out 1).trans rfl
 go_wp2_with fail
 refine (laws_eqIntS.calls k _ _ s3 _ _ s3 true _ (law_C HO8.out (by repeat (first | exact Below.refl _ _ | apply below_alloc | apply pw_below_drewN | apply below_drew1))) (law_c HO8.out) (law_C HO3.out (by repeat (first | exact Below.refl _ _ | apply below_alloc | apply pw_below_drewN | apply below_drew1))) (law_c HO3.out) HE2.out).mono ?_
 rintro e w12 ⟨rfl, hd⟩
 have hb := hd.below
 clear zc0_0 zc0_1 zc1_0 zc1_1 zc2_0 zc2_1 zc3_0 zc3_1
 have ST : Below w11.heap.size w11 w12 := bel_then (by repeat (first | exact Below.refl _ _ | apply below_alloc | apply pw_below_drewN | apply below_drew1)) hb
 have nZC := Aside0.mk (Nat.le_trans ZC.out ST.size)
 have nHB : Aside0 (Below w.heap.size w w12) := ⟨bel_then HB.out ST⟩
 have nHO2 := Aside0.mk (Kd.S_below HO2.out ST)
 have nHO3 := Aside0.mk (Kd.R_below HO3.out ST)
 have nHO7 := Aside0.mk (Kd.S_below HO7.out ST)
 have nHO8 := Aside0.mk (Kd.R_below HO8.out ST)
 have nBX0 := Aside0.mk (blk_below BX0.out ST)
 have nBX1 := Aside0.mk (blk_below BX1.out ST)
 have nBX2 := Aside0.mk (blk_below BX2.out ST)
 have nBX3 := Aside0.mk (blk_below BX3.out ST)
 clear HB ZC HO2 HO3 HO7 HO8 BX0 BX1 BX2 BX3 ST hb hd
 have HB := nHB
 clear nHB
 have ZC := nZC
 clear nZC
 have HO2 := nHO2
 clear nHO2
 have HO3 := nHO3
 clear nHO3
 have HO7 := nHO7
 clear nHO7
 have HO8 := nHO8
 clear nHO8
 have BX0 := nBX0
 clear nBX0
 have BX1 := nBX1
 clear nBX1
 have BX2 := nBX2
 clear nBX2
 have BX3 := nBX3
 clear nBX3
 have zc0_0 : w12.cell? ⟨w.heap.size, 0, none⟩ = some (.int .i64 a0_0) := (blk_cell BX0.out 0).trans rfl
 have zc0_1 : w12.cell? ⟨w.heap.size, 1, none⟩ = some (.slice A0_1 l0_1.length c0_1) := (blk_cell BX0.out 1).trans rfl
 have zc1_0 : w12.cell? ⟨w3.heap.size, 0, none⟩ = some (.int .i64 s1) := (blk_cell BX1.out 0).trans rfl
 have zc1_1 : w12.cell? ⟨w3.heap.size, 1, none⟩ = some (.slice A2_ s2.length c2_) := (blk_cell BX1.out 1).trans rfl
 have zc2_0 : w12.cell? ⟨w4.heap.size, 0, none⟩ = some (.int .i64 x1) := (blk_cell BX2.out 0).trans rfl
 have zc2_1 : w12.cell? ⟨w4.heap.size, 1, none⟩ = some (.slice A5_ x2.length c5_) := (blk_cell BX2.out 1).trans rfl
 have zc3_0 : w12.cell? ⟨w5.heap.size, 0, none⟩ = some (.int .i64 s1) := (blk_cell BX3.out 0).trans rfl
 have zc3_1 : w12.cell? ⟨w5.heap.size, 1, none⟩ = some (.slice A7_ s2.length c7_) := (blk_cell BX3.out 1).trans rfl
 go_wp2_with fail
 refine (shMarkWheel.calls k (fun k => (lo7 ≤ k ∧ k < hi7) ∧ ¬ (bl7 ≤ k ∧ k < bh7)) s1 _ _ _ s2 1 _ mk2 w _ (bel_then HB.out (by repeat (first | exact Below.refl _ _ | apply below_alloc | apply pw_below_drewN | apply below_drew1))) (Kd.S_lower (Kd.S_below HO7.out (by repeat (first | exact Below.refl _ _ | apply below_alloc | apply pw_below_drewN | apply below_drew1))) (by have := ZL1.out; have := ZL2.out; have := ZL4.out; have := ZL5.out; have := ZL6.out; have := ZL7.out; have := ZL9.out; have := ZL10.out; have := ZC.out; have := ZW.out; omega)) HMK.out).mono ?_
 rintro e w13 ⟨rfl, hr, hb, hk⟩
 clear zc0_0 zc0_1 zc1_0 zc1_1 zc2_0 zc2_1 zc3_0 zc3_1
 have KP : Kept w12 w13 (fun k => (lo7 ≤ k ∧ k < hi7) ∧ ¬ (bl7 ≤ k ∧ k < bh7)) := law_kept (by repeat (first | exact Below.refl _ _ | apply below_alloc | apply pw_below_drewN | apply below_drew1)) hk
 have nZC := Aside0.mk (Nat.le_trans ZC.out KP.1)
 have nHB : Aside0 (Below w.heap.size w w13) := ⟨hb⟩
 have nHO2 := Aside0.mk (Kd.S_kept HO2.out KP (fun k h1 h2 => by have := ZL1.out; have := ZL2.out; have := ZL4.out; have := ZL5.out; have := ZL6.out; have := ZL7.out; have := ZL9.out; have := ZL10.out; have := ZC.out; have := ZW.out; omega))
 have nHO3 := Aside0.mk (Kd.R_kept HO3.out KP (fun k h1 h2 => by have := ZL1.out; have := ZL2.out; have := ZL4.out; have := ZL5.out; have := ZL6.out; have := ZL7.out; have := ZL9.out; have := ZL10.out; have := ZC.out; have := ZW.out; omega))
 have nHO8 := Aside0.mk (Kd.R_kept HO8.out KP (fun k h1 h2 => by have := ZL1.out; have := ZL2.out; have := ZL4.out; have := ZL5.out; have := ZL6.out; have := ZL7.out; have := ZL9.out; have := ZL10.out; have := ZC.out; have := ZW.out; omega))
 have nHO7 := Aside0.mk hr
 have nBX0 := Aside0.mk (blk_kept BX0.out KP (fun h2 => by have := ZL1.out; have := ZL2.out; have := ZL4.out; have := ZL5.out; have := ZL6.out; have := ZL7.out; have := ZL9.out; have := ZL10.out; have := ZC.out; have := ZW.out; omega))
 have nBX1 := Aside0.mk (blk_kept BX1.out KP (fun h2 => by have := ZL1.out; have := ZL2.out; have := ZL4.out; have := ZL5.out; have := ZL6.out; have := ZL7.out; have := ZL9.out; have := ZL10.out; have := ZC.out; have := ZW.out; omega))
 have nBX2 := Aside0.mk (blk_kept BX2.out KP (fun h2 => by have := ZL1.out; have := ZL2.out; have := ZL4.out; have := ZL5.out; have := ZL6.out; have := ZL7.out; have := ZL9.out; have := ZL10.out; have := ZC.out; have := ZW.out; omega))
 have nBX3 := Aside0.mk (blk_kept BX3.out KP (fun h2 => by have := ZL1.out; have := ZL2.out; have := ZL4.out; have := ZL5.out; have := ZL6.out; have := ZL7.out; have := ZL9.out; have := ZL10.out; have := ZC.out; have := ZW.out; omega))
 clear HB ZC HO2 HO3 HO7 HO8 BX0 BX1 BX2 BX3 KP hb hr hk
 have HB := nHB
 clear nHB
 have ZC := nZC
 clear nZC
 have HO2 := nHO2
 clear nHO2
 have HO3 := nHO3
 clear nHO3
 have HO8 := nHO8
 clear nHO8
 have HO7 := nHO7
 clear nHO7
 have BX0 := nBX0
 clear nBX0
 have BX1 := nBX1
 clear nBX1
 have BX2 := nBX2
 clear nBX2
 have BX3 := nBX3
 clear nBX3
 have zc0_0 : w13.cell? ⟨w.heap.size, 0, none⟩ = some (.int .i64 a0_0) := (blk_cell BX0.out 0).trans rfl
 have zc0_1 : w13.cell? ⟨w.heap.size, 1, none⟩ = some (.slice A0_1 l0_1.length c0_1) := (blk_cell BX0.out 1).trans rfl
 have zc1_0 : w13.cell? ⟨w3.heap.size, 0, none⟩ = some (.int .i64 s1) := (blk_cell BX1.out 0).trans rfl
 have zc1_1 : w13.cell? ⟨w3.heap.size, 1, none⟩ = some (.slice A2_ s2.length c2_) := (blk_cell BX1.out 1).trans rfl
 have zc2_0 : w13.cell? ⟨w4.heap.size, 0, none⟩ = some (.int .i64 x1) := (blk_cell BX2.out 0).trans rfl
 have zc2_1 : w13.cell? ⟨w4.heap.size, 1, none⟩ = some (.slice A5_ x2.length c5_) := (blk_cell BX2.out 1).trans rfl
 have zc3_0 : w13.cell? ⟨w5.heap.size, 0, none⟩ = some (.int .i64 s1) := (blk_cell BX3.out 0).trans rfl
 have zc3_1 : w13.cell? ⟨w5.heap.size, 1, none⟩ = some (.slice A7_ s2.length c7_) := (blk_cell BX3.out 1).trans rfl
 go_wp2_with fail
 refine (laws_markIntS.calls k (fun k => bl7 ≤ k ∧ k < bh7) _ s3 _ _ mi2 w _ (bel_then HB.out (by repeat (first | exact Below.refl _ _ | apply below_alloc | apply pw_below_drewN | apply below_drew1))) (Kd.R_lower (Kd.R_below HO8.out (by repeat (first | exact Below.refl _ _ | apply below_alloc | apply pw_below_drewN | apply below_drew1))) (by have := ZL1.out; have := ZL2.out; have := ZL4.out; have := ZL5.out; have := ZL6.out; have := ZL7.out; have := ZL9.out; have := ZL10.out; have := ZC.out; have := ZW.out; omega)) HMI.out).mono ?_
 rintro e w14 ⟨rfl, hr, hb, hk⟩
 clear zc0_0 zc0_1 zc1_0 zc1_1 zc2_0 zc2_1 zc3_0 zc3_1
 have KP : Kept w13 w14 (fun k => bl7 ≤ k ∧ k < bh7) := law_kept (by repeat (first | exact Below.refl _ _ | apply below_alloc | apply pw_below_drewN | apply below_drew1)) hk
 have nZC := Aside0.mk (Nat.le_trans ZC.out KP.1)
 have nHB : Aside0 (Below w.heap.size w w14) := ⟨hb⟩
 have nHO2 := Aside0.mk (Kd.S_kept HO2.out KP (fun k h1 h2 => by have := ZL1.out; have := ZL2.out; have := ZL4.out; have := ZL5.out; have := ZL6.out; have := ZL7.out; have := ZL9.out; have := ZL10.out; have := ZC.out; have := ZW.out; omega))
 have nHO3 := Aside0.mk (Kd.R_kept HO3.out KP (fun k h1 h2 => by have := ZL1.out; have := ZL2.out; have := ZL4.out; have := ZL5.out; have := ZL6.out; have := ZL7.out; have := ZL9.out; have := ZL10.out; have := ZC.out; have := ZW.out; omega))
 have nHO7 := Aside0.mk (Kd.S_kept HO7.out KP (fun k h1 h2 => by have := ZL1.out; have := ZL2.out; have := ZL4.out; have := ZL5.out; have := ZL6.out; have := ZL7.out; have := ZL9.out; have := ZL10.out; have := ZC.out; have := ZW.out; omega))
 have nHO8 := Aside0.mk (law_marked rfl HO8.out hr)
 have nBX0 := Aside0.mk (blk_kept BX0.out KP (fun h2 => by have := ZL1.out; have := ZL2.out; have := ZL4.out; have := ZL5.out; have := ZL6.out; have := ZL7.out; have := ZL9.out; have := ZL10.out; have := ZC.out; have := ZW.out; omega))
 have nBX1 := Aside0.mk (blk_kept BX1.out KP (fun h2 => by have := ZL1.out; have := ZL2.out; have := ZL4.out; have := ZL5.out; have := ZL6.out; have := ZL7.out; have := ZL9.out; have := ZL10.out; have := ZC.out; have := ZW.out; omega))
 have nBX2 := Aside0.mk (blk_kept BX2.out KP (fun h2 => by have := ZL1.out; have := ZL2.out; have := ZL4.out; have := ZL5.out; have := ZL6.out; have := ZL7.out; have := ZL9.out; have := ZL10.out; have := ZC.out; have := ZW.out; omega))
 have nBX3 := Aside0.mk (blk_kept BX3.out KP (fun h2 => by have := ZL1.out; have := ZL2.out; have := ZL4.out; have := ZL5.out; have := ZL6.out; have := ZL7.out; have := ZL9.out; have := ZL10.out; have := ZC.out; have := ZW.out; omega))
 clear HB ZC HO2 HO3 HO7 HO8 BX0 BX1 BX2 BX3 KP hb hr hk
 have HB := nHB
 clear nHB
 have ZC := nZC
 clear nZC
 have HO2 := nHO2
 clear nHO2
 have HO3 := nHO3
 clear nHO3
 have HO7 := nHO7
 clear nHO7
 have HO8 := nHO8
 clear nHO8
 have BX0 := nBX0
 clear nBX0
 have BX1 := nBX1
 clear nBX1
 have BX2 := nBX2
 clear nBX2
 have BX3 := nBX3
 clear nBX3
 have zc0_0 : w14.cell? ⟨w.heap.size, 0, none⟩ = some (.int .i64 a0_0) := (blk_cell BX0.out 0).trans rfl
 have zc0_1 : w14.cell? ⟨w.heap.size, 1, none⟩ = some (.slice A0_1 l0_1.length c0_1) := (blk_cell BX0.out 1).trans rfl
 have zc1_0 : w14.cell? ⟨w3.heap.size, 0, none⟩ = some (.int .i64 s1) := (blk_cell BX1.out 0).trans rfl
 have zc1_1 : w14.cell? ⟨w3.heap.size, 1, none⟩ = some (.slice A2_ s2.length c2_) := (blk_cell BX1.out 1).trans rfl
 have zc2_0 : w14.cell? ⟨w4.heap.size, 0, none⟩ = some (.int .i64 x1) := (blk_cell BX2.out 0).trans rfl
 have zc2_1 : w14.cell? ⟨w4.heap.size, 1, none⟩ = some (.slice A5_ x2.length c5_) := (blk_cell BX2.out 1).trans rfl
 have zc3_0 : w14.cell? ⟨w5.heap.size, 0, none⟩ = some (.int .i64 s1) := (blk_cell BX3.out 0).trans rfl
 have zc3_1 : w14.cell? ⟨w5.heap.size, 1, none⟩ = some (.slice A7_ s2.length c7_) := (blk_cell BX3.out 1).trans rfl
 go_wp2_with fail
 refine (lawHeldWheel.calls k s1 _ _ s2.length mk2 1 _ _ (Kd.R_reads' (Kd.S_R HO7.out)).1 (law_C0 (Kd.S_R HO7.out) (by repeat (first | exact Below.refl _ _ | apply below_alloc | apply pw_below_drewN | apply below_drew1))) (law_c0 (Kd.S_R HO7.out)) HQ.out).mono ?_
 rintro e w15 ⟨rfl, hb⟩
 clear zc0_0 zc0_1 zc1_0 zc1_1 zc2_0 zc2_1 zc3_0 zc3_1
 have ST : Below w14.heap.size w14 w15 := bel_then (by repeat (first | exact Below.refl _ _ | apply below_alloc | apply pw_below_drewN | apply below_drew1)) hb
 have nZC := Aside0.mk (Nat.le_trans ZC.out ST.size)
 have nHB : Aside0 (Below w.heap.size w w15) := ⟨bel_then HB.out ST⟩
 have nHO2 := Aside0.mk (Kd.S_below HO2.out ST)
 have nHO3 := Aside0.mk (Kd.R_below HO3.out ST)
 have nHO7 := Aside0.mk (Kd.S_below HO7.out ST)
 have nHO8 := Aside0.mk (Kd.R_below HO8.out ST)
 have nBX0 := Aside0.mk (blk_below BX0.out ST)
 have nBX1 := Aside0.mk (blk_below BX1.out ST)
 have nBX2 := Aside0.mk (blk_below BX2.out ST)
 have nBX3 := Aside0.mk (blk_below BX3.out ST)
 clear HB ZC HO2 HO3 HO7 HO8 BX0 BX1 BX2 BX3 ST hb
 have HB := nHB
 clear nHB
 have ZC := nZC
 clear nZC
 have HO2 := nHO2
 clear nHO2
 have HO3 := nHO3
 clear nHO3
 have HO7 := nHO7
 clear nHO7
 have HO8 := nHO8
 clear nHO8
 have BX0 := nBX0
 clear nBX0
 have BX1 := nBX1
 clear nBX1
 have BX2 := nBX2
 clear nBX2
 have BX3 := nBX3
 clear nBX3
 have zc0_0 : w15.cell? ⟨w.heap.size, 0, none⟩ = some (.int .i64 a0_0) := (blk_cell BX0.out 0).trans rfl
 have zc0_1 : w15.cell? ⟨w.heap.size, 1, none⟩ = some (.slice A0_1 l0_1.length c0_1) := (blk_cell BX0.out 1).trans rfl
 have zc1_0 : w15.cell? ⟨w3.heap.size, 0, none⟩ = some (.int .i64 s1) := (blk_cell BX1.out 0).trans rfl
 have zc1_1 : w15.cell? ⟨w3.heap.size, 1, none⟩ = some (.slice A2_ s2.length c2_) := (blk_cell BX1.out 1).trans rfl
 have zc2_0 : w15.cell? ⟨w4.heap.size, 0, none⟩ = some (.int .i64 x1) := (blk_cell BX2.out 0).trans rfl
 have zc2_1 : w15.cell? ⟨w4.heap.size, 1, none⟩ = some (.slice A5_ x2.length c5_) := (blk_cell BX2.out 1).trans rfl
 have zc3_0 : w15.cell? ⟨w5.heap.size, 0, none⟩ = some (.int .i64 s1) := (blk_cell BX3.out 0).trans rfl
 have zc3_1 : w15.cell? ⟨w5.heap.size, 1, none⟩ = some (.slice A7_ s2.length c7_) := (blk_cell BX3.out 1).trans rfl
 go_wp2_with fail
 refine (lawHeldIntS.calls k _ _ s3.length mi2 _ _ _ (Kd.R_reads' HO8.out).1 (law_C0 HO8.out (by repeat (first | exact Below.refl _ _ | apply below_alloc | apply pw_below_drewN | apply below_drew1))) (law_c0 HO8.out) HP.out).mono ?_
 rintro e w16 ⟨rfl, hd⟩
 have hb := hd.below
 clear zc0_0 zc0_1 zc1_0 zc1_1 zc2_0 zc2_1 zc3_0 zc3_1
 have ST : Below w15.heap.size w15 w16 := bel_then (by repeat (first | exact Below.refl _ _ | apply below_alloc | apply pw_below_drewN | apply below_drew1)) hb
 have nZC := Aside0.mk (Nat.le_trans ZC.out ST.size)
 have nHB : Aside0 (Below w.heap.size w w16) := ⟨bel_then HB.out ST⟩
 have nHO2 := Aside0.mk (Kd.S_below HO2.out ST)
 have nHO3 := Aside0.mk (Kd.R_below HO3.out ST)
 have nHO7 := Aside0.mk (Kd.S_below HO7.out ST)
 have nHO8 := Aside0.mk (Kd.R_below HO8.out ST)
 have nBX0 := Aside0.mk (blk_below BX0.out ST)
 have nBX1 := Aside0.mk (blk_below BX1.out ST)
 have nBX2 := Aside0.mk (blk_below BX2.out ST)
 have nBX3 := Aside0.mk (blk_below BX3.out ST)
 clear HB ZC HO2 HO3 HO7 HO8 BX0 BX1 BX2 BX3 ST hb hd
 have HB := nHB
 clear nHB
 have ZC := nZC
 clear nZC
 have HO2 := nHO2
 clear nHO2
 have HO3 := nHO3
 clear nHO3
 have HO7 := nHO7
 clear nHO7
 have HO8 := nHO8
 clear nHO8
 have BX0 := nBX0
 clear nBX0
 have BX1 := nBX1
 clear nBX1
 have BX2 := nBX2
 clear nBX2
 have BX3 := nBX3
 clear nBX3
 have zc0_0 : w16.cell? ⟨w.heap.size, 0, none⟩ = some (.int .i64 a0_0) := (blk_cell BX0.out 0).trans rfl
 have zc0_1 : w16.cell? ⟨w.heap.size, 1, none⟩ = some (.slice A0_1 l0_1.length c0_1) := (blk_cell BX0.out 1).trans rfl
 have zc1_0 : w16.cell? ⟨w3.heap.size, 0, none⟩ = some (.int .i64 s1) := (blk_cell BX1.out 0).trans rfl
 have zc1_1 : w16.cell? ⟨w3.heap.size, 1, none⟩ = some (.slice A2_ s2.length c2_) := (blk_cell BX1.out 1).trans rfl
 have zc2_0 : w16.cell? ⟨w4.heap.size, 0, none⟩ = some (.int .i64 x1) := (blk_cell BX2.out 0).trans rfl
 have zc2_1 : w16.cell? ⟨w4.heap.size, 1, none⟩ = some (.slice A5_ x2.length c5_) := (blk_cell BX2.out 1).trans rfl
 have zc3_0 : w16.cell? ⟨w5.heap.size, 0, none⟩ = some (.int .i64 s1) := (blk_cell BX3.out 0).trans rfl
 have zc3_1 : w16.cell? ⟨w5.heap.size, 1, none⟩ = some (.slice A7_ s2.length c7_) := (blk_cell BX3.out 1).trans rfl
 go_wp2_with fail
 refine (laws_toWheel.calls k a0_0 _ _ l0_1 x1 x2 _ (Kd.C_below HR0_1.out (bel_then HB.out (by repeat (first | exact Below.refl _ _ | apply below_alloc | apply pw_below_drewN | apply below_drew1)))) HC0_1.out HX.out).mono ?_
 rintro e w17 ⟨v, rfl, hr, hb⟩
 clear zc0_0 zc0_1 zc1_0 zc1_1 zc2_0 zc2_1 zc3_0 zc3_1
 have ST : Below w16.heap.size w16 w17 := bel_then (by repeat (first | exact Below.refl _ _ | apply below_alloc | apply pw_below_drewN | apply below_drew1)) hb
 obtain ⟨lo11, hi11, A11_, c11_, hz11, hc11, rfl, ho11⟩ := law_madeS (n := hi10) hr hb ZC.out (by repeat (first | exact Below.refl _ _ | apply below_alloc | apply pw_below_drewN | apply below_drew1))
 have ZL11 := Aside0.mk hz11
 have HO11 := Aside0.mk ho11
 clear ho11 hz11
 have nZC := Aside0.mk hc11
 clear hc11
 have nHB : Aside0 (Below w.heap.size w w17) := ⟨bel_then HB.out ST⟩
 have nHO2 := Aside0.mk (Kd.S_below HO2.out ST)
 have nHO3 := Aside0.mk (Kd.R_below HO3.out ST)
 have nHO7 := Aside0.mk (Kd.S_below HO7.out ST)
 have nHO8 := Aside0.mk (Kd.R_below HO8.out ST)
 have nBX0 := Aside0.mk (blk_below BX0.out ST)
 have nBX1 := Aside0.mk (blk_below BX1.out ST)
 have nBX2 := Aside0.mk (blk_below BX2.out ST)
 have nBX3 := Aside0.mk (blk_below BX3.out ST)
 clear HB ZC HO2 HO3 HO7 HO8 BX0 BX1 BX2 BX3 ST hb hr
 have HB := nHB
 clear nHB
 have ZC := nZC
 clear nZC
 have HO2 := nHO2
 clear nHO2
 have HO3 := nHO3
 clear nHO3
 have HO7 := nHO7
 clear nHO7
 have HO8 := nHO8
 clear nHO8
 have BX0 := nBX0
 clear nBX0
 have BX1 := nBX1
 clear nBX1
 have BX2 := nBX2
 clear nBX2
 have BX3 := nBX3
 clear nBX3
 have zc0_0 : w17.cell? ⟨w.heap.size, 0, none⟩ = some (.int .i64 a0_0) := (blk_cell BX0.out 0).trans rfl
 have zc0_1 : w17.cell? ⟨w.heap.size, 1, none⟩ = some (.slice A0_1 l0_1.length c0_1) := (blk_cell BX0.out 1).trans rfl
 have zc1_0 : w17.cell? ⟨w3.heap.size, 0, none⟩ = some (.int .i64 s1) := (blk_cell BX1.out 0).trans rfl
 have zc1_1 : w17.cell? ⟨w3.heap.size, 1, none⟩ = some (.slice A2_ s2.length c2_) := (blk_cell BX1.out 1).trans rfl
 have zc2_0 : w17.cell? ⟨w4.heap.size, 0, none⟩ = some (.int .i64 x1) := (blk_cell BX2.out 0).trans rfl
 have zc2_1 : w17.cell? ⟨w4.heap.size, 1, none⟩ = some (.slice A5_ x2.length c5_) := (blk_cell BX2.out 1).trans rfl
 have zc3_0 : w17.cell? ⟨w5.heap.size, 0, none⟩ = some (.int .i64 s1) := (blk_cell BX3.out 0).trans rfl
 have zc3_1 : w17.cell? ⟨w5.heap.size, 1, none⟩ = some (.slice A7_ s2.length c7_) := (blk_cell BX3.out 1).trans rfl
 go_wp2_with fail
 refine (impl_AdvanceWheel.calls k x1 _ _ x2 a1 s1 s2 s3 s4 s5 _ (law_C (Kd.S_R HO11.out) (by repeat (first | exact Below.refl _ _ | apply below_alloc | apply pw_below_drewN | apply below_drew1))) (law_c (Kd.S_R HO11.out)) HG.out).mono ?_
 rintro e w18 ⟨v, u, rfl, hr, hu, hb⟩
 clear zc0_0 zc0_1 zc1_0 zc1_1 zc2_0 zc2_1 zc3_0 zc3_1
 have ST : Below w17.heap.size w17 w18 := bel_then (by repeat (first | exact Below.refl _ _ | apply below_alloc | apply pw_below_drewN | apply below_drew1)) hb
 obtain ⟨lo12, hi12, bl12, bh12, A12_, A13_, c12_, c13_, hz12, hc12, rfl, rfl, ho12, ho13⟩ := law_made2 (n := hi11) hr hu hb ZC.out (by repeat (first | exact Below.refl _ _ | apply below_alloc | apply pw_below_drewN | apply below_drew1))
 have ZL12 := Aside0.mk hz12
 have HO12 := Aside0.mk ho12
 have HO13 := Aside0.mk ho13
 clear ho12 ho13 hz12
 have nZC := Aside0.mk hc12
 clear hc12
 have nHB : Aside0 (Below w.heap.size w w18) := ⟨bel_then HB.out ST⟩
 have nHO2 := Aside0.mk (Kd.S_below HO2.out ST)
 have nHO3 := Aside0.mk (Kd.R_below HO3.out ST)
 have nHO7 := Aside0.mk (Kd.S_below HO7.out ST)
 have nHO8 := Aside0.mk (Kd.R_below HO8.out ST)
 have nHO11 := Aside0.mk (Kd.S_below HO11.out ST)
 have nBX0 := Aside0.mk (blk_below BX0.out ST)
 have nBX1 := Aside0.mk (blk_below BX1.out ST)
 have nBX2 := Aside0.mk (blk_below BX2.out ST)
 have nBX3 := Aside0.mk (blk_below BX3.out ST)
 clear HB ZC HO2 HO3 HO7 HO8 HO11 BX0 BX1 BX2 BX3 ST hb hr hu
 have HB := nHB
 clear nHB
 have ZC := nZC
 clear nZC
 have HO2 := nHO2
 clear nHO2
 have HO3 := nHO3
 clear nHO3
 have HO7 := nHO7
 clear nHO7
 have HO8 := nHO8
 clear nHO8
 have HO11 := nHO11
 clear nHO11
 have BX0 := nBX0
 clear nBX0
 have BX1 := nBX1
 clear nBX1
 have BX2 := nBX2
 clear nBX2
 have BX3 := nBX3
 clear nBX3
 have zc0_0 : w18.cell? ⟨w.heap.size, 0, none⟩ = some (.int .i64 a0_0) := (blk_cell BX0.out 0).trans rfl
 have zd0_0 := pw_cell_below (below_alloc (Below.refl _ _) (.cells #[.int .i64 s1, .slice A12_ s2.length c12_] 27)) zc0_0
 have zc0_1 : w18.cell? ⟨w.heap.size, 1, none⟩ = some (.slice A0_1 l0_1.length c0_1) := (blk_cell BX0.out 1).trans rfl
 have zd0_1 := pw_cell_below (below_alloc (Below.refl _ _) (.cells #[.int .i64 s1, .slice A12_ s2.length c12_] 27)) zc0_1
 have zc1_0 : w18.cell? ⟨w3.heap.size, 0, none⟩ = some (.int .i64 s1) := (blk_cell BX1.out 0).trans rfl
 have zd1_0 := pw_cell_below (below_alloc (Below.refl _ _) (.cells #[.int .i64 s1, .slice A12_ s2.length c12_] 27)) zc1_0
 have zc1_1 : w18.cell? ⟨w3.heap.size, 1, none⟩ = some (.slice A2_ s2.length c2_) := (blk_cell BX1.out 1).trans rfl
 have zd1_1 := pw_cell_below (below_alloc (Below.refl _ _) (.cells #[.int .i64 s1, .slice A12_ s2.length c12_] 27)) zc1_1
 have zc2_0 : w18.cell? ⟨w4.heap.size, 0, none⟩ = some (.int .i64 x1) := (blk_cell BX2.out 0).trans rfl
 have zd2_0 := pw_cell_below (below_alloc (Below.refl _ _) (.cells #[.int .i64 s1, .slice A12_ s2.length c12_] 27)) zc2_0
 have zc2_1 : w18.cell? ⟨w4.heap.size, 1, none⟩ = some (.slice A5_ x2.length c5_) := (blk_cell BX2.out 1).trans rfl
 have zd2_1 := pw_cell_below (below_alloc (Below.refl _ _) (.cells #[.int .i64 s1, .slice A12_ s2.length c12_] 27)) zc2_1
 have zc3_0 : w18.cell? ⟨w5.heap.size, 0, none⟩ = some (.int .i64 s1) := (blk_cell BX3.out 0).trans rfl
 have zd3_0 := pw_cell_below (below_alloc (Below.refl _ _) (.cells #[.int .i64 s1, .slice A12_ s2.length c12_] 27)) zc3_0
 have zc3_1 : w18.cell? ⟨w5.heap.size, 1, none⟩ = some (.slice A7_ s2.length c7_) := (blk_cell BX3.out 1).trans rfl
 have zd3_1 := pw_cell_below (below_alloc (Below.refl _ _) (.cells #[.int .i64 s1, .slice A12_ s2.length c12_] 27)) zc3_1
 go_wp2_with fail
 refine (laws_eqWheel.calls k s1 _ _ s2 s1 _ _ s2 true _ (law_C (Kd.S_R HO12.out) (by repeat (first | exact Below.refl _ _ | apply below_alloc | apply pw_below_drewN | apply below_drew1))) (law_c (Kd.S_R HO12.out)) (law_C (Kd.S_R HO2.out) (by repeat (first | exact Below.refl _ _ | apply below_alloc | apply pw_below_drewN | apply below_drew1))) (law_c (Kd.S_R HO2.out)) HE0.out).mono ?_
 rintro e w19 ⟨rfl, hb⟩
 clear zc0_0 zd0_0 zc0_1 zd0_1 zc1_0 zd1_0 zc1_1 zd1_1 zc2_0 zd2_0 zc2_1 zd2_1 zc3_0 zd3_0 zc3_1 zd3_1
 have ST : Below w18.heap.size w18 w19 := bel_then (by repeat (first | exact Below.refl _ _ | apply below_alloc | apply pw_below_drewN | apply below_drew1)) hb
 have mBX4 : Aside0 (w19.heap[w18.heap.size]? = some (.cells #[.int .i64 s1, .slice A12_ s2.length c12_] 27 (0, 0))) := ⟨blk_below (by first | exact heap_alloc_new _ _ | (have h_ := heap_alloc_new (w18.alloc (.cells #[.int .i64 s1, .slice A12_ s2.length c12_] 27)) (.cells #[.int .i64 s1, .slice A12_ s2.length c12_] 27); simpa using h_)) hb⟩
 have ZL14 := Aside0.mk (show hi12 ≤ w18.heap.size from ZC.out)
 clear ZC
 have ZC : Aside0 (w18.heap.size + 1 ≤ w19.heap.size) := ⟨by have := hb.size; simpa using this⟩
 have nZC := ZC
 have nHB : Aside0 (Below w.heap.size w w19) := ⟨bel_then HB.out ST⟩
 have nHO2 := Aside0.mk (Kd.S_below HO2.out ST)
 have nHO3 := Aside0.mk (Kd.R_below HO3.out ST)
 have nHO7 := Aside0.mk (Kd.S_below HO7.out ST)
 have nHO8 := Aside0.mk (Kd.R_below HO8.out ST)
 have nHO11 := Aside0.mk (Kd.S_below HO11.out ST)
 have nHO12 := Aside0.mk (Kd.S_below HO12.out ST)
 have nHO13 := Aside0.mk (Kd.R_below HO13.out ST)
 have nBX0 := Aside0.mk (blk_below BX0.out ST)
 have nBX1 := Aside0.mk (blk_below BX1.out ST)
 have nBX2 := Aside0.mk (blk_below BX2.out ST)
 have nBX3 := Aside0.mk (blk_below BX3.out ST)
 clear HB ZC HO2 HO3 HO7 HO8 HO11 HO12 HO13 BX0 BX1 BX2 BX3 ST hb
 have HB := nHB
 clear nHB
 have ZC := nZC
 clear nZC
 have HO2 := nHO2
 clear nHO2
 have HO3 := nHO3
 clear nHO3
 have HO7 := nHO7
 clear nHO7
 have HO8 := nHO8
 clear nHO8
 have HO11 := nHO11
 clear nHO11
 have HO12 := nHO12
 clear nHO12
 have HO13 := nHO13
 clear nHO13
 have BX0 := nBX0
 clear nBX0
 have BX1 := nBX1
 clear nBX1
 have BX2 := nBX2
 clear nBX2
 have BX3 := nBX3
 clear nBX3
 have BX4 := mBX4
 clear mBX4
 have zc0_0 : w19.cell? ⟨w.heap.size, 0, none⟩ = some (.int .i64 a0_0) := (blk_cell BX0.out 0).trans rfl
 have zc0_1 : w19.cell? ⟨w.heap.size, 1, none⟩ = some (.slice A0_1 l0_1.length c0_1) := (blk_cell BX0.out 1).trans rfl
 have zc1_0 : w19.cell? ⟨w3.heap.size, 0, none⟩ = some (.int .i64 s1) := (blk_cell BX1.out 0).trans rfl
 have zc1_1 : w19.cell? ⟨w3.heap.size, 1, none⟩ = some (.slice A2_ s2.length c2_) := (blk_cell BX1.out 1).trans rfl
 have zc2_0 : w19.cell? ⟨w4.heap.size, 0, none⟩ = some (.int .i64 x1) := (blk_cell BX2.out 0).trans rfl
 have zc2_1 : w19.cell? ⟨w4.heap.size, 1, none⟩ = some (.slice A5_ x2.length c5_) := (blk_cell BX2.out 1).trans rfl
 have zc3_0 : w19.cell? ⟨w5.heap.size, 0, none⟩ = some (.int .i64 s1) := (blk_cell BX3.out 0).trans rfl
 have zc3_1 : w19.cell? ⟨w5.heap.size, 1, none⟩ = some (.slice A7_ s2.length c7_) := (blk_cell BX3.out 1).trans rfl
 have zc4_0 : w19.cell? ⟨w18.heap.size, 0, none⟩ = some (.int .i64 s1) := (blk_cell BX4.out 0).trans rfl
 have zc4_1 : w19.cell? ⟨w18.heap.size, 1, none⟩ = some (.slice A12_ s2.length c12_) := (blk_cell BX4.out 1).trans rfl
 go_wp2_with fail
 refine (laws_eqIntS.calls k _ _ s3 _ _ s3 true _ (law_C HO13.out (by repeat (first | exact Below.refl _ _ | apply below_alloc | apply pw_below_drewN | apply below_drew1))) (law_c HO13.out) (law_C HO3.out (by repeat (first | exact Below.refl _ _ | apply below_alloc | apply pw_below_drewN | apply below_drew1))) (law_c HO3.out) HE2.out).mono ?_
 rintro e w20 ⟨rfl, hd⟩
 have hb := hd.below
 clear zc0_0 zc0_1 zc1_0 zc1_1 zc2_0 zc2_1 zc3_0 zc3_1 zc4_0 zc4_1
 have ST : Below w19.heap.size w19 w20 := bel_then (by repeat (first | exact Below.refl _ _ | apply below_alloc | apply pw_below_drewN | apply below_drew1)) hb
 have nZC := Aside0.mk (Nat.le_trans ZC.out ST.size)
 have nHB : Aside0 (Below w.heap.size w w20) := ⟨bel_then HB.out ST⟩
 have nHO2 := Aside0.mk (Kd.S_below HO2.out ST)
 have nHO3 := Aside0.mk (Kd.R_below HO3.out ST)
 have nHO7 := Aside0.mk (Kd.S_below HO7.out ST)
 have nHO8 := Aside0.mk (Kd.R_below HO8.out ST)
 have nHO11 := Aside0.mk (Kd.S_below HO11.out ST)
 have nHO12 := Aside0.mk (Kd.S_below HO12.out ST)
 have nHO13 := Aside0.mk (Kd.R_below HO13.out ST)
 have nBX0 := Aside0.mk (blk_below BX0.out ST)
 have nBX1 := Aside0.mk (blk_below BX1.out ST)
 have nBX2 := Aside0.mk (blk_below BX2.out ST)
 have nBX3 := Aside0.mk (blk_below BX3.out ST)
 have nBX4 := Aside0.mk (blk_below BX4.out ST)
 clear HB ZC HO2 HO3 HO7 HO8 HO11 HO12 HO13 BX0 BX1 BX2 BX3 BX4 ST hb hd
 have HB := nHB
 clear nHB
 have ZC := nZC
 clear nZC
 have HO2 := nHO2
 clear nHO2
 have HO3 := nHO3
 clear nHO3
 have HO7 := nHO7
 clear nHO7
 have HO8 := nHO8
 clear nHO8
 have HO11 := nHO11
 clear nHO11
 have HO12 := nHO12
 clear nHO12
 have HO13 := nHO13
 clear nHO13
 have BX0 := nBX0
 clear nBX0
 have BX1 := nBX1
 clear nBX1
 have BX2 := nBX2
 clear nBX2
 have BX3 := nBX3
 clear nBX3
 have BX4 := nBX4
 clear nBX4
 have zc0_0 : w20.cell? ⟨w.heap.size, 0, none⟩ = some (.int .i64 a0_0) := (blk_cell BX0.out 0).trans rfl
 have zc0_1 : w20.cell? ⟨w.heap.size, 1, none⟩ = some (.slice A0_1 l0_1.length c0_1) := (blk_cell BX0.out 1).trans rfl
 have zc1_0 : w20.cell? ⟨w3.heap.size, 0, none⟩ = some (.int .i64 s1) := (blk_cell BX1.out 0).trans rfl
 have zc1_1 : w20.cell? ⟨w3.heap.size, 1, none⟩ = some (.slice A2_ s2.length c2_) := (blk_cell BX1.out 1).trans rfl
 have zc2_0 : w20.cell? ⟨w4.heap.size, 0, none⟩ = some (.int .i64 x1) := (blk_cell BX2.out 0).trans rfl
 have zc2_1 : w20.cell? ⟨w4.heap.size, 1, none⟩ = some (.slice A5_ x2.length c5_) := (blk_cell BX2.out 1).trans rfl
 have zc3_0 : w20.cell? ⟨w5.heap.size, 0, none⟩ = some (.int .i64 s1) := (blk_cell BX3.out 0).trans rfl
 have zc3_1 : w20.cell? ⟨w5.heap.size, 1, none⟩ = some (.slice A7_ s2.length c7_) := (blk_cell BX3.out 1).trans rfl
 have zc4_0 : w20.cell? ⟨w18.heap.size, 0, none⟩ = some (.int .i64 s1) := (blk_cell BX4.out 0).trans rfl
 have zc4_1 : w20.cell? ⟨w18.heap.size, 1, none⟩ = some (.slice A12_ s2.length c12_) := (blk_cell BX4.out 1).trans rfl
 go_wp2_with fail
 refine (lawHeldWheel.calls k s1 _ _ s2.length mk2 1 _ _ (Kd.R_reads' (Kd.S_R HO7.out)).1 (law_C0 (Kd.S_R HO7.out) (by repeat (first | exact Below.refl _ _ | apply below_alloc | apply pw_below_drewN | apply below_drew1))) (law_c0 (Kd.S_R HO7.out)) HQ.out).mono ?_
 rintro e w21 ⟨rfl, hb⟩
 clear zc0_0 zc0_1 zc1_0 zc1_1 zc2_0 zc2_1 zc3_0 zc3_1 zc4_0 zc4_1
 have ST : Below w20.heap.size w20 w21 := bel_then (by repeat (first | exact Below.refl _ _ | apply below_alloc | apply pw_below_drewN | apply below_drew1)) hb
 have nZC := Aside0.mk (Nat.le_trans ZC.out ST.size)
 have nHB : Aside0 (Below w.heap.size w w21) := ⟨bel_then HB.out ST⟩
 have nHO2 := Aside0.mk (Kd.S_below HO2.out ST)
 have nHO3 := Aside0.mk (Kd.R_below HO3.out ST)
 have nHO7 := Aside0.mk (Kd.S_below HO7.out ST)
 have nHO8 := Aside0.mk (Kd.R_below HO8.out ST)
 have nHO11 := Aside0.mk (Kd.S_below HO11.out ST)
 have nHO12 := Aside0.mk (Kd.S_below HO12.out ST)
 have nHO13 := Aside0.mk (Kd.R_below HO13.out ST)
 have nBX0 := Aside0.mk (blk_below BX0.out ST)
 have nBX1 := Aside0.mk (blk_below BX1.out ST)
 have nBX2 := Aside0.mk (blk_below BX2.out ST)
 have nBX3 := Aside0.mk (blk_below BX3.out ST)
 have nBX4 := Aside0.mk (blk_below BX4.out ST)
 clear HB ZC HO2 HO3 HO7 HO8 HO11 HO12 HO13 BX0 BX1 BX2 BX3 BX4 ST hb
 have HB := nHB
 clear nHB
 have ZC := nZC
 clear nZC
 have HO2 := nHO2
 clear nHO2
 have HO3 := nHO3
 clear nHO3
 have HO7 := nHO7
 clear nHO7
 have HO8 := nHO8
 clear nHO8
 have HO11 := nHO11
 clear nHO11
 have HO12 := nHO12
 clear nHO12
 have HO13 := nHO13
 clear nHO13
 have BX0 := nBX0
 clear nBX0
 have BX1 := nBX1
 clear nBX1
 have BX2 := nBX2
 clear nBX2
 have BX3 := nBX3
 clear nBX3
 have BX4 := nBX4
 clear nBX4
 have zc0_0 : w21.cell? ⟨w.heap.size, 0, none⟩ = some (.int .i64 a0_0) := (blk_cell BX0.out 0).trans rfl
 have zc0_1 : w21.cell? ⟨w.heap.size, 1, none⟩ = some (.slice A0_1 l0_1.length c0_1) := (blk_cell BX0.out 1).trans rfl
 have zc1_0 : w21.cell? ⟨w3.heap.size, 0, none⟩ = some (.int .i64 s1) := (blk_cell BX1.out 0).trans rfl
 have zc1_1 : w21.cell? ⟨w3.heap.size, 1, none⟩ = some (.slice A2_ s2.length c2_) := (blk_cell BX1.out 1).trans rfl
 have zc2_0 : w21.cell? ⟨w4.heap.size, 0, none⟩ = some (.int .i64 x1) := (blk_cell BX2.out 0).trans rfl
 have zc2_1 : w21.cell? ⟨w4.heap.size, 1, none⟩ = some (.slice A5_ x2.length c5_) := (blk_cell BX2.out 1).trans rfl
 have zc3_0 : w21.cell? ⟨w5.heap.size, 0, none⟩ = some (.int .i64 s1) := (blk_cell BX3.out 0).trans rfl
 have zc3_1 : w21.cell? ⟨w5.heap.size, 1, none⟩ = some (.slice A7_ s2.length c7_) := (blk_cell BX3.out 1).trans rfl
 have zc4_0 : w21.cell? ⟨w18.heap.size, 0, none⟩ = some (.int .i64 s1) := (blk_cell BX4.out 0).trans rfl
 have zc4_1 : w21.cell? ⟨w18.heap.size, 1, none⟩ = some (.slice A12_ s2.length c12_) := (blk_cell BX4.out 1).trans rfl
 go_wp2_with fail
 refine (lawHeldIntS.calls k _ _ s3.length mi2 _ _ _ (Kd.R_reads' HO8.out).1 (law_C0 HO8.out (by repeat (first | exact Below.refl _ _ | apply below_alloc | apply pw_below_drewN | apply below_drew1))) (law_c0 HO8.out) HP.out).mono ?_
 rintro e w22 ⟨rfl, hd⟩
 have hb := hd.below
 clear zc0_0 zc0_1 zc1_0 zc1_1 zc2_0 zc2_1 zc3_0 zc3_1 zc4_0 zc4_1
 have ST : Below w21.heap.size w21 w22 := bel_then (by repeat (first | exact Below.refl _ _ | apply below_alloc | apply pw_below_drewN | apply below_drew1)) hb
 have nZC := Aside0.mk (Nat.le_trans ZC.out ST.size)
 have nHB : Aside0 (Below w.heap.size w w22) := ⟨bel_then HB.out ST⟩
 have nHO2 := Aside0.mk (Kd.S_below HO2.out ST)
 have nHO3 := Aside0.mk (Kd.R_below HO3.out ST)
 have nHO7 := Aside0.mk (Kd.S_below HO7.out ST)
 have nHO8 := Aside0.mk (Kd.R_below HO8.out ST)
 have nHO11 := Aside0.mk (Kd.S_below HO11.out ST)
 have nHO12 := Aside0.mk (Kd.S_below HO12.out ST)
 have nHO13 := Aside0.mk (Kd.R_below HO13.out ST)
 have nBX0 := Aside0.mk (blk_below BX0.out ST)
 have nBX1 := Aside0.mk (blk_below BX1.out ST)
 have nBX2 := Aside0.mk (blk_below BX2.out ST)
 have nBX3 := Aside0.mk (blk_below BX3.out ST)
 have nBX4 := Aside0.mk (blk_below BX4.out ST)
 clear HB ZC HO2 HO3 HO7 HO8 HO11 HO12 HO13 BX0 BX1 BX2 BX3 BX4 ST hb hd
 have HB := nHB
 clear nHB
 have ZC := nZC
 clear nZC
 have HO2 := nHO2
 clear nHO2
 have HO3 := nHO3
 clear nHO3
 have HO7 := nHO7
 clear nHO7
 have HO8 := nHO8
 clear nHO8
 have HO11 := nHO11
 clear nHO11
 have HO12 := nHO12
 clear nHO12
 have HO13 := nHO13
 clear nHO13
 have BX0 := nBX0
 clear nBX0
 have BX1 := nBX1
 clear nBX1
 have BX2 := nBX2
 clear nBX2
 have BX3 := nBX3
 clear nBX3
 have BX4 := nBX4
 clear nBX4
 go_wp2
 go_ret
 exact ⟨rfl, by repeat (first | exact HB.out | apply below_alloc | apply pw_below_drewN | apply below_drew1)⟩

end Go.Proofs.Ytgmjfdehladelaa.PFnExactAdvanceWheel
