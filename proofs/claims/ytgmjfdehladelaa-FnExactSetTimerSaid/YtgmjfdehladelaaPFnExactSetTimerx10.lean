-- written by xprint.py (a program of this session's, over the kit's print): printed functions, and some by hand
import Derived.Test.YtgmjfdehladelaaPFnExactSetTimerx0
import Derived.Test.YtgmjfdehladelaaPFnExactSetTimerx1
import Derived.Test.YtgmjfdehladelaaPFnExactSetTimerx2
import Derived.Test.YtgmjfdehladelaaPFnExactSetTimerx6
import Derived.Test.YtgmjfdehladelaaPFnExactSetTimerx9
namespace Go.Proofs.Ytgmjfdehladelaa.PFnExactSetTimer
open Go.RowKit Go.Proofs.YtgmjfdehladelaaW.PrintWords Go.Proofs.YtgmjfdehladelaaW.PrintLast Go.Proofs.YtgmjfdehladelaaW.PrintMore
attribute [local go_sem] max2_int min2_int max_two min_two max_three min_three max_four min_four   -- for this text's walks alone
set_option linter.unusedVariables false
set_option linter.unusedSimpArgs false

/-! ### laws_FnExactSetTimer: function 7, by hand -/
instance decS45 : DecidableEq S45 := fun a b =>
 if h : a.f0 = b.f0 ∧ a.f1 = b.f1 then isTrue (by obtain ⟨h0, h1⟩ := h; cases a; cases b; simp only at h0 h1; rw [h0, h1])
 else isFalse (fun e => h (by rw [e]; exact ⟨rfl, rfl⟩))
theorem bel_then {w W w' : World} (h : Below w.heap.size w W) (hb : Below W.heap.size W w') : Below w.heap.size w w' := below_then h h.size hb
theorem law_madeR {α : Type} {d : Kd α} {e n : Nat} {ok : Nat → Prop} {wl W w' : World} {v : Value} {xs : List α} (h : Kd.R d e w' W.heap.size ok v xs) (hb : Below W.heap.size W w') (hn : n ≤ wl.heap.size) (hW : Below wl.heap.size wl W) :
  ∃ (lo hi : Nat) (A : Option Addr) (c : Nat), (n ≤ lo ∧ lo ≤ hi) ∧ hi ≤ w'.heap.size ∧ v = .slice A xs.length c ∧ Kd.R d e w' lo (fun k => lo ≤ k ∧ k < hi) v xs := by
 obtain ⟨A, c, hv⟩ := Kd.R_slice h
 have := hW.size
 have := hb.size
 exact ⟨W.heap.size, w'.heap.size, A, c, by omega, Nat.le_refl _, hv, Kd.R_mono (Kd.R_bound h) (fun k hk => ⟨hk.2.1, hk.2.2.1⟩)⟩
theorem law_madeS {α : Type} {d : Kd α} {e n : Nat} {ok : Nat → Prop} {wl W w' : World} {v : Value} {xs : List α} (h : Kd.S d e w' W.heap.size ok v xs) (hb : Below W.heap.size W w') (hn : n ≤ wl.heap.size) (hW : Below wl.heap.size wl W) :
  ∃ (lo hi : Nat) (A : Option Addr) (c : Nat), (n ≤ lo ∧ lo ≤ hi) ∧ hi ≤ w'.heap.size ∧ v = .slice A xs.length c ∧ Kd.S d e w' lo (fun k => lo ≤ k ∧ k < hi) v xs := by
 obtain ⟨A, c, hv⟩ := Kd.R_slice (Kd.S_R h)
 have := hW.size
 have := hb.size
 exact ⟨W.heap.size, w'.heap.size, A, c, by omega, Nat.le_refl _, hv, Kd.S_mono (Kd.S_bound h) (fun k hk => ⟨hk.2.1, hk.2.2.1⟩)⟩
theorem law_kept {wl W w' : World} {S : Nat → Prop} (h : Below wl.heap.size wl W) (hk : Kept W w' S) : Kept wl w' S := (Kept.of_below h S).then_ hk (fun _ h => .inl h)
/-- A marked row of plain values lies where it lay. -/
theorem law_marked {α : Type} {d : Kd α} {W w' : World} {base base' e : Nat} {ok P : Nat → Prop} {v : Value} {xs ys : List α} (hE : d.E = []) (h0 : Kd.R d e W base P v xs) (h : Kd.R d e w' base' ok v ys) : Kd.R d e w' base' P v ys :=
 Kd.R_mono (Kd.R_tight hE h) (fun k hk => h0.1 k hk.symm)
theorem law_C {α : Type} {d : Kd α} {e base n c : Nat} {ok : Nat → Prop} {w W : World} {A : Option Addr} {xs : List α} (h : Kd.R d e w base ok (.slice A n c) xs) (hb : Below w.heap.size w W) : Kd.C d W A xs.length xs := (Kd.R_reads' (Kd.R_below h hb)).2.2
theorem law_c {α : Type} {d : Kd α} {e base c : Nat} {ok : Nat → Prop} {w : World} {A : Option Addr} {xs : List α} (h : Kd.R d e w base ok (.slice A xs.length c) xs) : xs.length ≤ c := (Kd.R_reads' h).2.1
theorem law_C0 {α : Type} {d : Kd α} {e base n c : Nat} {ok : Nat → Prop} {w W : World} {A : Option Addr} {xs : List α} (h : Kd.R d e w base ok (.slice A n c) xs) (hb : Below w.heap.size w W) : Kd.C d W A xs.length xs := (Kd.R_reads' (Kd.R_below h hb)).2.2
theorem law_c0 {α : Type} {d : Kd α} {e base n c : Nat} {ok : Nat → Prop} {w : World} {A : Option Addr} {xs : List α} (h : Kd.R d e w base ok (.slice A n c) xs) : xs.length ≤ c := (Kd.R_reads' h).1 ▸ (Kd.R_reads' h).2.1
def markTTGo (k : Nat) : List (List S45) → Int → Option (Int × List (List S45))
 | [], v => some (v, [])
 | x :: l, v => (laws_markTimerS.f k x v).bind fun t => (markTTGo k l t.1).bind fun u => some (u.1, t.2 :: u.2)
theorem rows_at {W : World} {base n cap g : Nat} {ok : Nat → Prop} {xs : List (List S45)} (h : Kd.S (Kd.slice 45 k45) 48 W base ok (.slice (some ⟨g, 0, none⟩) n cap) xs) (j : Nat) (hj : j < n) :
  ∃ (oki : Nat → Prop) (A : Option Addr) (c : Nat), Kd.R k45 45 W base oki (.slice A (xs.getD j []).length c) (xs.getD j []) ∧ W.cell? ⟨g, j, none⟩ = some (.slice A (xs.getD j []).length c) ∧ (∀ k, oki k → ok k) ∧
   ∀ {W' : World} {ys : List S45}, Kept W W' oki → Kd.R k45 45 W' base oki (.slice A (xs.getD j []).length c) ys → Kd.S (Kd.slice 45 k45) 48 W' base ok (.slice (some ⟨g, 0, none⟩) n cap) (xs.set j ys) := by
 obtain ⟨oki, c, hcl, hM, hcc, hok, hH⟩ := Kd.S_lend h [] (j : Int) (by omega) (by omega)
 rw [Int.toNat_natCast] at hM hcc
 obtain ⟨v, rfl, hR⟩ := hM
 obtain ⟨A, c, rfl⟩ := Kd.R_slice hR
 refine ⟨oki, A, c, hR, by have h2 := hcc 0 _ rfl; simpa [Kd.slice] using h2, fun k hk => (hok k hk).1, fun hk hR' => ?_⟩
 have h3 := Kd.H_kept hH hk (fun _ _ hn => hn)
 have h4 := Kd.H_back h3 (x' := _) (okp := oki) ⟨_, rfl, hR'⟩ (fun _ hk => hk)
 rwa [Int.toNat_natCast] at h4
set_option maxHeartbeats 8000000 in
set_option maxRecDepth 100000 in
theorem shMarkTimerSS.calls (k : Nat) (P : Nat → Prop) (v : Value) (l : List (List S45)) (a : Int) (r1 : Int) (r2 : List (List S45)) (w0 w : World) (hB : Below w0.heap.size w0 w) (ho : Kd.S (Kd.slice 45 k45) 48 w w0.heap.size P v l) (h : markTTGo k l a = some (r1, r2)) :
  Calls Try.prog 46 #[v, .int .i64 a] w fun e w' => e = .returned (.int .i64 r1) ∧ Kd.S (Kd.slice 45 k45) 48 w' w0.heap.size P v r2 ∧ Below w0.heap.size w0 w' ∧ Kept w w' P := by
 obtain ⟨A, c, rfl⟩ := Kd.R_slice (Kd.S_R ho)
 have HO := Aside0.mk ho
 have HB := Aside0.mk hB
 have HF := Aside0.mk h
 have HLN := Aside0.mk (Kd.R_reads' (Kd.S_R ho)).2.2.2.1
 obtain ⟨ln, hln⟩ : ∃ ln, ln = l.length := ⟨_, rfl⟩
 rw [← hln] at HO HLN ⊢
 have HL := Aside0.mk hln
 clear ho hB h hln
 go_enter Try.func46, Try.ntmps46
 go_wp2
 go_loopg [1, 5] ln (fun kq v1 v5 w' => ∃ (j : Nat) (aj : Int) (xs ds : List (List S45)) (rs : List (List S45)), v1 = .int .i64 aj ∧ v5 = .int .i64 (j : Int) ∧ Aside0 (kq + j = ln) ∧ Aside0 (Below w0.heap.size w0 w') ∧ Aside0 (Kept w w' P) ∧ Aside0 (Kd.S (Kd.slice 45 k45) 48 w' w0.heap.size P (.slice A ln c) xs) ∧ Aside0 (xs = ds ++ l.drop j ∧ ds.length = j ∧ markTTGo k (l.drop j) aj = some (r1, rs) ∧ r2 = ds ++ rs))
 case atStart => exact ⟨0, a, l, [], r2, rfl, rfl, ⟨by omega⟩, ⟨by repeat (first | exact HB.out | apply below_alloc | apply pw_below_drewN | apply below_drew1)⟩, ⟨Kept.of_below (by repeat (first | exact Below.refl _ _ | apply below_alloc | apply pw_below_drewN | apply below_drew1)) _⟩, ⟨Kd.S_below HO.out (by repeat (first | exact Below.refl _ _ | apply below_alloc | apply pw_below_drewN | apply below_drew1))⟩, ⟨by simp, rfl, by simpa using HF.out, rfl⟩⟩
 case round =>
  clear HB HF HO
  obtain ⟨j, aj, xs, ds, rs, rfl, rfl, HK, HB, HKP, HO, HX⟩ := hrel
  by_cases hlt : j < ln
  ·obtain ⟨hx1, hx2, hx3, hx4⟩ := HX.out
   have hll := HL.out
   have hget : xs.getD j [] = l.getD j [] := by
    rw [hx1, List.getD_eq_getElem?_getD, List.getElem?_append_right (by omega), hx2, Nat.sub_self, List.getElem?_drop, Nat.add_zero, ← List.getD_eq_getElem?_getD]
   have hdr : l.drop j = l.getD j [] :: l.drop (j + 1) := by
    rw [List.drop_eq_getElem_cons (by omega), List.getD_eq_getElem?_getD, List.getElem?_eq_getElem (by omega)]; rfl
   rw [hdr] at hx3
   simp only [markTTGo] at hx3
   obtain ⟨⟨a2, y⟩, hy, hx3⟩ := Option.bind_eq_some_iff.1 hx3
   obtain ⟨⟨u1, u2⟩, hu, hx3⟩ := Option.bind_eq_some_iff.1 hx3
   simp only [Option.some.injEq, Prod.mk.injEq] at hx3
   obtain ⟨rfl, rfl⟩ := hx3
   simp only at hu
   rw [← hget] at hy
   obtain ⟨g, cap, eg, hgb, hgl, _⟩ := Kd.R_form (Kd.S_R HO.out) (by rw [hx1]; simp; omega)
   injection eg with ea en ec
   subst ea
   subst ec
   clear en
   obtain ⟨oki, A0, c0, hR, hx, hok, hback⟩ := rows_at HO.out j hlt
   obtain ⟨row, hrow⟩ : ∃ row, row = xs.getD j [] := ⟨_, rfl⟩
   rw [← hrow] at hR hx hback hy
   have HR := Aside0.mk hR
   have HBK := Aside0.mk (fun {W' : World} {ys : List S45} => hback (W' := W') (ys := ys))
   have HOK := Aside0.mk hok
   have HY := Aside0.mk hy
   have HU := Aside0.mk hu
   have HX2 := Aside0.mk (show ∀ ys : List S45, xs.set j ys = (ds ++ [ys]) ++ l.drop (j + 1) from fun ys => by
    rw [hx1, hdr, List.set_append_right _ _ (by omega), hx2, Nat.sub_self, List.set_cons_zero, List.append_assoc]; rfl)
   have HX3 := Aside0.mk hx2
   have HX4 := Aside0.mk hx4
   have hd : decide (j < ln) = true := decide_eq_true hlt
   clear hx1 hx2 hx4 hll hget hdr hy hu hR hok hback hrow HX
   cases gk with
   | zero => exact absurd HK.out (by omega)
   | succ k1 =>
    have hxp : wr.cell? (({ block := g, off := 0, spot := none } : Addr).add j) = some (.slice A0 row.length c0) := by rw [add_plain]; exact hx
    go_wp2_with fail
    refine (laws_markTimerS.calls k oki _ row aj a2 y w0 _ ?hb ?hr HY.out).mono ?_
    case hb => repeat (first | exact HB.out | apply below_alloc | apply pw_below_drewN | apply below_drew1)
    case hr => exact Kd.R_below HR.out (by repeat (first | exact Below.refl _ _ | apply below_alloc | apply pw_below_drewN | apply below_drew1))
    rintro e w1 ⟨rfl, hr1, hb1, hk1⟩
    have HB1 := Aside0.mk hb1
    have HK1 := Aside0.mk (law_kept (wl := wr) (by repeat (first | exact Below.refl _ _ | apply below_alloc | apply pw_below_drewN | apply below_drew1)) hk1)
    have HR1 := Aside0.mk (Kd.R_mono (Kd.R_tight rfl hr1) (fun k hk => HR.out.1 k hk.symm))
    have HO1 := Aside0.mk (HBK.out HK1.out HR1.out)
    have HKP1 := Aside0.mk (HKP.out.then_ HK1.out (fun k hk => .inl (HOK.out k hk)))
    clear hr1 hb1 hk1 hx hxp HBK
    go_wp2
    go_roundg k1
    case measure => omega
    case rel =>
     exact ⟨j + 1, a2, _, ds ++ [y], u2, rfl, by have := HLN.out; congr 1; unfold wrap64; omega, ⟨by have := HK.out; omega⟩, ⟨by repeat (first | exact HB1.out | apply below_alloc | apply pw_below_drewN | apply below_drew1)⟩, ⟨by first | exact HKP1.out | exact Kept.drewN HKP1.out _⟩, ⟨Kd.S_below HO1.out (by repeat (first | exact Below.refl _ _ | apply below_alloc | apply pw_below_drewN | apply below_drew1))⟩, ⟨HX2.out y, by have := HX3.out; simp; omega, HU.out, by rw [HX4.out]; simp⟩⟩
  ·have hd : decide (j < ln) = false := decide_eq_false hlt
   have HD := Aside0.mk hlt
   clear hlt
   go_wp2
   go_ret
   have hj : j = ln := by have := HK.out; have := HD.out; omega
   obtain ⟨hx1, hx2, hx3, hx4⟩ := HX.out
   rw [List.drop_of_length_le (by have := HL.out; omega)] at hx1 hx3
   simp only [markTTGo, Option.some.injEq, Prod.mk.injEq] at hx3
   obtain ⟨e1, e2⟩ := hx3
   exact ⟨by rw [← e1]; rfl, by rw [hx4, ← e2, ← hx1]; exact Kd.S_below HO.out (by repeat (first | exact Below.refl _ _ | apply below_alloc | apply pw_below_drewN | apply below_drew1)), by repeat (first | exact HB.out | apply below_alloc | apply pw_below_drewN | apply below_drew1), by first | exact HKP.out | exact Kept.drewN HKP.out _⟩
set_option maxHeartbeats 8000000 in
set_option maxRecDepth 100000 in
theorem shMarkWheel.calls (k : Nat) (P : Nat → Prop) (n0 : Int) (A : Option Addr) (c n : Nat) (l : List (List S45)) (a : Int) (r1 : Int) (r2 : List (List S45)) (w0 w : World) (hB : Below w0.heap.size w0 w) (ho : Kd.S (Kd.slice 45 k45) 48 w w0.heap.size P (.slice A n c) l) (h : markTTGo k l a = some (r1, r2)) :
  Calls Try.prog 16 #[.agg #[.int .i64 n0, .slice A n c], .int .i64 a] w fun e w' => e = .returned (.int .i64 r1) ∧ Kd.S (Kd.slice 45 k45) 48 w' w0.heap.size P (.slice A n c) r2 ∧ Below w0.heap.size w0 w' ∧ Kept w w' P := by
 have HO := Aside0.mk ho
 have HB := Aside0.mk hB
 have HF := Aside0.mk h
 clear ho hB h
 go_enter Try.func16, Try.ntmps16
 go_wp2_with fail
 refine (shMarkTimerSS.calls k P _ l a r1 r2 w0 _ ?hb ?ho HF.out).mono ?_
 case hb => repeat (first | exact HB.out | apply below_alloc | apply pw_below_drewN | apply below_drew1)
 case ho => exact Kd.S_below HO.out (by repeat (first | exact Below.refl _ _ | apply below_alloc | apply pw_below_drewN | apply below_drew1))
 rintro e w1 ⟨rfl, hr1, hb1, hk1⟩
 have HR1 := Aside0.mk hr1
 have HB1 := Aside0.mk hb1
 have HK1 := Aside0.mk (law_kept (wl := w) (by repeat (first | exact Below.refl _ _ | apply below_alloc | apply pw_below_drewN | apply below_drew1)) hk1)
 clear hr1 hb1 hk1
 go_wp2
 go_ret
 exact ⟨rfl, Kd.S_below HR1.out (by repeat (first | exact Below.refl _ _ | apply below_alloc | apply pw_below_drewN | apply below_drew1)), by repeat (first | exact HB1.out | apply below_alloc | apply pw_below_drewN | apply below_drew1), by first | exact HK1.out | exact Kept.drewN HK1.out _⟩
theorem lawHeldWheel.calls (k : Nat) (n0 : Int) (A : Option Addr) (c n : Nat) (l : List (List S45)) (a r : Int) (w : World) (hn : n = l.length) (hr : Kd.C (Kd.slice 45 k45) w A l.length l) (hc : l.length ≤ c) (h : laws_heldWheel.f k n0 l a = some r) :
  Calls Try.prog 17 #[.agg #[.int .i64 n0, .slice A n c], .int .i64 a] w fun e w' => e = .returned (.int .i64 r) ∧ Below w.heap.size w w' := by
 subst hn
 exact laws_heldWheel.calls k n0 A c l a r w hr hc h
def laws_FnExactSetTimer.f (k : Nat) (a0_0 : Int) (l0_1 : List (List S43)) (a1_0 : Int) (a1_1 : Int) : Option Bool :=
 (laws_szWheel.f k a0_0 l0_1 1048576).bind fun t => if t < 0 then some true else
 (laws_toWheel.f k a0_0 l0_1).bind fun x =>
 (laws_toTimer.f a1_0 a1_1).bind fun y =>
 (spec_SetTimer.f k x.1 x.2 y.1 y.2).bind fun s =>
 (impl_SetTimer.f k x.1 x.2 y.1 y.2).bind fun g =>
 (laws_eqWheel.f k s.1 s.2.1 s.1 s.2.1).bind fun b0 =>
 (laws_eqWheel.f k x.1 x.2 x.1 x.2).bind fun b1 =>
 (markTTGo k x.2 1).bind fun mx =>
 (markTTGo k s.2.1 1).bind fun mk =>
 (laws_heldWheel.f k s.1 mk.2 1).bind fun q =>
 if g = s ∧ b0 = true ∧ b1 = true ∧ ¬ mx.1 < 0 ∧ q = mk.1 ∧ ¬ q < 0 then some true else none
set_option maxHeartbeats 16000000 in
set_option maxRecDepth 100000 in
theorem laws_FnExactSetTimer.calls (k : Nat) (a0_0 : Int) (A0_1 : Option Addr) (c0_1 : Nat) (l0_1 : List (List S43)) (a1_0 : Int) (a1_1 : Int) (r : Bool) (w : World) (hr0_1 : Kd.C (Kd.slice 43 k43) w A0_1 l0_1.length l0_1) (hc0_1 : l0_1.length ≤ c0_1) (h : laws_FnExactSetTimer.f k a0_0 l0_1 a1_0 a1_1 = some r) :
  Calls Try.prog 7 #[.agg #[.int .i64 a0_0, .slice A0_1 l0_1.length c0_1], .agg #[.int .i64 a1_0, .int .i64 a1_1]] w fun e w' => e = .returned (.bool r) ∧ Below w.heap.size w w' := by
 have hu34 := Try.underlying34
 have hu43 := Try.underlying43
 have hu27 := Try.underlying27
 have HR0_1 := Aside0.mk hr0_1
 have HC0_1 := Aside0.mk hc0_1
 have HB := Aside0.mk (Below.refl w.heap.size w)
 clear hr0_1 hc0_1
 unfold laws_FnExactSetTimer.f at h
 replace h := Option.bind_eq_some_iff.1 h
 obtain ⟨t, T, h⟩ := h
 have HT := Aside0.mk T
 clear T
 by_cases ht : t < 0
 ·rw [if_pos ht] at h
  obtain rfl := Option.some.inj h
  have hdt : decide (t < 0) = true := decide_eq_true ht
  clear ht
  go_enter Try.func7, Try.ntmps7
  go_wp2_with fail
  refine (laws_szWheel.calls k a0_0 A0_1 c0_1 l0_1 1048576 t _ (Kd.C_below HR0_1.out (by repeat (first | exact HB.out | apply below_alloc | apply pw_below_drewN | apply below_drew1))) HC0_1.out HT.out).mono ?_
  rintro e w1 ⟨rfl, hb⟩
  have HB1 : Aside0 (Below w.heap.size w w1) := ⟨bel_then (by repeat (first | exact HB.out | apply below_alloc | apply pw_below_drewN | apply below_drew1)) hb⟩
  clear hb
  go_wp2
  go_ret
  exact ⟨rfl, by repeat (first | exact HB1.out | apply below_alloc | apply pw_below_drewN | apply below_drew1)⟩
 rw [if_neg ht] at h
 have hdt : decide (t < 0) = false := decide_eq_false ht
 clear ht
 replace h := Option.bind_eq_some_iff.1 h
 obtain ⟨⟨x1, x2⟩, hx, h⟩ := h
 replace h := Option.bind_eq_some_iff.1 h
 obtain ⟨⟨y1, y2⟩, hy, h⟩ := h
 replace h := Option.bind_eq_some_iff.1 h
 obtain ⟨⟨s1, s2, s5⟩, hS, h⟩ := h
 replace h := Option.bind_eq_some_iff.1 h
 obtain ⟨g, hG, h⟩ := h
 replace h := Option.bind_eq_some_iff.1 h
 obtain ⟨b0, hE0, h⟩ := h
 replace h := Option.bind_eq_some_iff.1 h
 obtain ⟨b1, hE1, h⟩ := h
 replace h := Option.bind_eq_some_iff.1 h
 obtain ⟨⟨mx1, mx2⟩, hMX, h⟩ := h
 replace h := Option.bind_eq_some_iff.1 h
 obtain ⟨⟨mk1, mk2⟩, hMK, h⟩ := h
 replace h := Option.bind_eq_some_iff.1 h
 obtain ⟨q, hQ, h⟩ := h
 try simp only at hx hy hS hG hE0 hE1 hMX hMK hQ h
 split at h
 case isFalse => cases h
 rename_i hh
 obtain rfl := Option.some.inj h
 obtain ⟨rfl, rfl, rfl, hmx, rfl, hq⟩ := hh
 have HX := Aside0.mk hx
 have HY := Aside0.mk hy
 have HSP := Aside0.mk hS
 have HG := Aside0.mk hG
 have HE0 := Aside0.mk hE0
 have HE1 := Aside0.mk hE1
 have HMX := Aside0.mk hMX
 have HMK := Aside0.mk hMK
 have HQ := Aside0.mk hQ
 have hdm : decide (mx1 < 0) = false := decide_eq_false hmx
 have hdq : decide (q < 0) = false := decide_eq_false hq
 clear hx hy hS hG hE0 hE1 hMX hMK hQ hmx hq h
 go_enter Try.func7, Try.ntmps7
 go_wp2_with fail
 refine (laws_szWheel.calls k a0_0 A0_1 c0_1 l0_1 1048576 t _ (Kd.C_below HR0_1.out (by repeat (first | exact HB.out | apply below_alloc | apply pw_below_drewN | apply below_drew1))) HC0_1.out HT.out).mono ?_
 rintro e w1 ⟨rfl, hb⟩
 have nBX0 : Aside0 (w1.heap[w.heap.size]? = some (.cells #[.int .i64 a0_0, .slice A0_1 l0_1.length c0_1] 34 (0, 0))) := ⟨blk_below (by refine blk_alloc ?_ _; first | exact heap_alloc_new _ _ | (have h_ := heap_alloc_new (w.alloc (.cells #[.int .i64 a0_0, .slice A0_1 l0_1.length c0_1] 34)) (.cells #[.int .i64 a0_0, .slice A0_1 l0_1.length c0_1] 34); simpa using h_)) hb⟩
 have nBX1 : Aside0 (w1.heap[w.heap.size + 1]? = some (.cells #[.int .i64 a1_0, .int .i64 a1_1] 43 (0, 0))) := ⟨blk_below (by first | exact heap_alloc_new _ _ | (have h_ := heap_alloc_new (w.alloc (.cells #[.int .i64 a0_0, .slice A0_1 l0_1.length c0_1] 34)) (.cells #[.int .i64 a1_0, .int .i64 a1_1] 43); simpa using h_)) hb⟩
 have nHB : Aside0 (Below w.heap.size w w1) := ⟨bel_then (by repeat (first | exact HB.out | apply below_alloc | apply pw_below_drewN | apply below_drew1)) hb⟩
 have ZC : Aside0 (w.heap.size + 2 ≤ w1.heap.size) := ⟨by have := hb.size; simpa using this⟩
 have ZW : Aside0 (w.heap.size ≤ w.heap.size + 2) := ⟨Nat.le_add_right _ _⟩
 clear HB hb
 have HB := nHB
 clear nHB
 have BX0 := nBX0
 clear nBX0
 have BX1 := nBX1
 clear nBX1
 have zc0_0 : w1.cell? ⟨w.heap.size, 0, none⟩ = some (.int .i64 a0_0) := (blk_cell BX0.out 0).trans rfl
 have zc0_1 : w1.cell? ⟨w.heap.size, 1, none⟩ = some (.slice A0_1 l0_1.length c0_1) := (blk_cell BX0.out 1).trans rfl
 have zc1_0 : w1.cell? ⟨(w.heap.size + 1), 0, none⟩ = some (.int .i64 a1_0) := (blk_cell BX1.out 0).trans rfl
 have zc1_1 : w1.cell? ⟨(w.heap.size + 1), 1, none⟩ = some (.int .i64 a1_1) := (blk_cell BX1.out 1).trans rfl
 try go_wp2
 clear zc0_0 zc0_1 zc1_0 zc1_1
 refine start_ (n := 11) (S := fun w' => w'.cell? ⟨w.heap.size, 0, none⟩ = some (.int .i64 a0_0) ∧ w'.cell? ⟨w.heap.size, 1, none⟩ = some (.slice A0_1 l0_1.length c0_1) ∧ w'.cell? ⟨(w.heap.size + 1), 0, none⟩ = some (.int .i64 a1_0) ∧ w'.cell? ⟨(w.heap.size + 1), 1, none⟩ = some (.int .i64 a1_1)) (ds := []) #[false, false, false, false, false, false, false, false, false, false, false] (by kernel_rfl) rfl rfl ⟨(blk_cell BX0.out 0).trans rfl, (blk_cell BX0.out 1).trans rfl, (blk_cell BX1.out 0).trans rfl, (blk_cell BX1.out 1).trans rfl⟩ (fun hHeld => ?_)
 have ST : Below w1.heap.size w1 w1.drew := below_drew1 (Below.refl _ _)
 have nHB : Aside0 (Below w.heap.size w w1.drew) := ⟨bel_then HB.out ST⟩
 have nZC : Aside0 ((w.heap.size + 2) ≤ w1.drew.heap.size) := ⟨Nat.le_trans ZC.out ST.size⟩
 have nBX0 := Aside0.mk (blk_below BX0.out ST)
 have nBX1 := Aside0.mk (blk_below BX1.out ST)
 clear HB ZC BX0 BX1 ST
 generalize w1.drew = w2 at hHeld nHB nZC nBX0 nBX1 ⊢
 have HB := nHB
 clear nHB
 have ZC := nZC
 clear nZC
 have BX0 := nBX0
 clear nBX0
 have BX1 := nBX1
 clear nBX1
 refine take_ (i := 0) (N := some 22) (v := ?_) (a' := ?_) #[true, false, false, false, false, false, false, false, false, false, false] rfl rfl (by kernel_rfl) (fun _ _ _ h => h) (Or.inl ⟨by rfl, ?_⟩) hHeld ?_ ?_
 rotate_left
 ·rintro w' ⟨s0, s1, s2, s3⟩
  go_simp
  with_reducible rfl
 rotate_left
 ·simp only [Act.put, List.setIfInBounds_toArray, List.set_cons_zero, List.set_cons_succ, i64_w, i32_w]
  rfl
 refine take_ (i := 2) (N := some 24) (v := ?_) (a' := ?_) #[true, false, true, false, false, false, false, false, false, false, false] rfl rfl (by kernel_rfl) (fun _ _ _ h => h) (Or.inl ⟨by rfl, ?_⟩) hHeld ?_ ?_
 rotate_left
 ·rintro w' ⟨s0, s1, s2, s3⟩
  go_simp
  with_reducible rfl
 rotate_left
 ·simp only [Act.put, List.setIfInBounds_toArray, List.set_cons_zero, List.set_cons_succ, i64_w, i32_w]
  rfl
 refine join_ (σ := Value × Value × Nat) 2 #[true, true, true, true, true, true, true, true, true, false, false] (fun s_ => [(23, .agg #[.int .i64 x1, s_.1]), (25, .agg #[.int .i64 y1, .int .i64 y2]), (26, .tuple #[.agg #[.int .i64 s1, s_.2.1], .bool s5]), (6, .pointer (some ⟨s_.2.2, 0, none⟩)), (21, .tuple #[.agg #[.int .i64 s1, s_.2.1], .bool s5]), (27, .agg #[.int .i64 s1, s_.2.1]), (28, .bool s5)]) (fun s_ w' => (w'.cell? ⟨w.heap.size, 0, none⟩ = some (.int .i64 a0_0) ∧ w'.cell? ⟨w.heap.size, 1, none⟩ = some (.slice A0_1 l0_1.length c0_1) ∧ w'.cell? ⟨(w.heap.size + 1), 0, none⟩ = some (.int .i64 a1_0) ∧ w'.cell? ⟨(w.heap.size + 1), 1, none⟩ = some (.int .i64 a1_1)) ∧ Below w2.heap.size w2 w' ∧ ∃ lo hi, (w2.heap.size ≤ lo ∧ lo ≤ hi) ∧ hi ≤ w'.heap.size ∧ Kd.S (Kd.slice 45 k45) 48 w' lo (fun k => lo ≤ k ∧ k < hi) s_.2.1 s2 ∧ (w2.heap.size ≤ s_.2.2 ∧ (s_.2.2 < lo ∨ hi ≤ s_.2.2)) ∧ w'.heap[s_.2.2]? = some (.cells #[.int .i64 0, .slice none 0 0] 27 (0, 0))) ?_ ?_
 rotate_left
 ·intro hCont
  have ST := Aside0.mk (Below.refl w2.heap.size w2)
  refine two_ (i := 1) (j := 8) (Ni := some 23) (Nj := some 6) #[true, true, true, false, false, false, false, false, false, false, false] #[true, false, true, false, false, false, false, false, true, false, false] rfl rfl rfl rfl (by kernel_rfl) (by decide) (by decide) (fun K hK => ?_) (fun K hK => ?_)
  ·skip
   refine goes_ Try.func20 (by kernel_rfl) rfl #[.agg #[.int .i64 a0_0, .slice A0_1 l0_1.length c0_1]] (by rfl) rfl rfl (by (try simp only [List.map_toArray, List.map_cons, List.map_nil]); first | done | rfl | (simp only [List.length_drop, List.length_take]; rfl)) ?_
   refine (laws_toWheel.calls k a0_0 _ _ l0_1 x1 x2 _ (Kd.C_below HR0_1.out (bel_then HB.out ST.out)) HC0_1.out HX.out).mono ?_
   rintro e w3 ⟨v, rfl, hr, hb⟩
   refine ⟨_, rfl, ?_⟩
   have nST : Aside0 (Below w2.heap.size w2 w3) := ⟨bel_then ST.out hb⟩
   clear ST
   have ST := nST
   clear nST
   have HT := Aside0.mk hr
   obtain ⟨AT, cT, rfl⟩ := Kd.S_slice hr
   clear hb hr
   refine hK.out _ _ ⟨(blk_cell (blk_below BX0.out ST.out) 0).trans rfl, (blk_cell (blk_below BX0.out ST.out) 1).trans rfl, (blk_cell (blk_below BX1.out ST.out) 0).trans rfl, (blk_cell (blk_below BX1.out ST.out) 1).trans rfl⟩ (fun hHeld => ?_)
   clear hK K
   refine norm_ (a' := ?_) ?_ ?_
   rotate_left
   ·show Act.put _ (some 23) _ = _
    simp only [Act.put, List.setIfInBounds_toArray, List.set_cons_zero, List.set_cons_succ, i64_w, i32_w]
    rfl
   refine two_ (i := 3) (j := 8) (Ni := some 25) (Nj := some 6) #[true, true, true, true, false, false, false, false, false, false, false] #[true, true, true, false, false, false, false, false, true, false, false] rfl rfl rfl rfl (by kernel_rfl) (by decide) (by decide) (fun K hK => ?_) (fun K hK => ?_)
   ·skip
    refine goes_ Try.func25 (by kernel_rfl) rfl #[.agg #[.int .i64 a1_0, .int .i64 a1_1]] (by rfl) rfl rfl (by (try simp only [List.map_toArray, List.map_cons, List.map_nil]); first | done | rfl | (simp only [List.length_drop, List.length_take]; rfl)) ?_
    refine (laws_toTimer.calls a1_0 a1_1 y1 y2 _ HY.out).mono ?_
    rintro e w4 ⟨rfl, hb⟩
    refine ⟨_, rfl, ?_⟩
    have nST : Aside0 (Below w2.heap.size w2 w4) := ⟨bel_then ST.out hb⟩
    have nHT := Aside0.mk (Kd.S_below HT.out hb)
    clear ST HT
    have ST := nST
    clear nST
    have HT := nHT
    clear nHT
    clear hb
    refine hK.out _ _ ⟨(blk_cell (blk_below BX0.out ST.out) 0).trans rfl, (blk_cell (blk_below BX0.out ST.out) 1).trans rfl, (blk_cell (blk_below BX1.out ST.out) 0).trans rfl, (blk_cell (blk_below BX1.out ST.out) 1).trans rfl⟩ (fun hHeld => ?_)
    clear hK K
    refine norm_ (a' := ?_) ?_ ?_
    rotate_left
    ·show Act.put _ (some 25) _ = _
     simp only [Act.put, List.setIfInBounds_toArray, List.set_cons_zero, List.set_cons_succ, i64_w, i32_w]
     rfl
    refine two_ (i := 4) (j := 8) (Ni := some 26) (Nj := some 6) #[true, true, true, true, true, false, false, false, false, false, false] #[true, true, true, true, false, false, false, false, true, false, false] rfl rfl rfl rfl (by kernel_rfl) (by decide) (by decide) (fun K hK => ?_) (fun K hK => ?_)
    ·skip
     refine goes_ Try.func24 (by kernel_rfl) rfl #[.agg #[.int .i64 x1, .slice AT x2.length cT], .agg #[.int .i64 y1, .int .i64 y2]] (by rfl) rfl rfl (by (try simp only [List.map_toArray, List.map_cons, List.map_nil]); first | done | rfl | (simp only [List.length_drop, List.length_take]; rfl)) ?_
     refine (spec_SetTimer.calls k x1 _ _ x2 y1 y2 s1 s2 s5 _ (law_C (Kd.S_R HT.out) (Below.refl _ _)) (law_c (Kd.S_R HT.out)) HSP.out).mono ?_
     rintro e w5 ⟨v, rfl, hr, hb⟩
     refine ⟨_, rfl, ?_⟩
     have HLO := Aside0.mk ST.out.size
     have HLH := Aside0.mk hb.size
     have nST : Aside0 (Below w2.heap.size w2 w5) := ⟨bel_then ST.out hb⟩
     have nHT := Aside0.mk (Kd.S_below HT.out hb)
     clear ST HT
     have ST := nST
     clear nST
     have HT := nHT
     clear nHT
     have HM := Aside0.mk (Kd.S_mono (Kd.S_bound hr) (fun k hk => (⟨hk.2.1, hk.2.2.1⟩ : w4.heap.size ≤ k ∧ k < w5.heap.size)))
     have HL : Aside0 (w5.heap.size ≤ w5.heap.size) := ⟨Nat.le_refl _⟩
     clear hb hr
     refine hK.out _ _ ⟨(blk_cell (blk_below BX0.out ST.out) 0).trans rfl, (blk_cell (blk_below BX0.out ST.out) 1).trans rfl, (blk_cell (blk_below BX1.out ST.out) 0).trans rfl, (blk_cell (blk_below BX1.out ST.out) 1).trans rfl⟩ (fun hHeld => ?_)
     clear hK K
     refine norm_ (a' := ?_) ?_ ?_
     rotate_left
     ·show Act.put _ (some 26) _ = _
      simp only [Act.put, List.setIfInBounds_toArray, List.set_cons_zero, List.set_cons_succ, i64_w, i32_w]
      rfl
     refine pure_ (i := 5) (N := some 21) (v := ?_) (a' := ?_) #[true, true, true, true, true, true, false, false, false, false, false] rfl rfl (by kernel_rfl) (fun _ _ _ h => h) (Or.inl ⟨by rfl, ?_⟩) ?_ ?_
     rotate_left
     ·intro w'
      go_simp
      with_reducible rfl
     rotate_left
     ·simp only [Act.put, List.setIfInBounds_toArray, List.set_cons_zero, List.set_cons_succ, i64_w, i32_w]
      rfl
     refine pure_ (i := 6) (N := some 27) (v := ?_) (a' := ?_) #[true, true, true, true, true, true, true, false, false, false, false] rfl rfl (by kernel_rfl) (fun _ _ _ h => h) (Or.inl ⟨by rfl, ?_⟩) ?_ ?_
     rotate_left
     ·intro w'
      go_simp
      with_reducible rfl
     rotate_left
     ·simp only [Act.put, List.setIfInBounds_toArray, List.set_cons_zero, List.set_cons_succ, i64_w, i32_w]
      rfl
     refine pure_ (i := 7) (N := some 28) (v := ?_) (a' := ?_) #[true, true, true, true, true, true, true, true, false, false, false] rfl rfl (by kernel_rfl) (fun _ _ _ h => h) (Or.inl ⟨by rfl, ?_⟩) ?_ ?_
     rotate_left
     ·intro w'
      go_simp
      with_reducible rfl
     rotate_left
     ·simp only [Act.put, List.setIfInBounds_toArray, List.set_cons_zero, List.set_cons_succ, i64_w, i32_w]
      rfl
     refine one_ (i := 8) (N := some 6) #[true, true, true, true, true, true, true, true, true, false, false] rfl rfl (by kernel_rfl) (by decide) (fun K hK => ?_)
     refine box_step ?hg (N := 6) ?hd (cs := #[.int .i64 0, .slice none 0 0]) (t := 27) ?hr ?_; (case hd => rfl); (case hg => rfl); (case hr => first | (go_simp; done) | (go_simp; rfl))
     intro gA hg w6 hbox hb
     have HGE : Aside0 (w2.heap.size ≤ gA) := ⟨by rw [hg]; exact ST.out.size⟩
     have HD : Aside0 (gA < w4.heap.size ∨ w5.heap.size ≤ gA) := ⟨.inr (by rw [hg]; exact HL.out)⟩
     have nST : Aside0 (Below w2.heap.size w2 w6) := ⟨bel_then ST.out hb⟩
     have nHT := Aside0.mk (Kd.S_below HT.out hb)
     have nHM := Aside0.mk (Kd.S_below HM.out hb)
     have nHL := Aside0.mk (Nat.le_trans HL.out hb.size)
     clear ST HT HM HL
     have ST := nST
     clear nST
     have HT := nHT
     clear nHT
     have HM := nHM
     clear nHM
     have HL := nHL
     clear nHL
     have HGB := Aside0.mk hbox
     clear hb hbox hg
     refine hK.out _ _ ⟨(blk_cell (blk_below BX0.out ST.out) 0).trans rfl, (blk_cell (blk_below BX0.out ST.out) 1).trans rfl, (blk_cell (blk_below BX1.out ST.out) 0).trans rfl, (blk_cell (blk_below BX1.out ST.out) 1).trans rfl⟩ (fun hHeld => ?_)
     clear hK K
     refine norm_ (a' := ?_) ?_ ?_
     rotate_left
     ·show Act.put _ (some 6) _ = _
      simp only [Act.put, List.setIfInBounds_toArray, List.set_cons_zero, List.set_cons_succ, i64_w, i32_w]
      rfl
     exact norm_ (by simp only [putAll, Act.put, List.setIfInBounds_toArray, List.set_cons_zero, List.set_cons_succ]) (hCont (.slice AT x2.length cT, v, gA) _ ⟨hHeld, ST.out, _, _, ⟨HLO.out, HLH.out⟩, HL.out, HM.out, ⟨HGE.out, HD.out⟩, HGB.out⟩)
    ·skip
     refine box_step ?hg (N := 6) ?hd (cs := #[.int .i64 0, .slice none 0 0]) (t := 27) ?hr ?_; (case hd => rfl); (case hg => rfl); (case hr => first | (go_simp; done) | (go_simp; rfl))
     intro gA hg w7 hbox hb
     have HGE : Aside0 (w2.heap.size ≤ gA) := ⟨by rw [hg]; exact ST.out.size⟩
     have nST : Aside0 (Below w2.heap.size w2 w7) := ⟨bel_then ST.out hb⟩
     have nHT := Aside0.mk (Kd.S_below HT.out hb)
     clear ST HT
     have ST := nST
     clear nST
     have HT := nHT
     clear nHT
     have HGB := Aside0.mk hbox
     clear hb hbox hg
     refine hK.out _ _ ⟨(blk_cell (blk_below BX0.out ST.out) 0).trans rfl, (blk_cell (blk_below BX0.out ST.out) 1).trans rfl, (blk_cell (blk_below BX1.out ST.out) 0).trans rfl, (blk_cell (blk_below BX1.out ST.out) 1).trans rfl⟩ (fun hHeld => ?_)
     clear hK K
     refine norm_ (a' := ?_) ?_ ?_
     rotate_left
     ·show Act.put _ (some 6) _ = _
      simp only [Act.put, List.setIfInBounds_toArray, List.set_cons_zero, List.set_cons_succ, i64_w, i32_w]
      rfl
     refine one_ (i := 4) (N := some 26) #[true, true, true, true, true, false, false, false, true, false, false] rfl rfl (by kernel_rfl) (by decide) (fun K hK => ?_)
     refine goes_ Try.func24 (by kernel_rfl) rfl #[.agg #[.int .i64 x1, .slice AT x2.length cT], .agg #[.int .i64 y1, .int .i64 y2]] (by rfl) rfl rfl (by (try simp only [List.map_toArray, List.map_cons, List.map_nil]); first | done | rfl | (simp only [List.length_drop, List.length_take]; rfl)) ?_
     refine (spec_SetTimer.calls k x1 _ _ x2 y1 y2 s1 s2 s5 _ (law_C (Kd.S_R HT.out) (Below.refl _ _)) (law_c (Kd.S_R HT.out)) HSP.out).mono ?_
     rintro e w8 ⟨v, rfl, hr, hb⟩
     refine ⟨_, rfl, ?_⟩
     have HD : Aside0 (gA < w7.heap.size ∨ w8.heap.size ≤ gA) := ⟨.inl (blk_lt HGB.out)⟩
     have HLO := Aside0.mk ST.out.size
     have HLH := Aside0.mk hb.size
     have nST : Aside0 (Below w2.heap.size w2 w8) := ⟨bel_then ST.out hb⟩
     have nHT := Aside0.mk (Kd.S_below HT.out hb)
     have nHGB := Aside0.mk (blk_below HGB.out hb)
     clear ST HT HGB
     have ST := nST
     clear nST
     have HT := nHT
     clear nHT
     have HGB := nHGB
     clear nHGB
     have HM := Aside0.mk (Kd.S_mono (Kd.S_bound hr) (fun k hk => (⟨hk.2.1, hk.2.2.1⟩ : w7.heap.size ≤ k ∧ k < w8.heap.size)))
     have HL : Aside0 (w8.heap.size ≤ w8.heap.size) := ⟨Nat.le_refl _⟩
     clear hb hr
     refine hK.out _ _ ⟨(blk_cell (blk_below BX0.out ST.out) 0).trans rfl, (blk_cell (blk_below BX0.out ST.out) 1).trans rfl, (blk_cell (blk_below BX1.out ST.out) 0).trans rfl, (blk_cell (blk_below BX1.out ST.out) 1).trans rfl⟩ (fun hHeld => ?_)
     clear hK K
     refine norm_ (a' := ?_) ?_ ?_
     rotate_left
     ·show Act.put _ (some 26) _ = _
      simp only [Act.put, List.setIfInBounds_toArray, List.set_cons_zero, List.set_cons_succ, i64_w, i32_w]
      rfl
     refine pure_ (i := 5) (N := some 21) (v := ?_) (a' := ?_) #[true, true, true, true, true, true, false, false, true, false, false] rfl rfl (by kernel_rfl) (fun _ _ _ h => h) (Or.inl ⟨by rfl, ?_⟩) ?_ ?_
     rotate_left
     ·intro w'
      go_simp
      with_reducible rfl
     rotate_left
     ·simp only [Act.put, List.setIfInBounds_toArray, List.set_cons_zero, List.set_cons_succ, i64_w, i32_w]
      rfl
     refine pure_ (i := 6) (N := some 27) (v := ?_) (a' := ?_) #[true, true, true, true, true, true, true, false, true, false, false] rfl rfl (by kernel_rfl) (fun _ _ _ h => h) (Or.inl ⟨by rfl, ?_⟩) ?_ ?_
     rotate_left
     ·intro w'
      go_simp
      with_reducible rfl
     rotate_left
     ·simp only [Act.put, List.setIfInBounds_toArray, List.set_cons_zero, List.set_cons_succ, i64_w, i32_w]
      rfl
     refine pure_ (i := 7) (N := some 28) (v := ?_) (a' := ?_) #[true, true, true, true, true, true, true, true, true, false, false] rfl rfl (by kernel_rfl) (fun _ _ _ h => h) (Or.inl ⟨by rfl, ?_⟩) ?_ ?_
     rotate_left
     ·intro w'
      go_simp
      with_reducible rfl
     rotate_left
     ·simp only [Act.put, List.setIfInBounds_toArray, List.set_cons_zero, List.set_cons_succ, i64_w, i32_w]
      rfl
     exact norm_ (by simp only [putAll, Act.put, List.setIfInBounds_toArray, List.set_cons_zero, List.set_cons_succ]) (hCont (.slice AT x2.length cT, v, gA) _ ⟨hHeld, ST.out, _, _, ⟨HLO.out, HLH.out⟩, HL.out, HM.out, ⟨HGE.out, HD.out⟩, HGB.out⟩)
   ·skip
    refine box_step ?hg (N := 6) ?hd (cs := #[.int .i64 0, .slice none 0 0]) (t := 27) ?hr ?_; (case hd => rfl); (case hg => rfl); (case hr => first | (go_simp; done) | (go_simp; rfl))
    intro gA hg w9 hbox hb
    have HGE : Aside0 (w2.heap.size ≤ gA) := ⟨by rw [hg]; exact ST.out.size⟩
    have nST : Aside0 (Below w2.heap.size w2 w9) := ⟨bel_then ST.out hb⟩
    have nHT := Aside0.mk (Kd.S_below HT.out hb)
    clear ST HT
    have ST := nST
    clear nST
    have HT := nHT
    clear nHT
    have HGB := Aside0.mk hbox
    clear hb hbox hg
    refine hK.out _ _ ⟨(blk_cell (blk_below BX0.out ST.out) 0).trans rfl, (blk_cell (blk_below BX0.out ST.out) 1).trans rfl, (blk_cell (blk_below BX1.out ST.out) 0).trans rfl, (blk_cell (blk_below BX1.out ST.out) 1).trans rfl⟩ (fun hHeld => ?_)
    clear hK K
    refine norm_ (a' := ?_) ?_ ?_
    rotate_left
    ·show Act.put _ (some 6) _ = _
     simp only [Act.put, List.setIfInBounds_toArray, List.set_cons_zero, List.set_cons_succ, i64_w, i32_w]
     rfl
    refine one_ (i := 3) (N := some 25) #[true, true, true, true, false, false, false, false, true, false, false] rfl rfl (by kernel_rfl) (by decide) (fun K hK => ?_)
    refine goes_ Try.func25 (by kernel_rfl) rfl #[.agg #[.int .i64 a1_0, .int .i64 a1_1]] (by rfl) rfl rfl (by (try simp only [List.map_toArray, List.map_cons, List.map_nil]); first | done | rfl | (simp only [List.length_drop, List.length_take]; rfl)) ?_
    refine (laws_toTimer.calls a1_0 a1_1 y1 y2 _ HY.out).mono ?_
    rintro e w10 ⟨rfl, hb⟩
    refine ⟨_, rfl, ?_⟩
    have nST : Aside0 (Below w2.heap.size w2 w10) := ⟨bel_then ST.out hb⟩
    have nHT := Aside0.mk (Kd.S_below HT.out hb)
    have nHGB := Aside0.mk (blk_below HGB.out hb)
    clear ST HT HGB
    have ST := nST
    clear nST
    have HT := nHT
    clear nHT
    have HGB := nHGB
    clear nHGB
    clear hb
    refine hK.out _ _ ⟨(blk_cell (blk_below BX0.out ST.out) 0).trans rfl, (blk_cell (blk_below BX0.out ST.out) 1).trans rfl, (blk_cell (blk_below BX1.out ST.out) 0).trans rfl, (blk_cell (blk_below BX1.out ST.out) 1).trans rfl⟩ (fun hHeld => ?_)
    clear hK K
    refine norm_ (a' := ?_) ?_ ?_
    rotate_left
    ·show Act.put _ (some 25) _ = _
     simp only [Act.put, List.setIfInBounds_toArray, List.set_cons_zero, List.set_cons_succ, i64_w, i32_w]
     rfl
    refine one_ (i := 4) (N := some 26) #[true, true, true, true, true, false, false, false, true, false, false] rfl rfl (by kernel_rfl) (by decide) (fun K hK => ?_)
    refine goes_ Try.func24 (by kernel_rfl) rfl #[.agg #[.int .i64 x1, .slice AT x2.length cT], .agg #[.int .i64 y1, .int .i64 y2]] (by rfl) rfl rfl (by (try simp only [List.map_toArray, List.map_cons, List.map_nil]); first | done | rfl | (simp only [List.length_drop, List.length_take]; rfl)) ?_
    refine (spec_SetTimer.calls k x1 _ _ x2 y1 y2 s1 s2 s5 _ (law_C (Kd.S_R HT.out) (Below.refl _ _)) (law_c (Kd.S_R HT.out)) HSP.out).mono ?_
    rintro e w11 ⟨v, rfl, hr, hb⟩
    refine ⟨_, rfl, ?_⟩
    have HD : Aside0 (gA < w10.heap.size ∨ w11.heap.size ≤ gA) := ⟨.inl (blk_lt HGB.out)⟩
    have HLO := Aside0.mk ST.out.size
    have HLH := Aside0.mk hb.size
    have nST : Aside0 (Below w2.heap.size w2 w11) := ⟨bel_then ST.out hb⟩
    have nHT := Aside0.mk (Kd.S_below HT.out hb)
    have nHGB := Aside0.mk (blk_below HGB.out hb)
    clear ST HT HGB
    have ST := nST
    clear nST
    have HT := nHT
    clear nHT
    have HGB := nHGB
    clear nHGB
    have HM := Aside0.mk (Kd.S_mono (Kd.S_bound hr) (fun k hk => (⟨hk.2.1, hk.2.2.1⟩ : w10.heap.size ≤ k ∧ k < w11.heap.size)))
    have HL : Aside0 (w11.heap.size ≤ w11.heap.size) := ⟨Nat.le_refl _⟩
    clear hb hr
    refine hK.out _ _ ⟨(blk_cell (blk_below BX0.out ST.out) 0).trans rfl, (blk_cell (blk_below BX0.out ST.out) 1).trans rfl, (blk_cell (blk_below BX1.out ST.out) 0).trans rfl, (blk_cell (blk_below BX1.out ST.out) 1).trans rfl⟩ (fun hHeld => ?_)
    clear hK K
    refine norm_ (a' := ?_) ?_ ?_
    rotate_left
    ·show Act.put _ (some 26) _ = _
     simp only [Act.put, List.setIfInBounds_toArray, List.set_cons_zero, List.set_cons_succ, i64_w, i32_w]
     rfl
    refine pure_ (i := 5) (N := some 21) (v := ?_) (a' := ?_) #[true, true, true, true, true, true, false, false, true, false, false] rfl rfl (by kernel_rfl) (fun _ _ _ h => h) (Or.inl ⟨by rfl, ?_⟩) ?_ ?_
    rotate_left
    ·intro w'
     go_simp
     with_reducible rfl
    rotate_left
    ·simp only [Act.put, List.setIfInBounds_toArray, List.set_cons_zero, List.set_cons_succ, i64_w, i32_w]
     rfl
    refine pure_ (i := 6) (N := some 27) (v := ?_) (a' := ?_) #[true, true, true, true, true, true, true, false, true, false, false] rfl rfl (by kernel_rfl) (fun _ _ _ h => h) (Or.inl ⟨by rfl, ?_⟩) ?_ ?_
    rotate_left
    ·intro w'
     go_simp
     with_reducible rfl
    rotate_left
    ·simp only [Act.put, List.setIfInBounds_toArray, List.set_cons_zero, List.set_cons_succ, i64_w, i32_w]
     rfl
    refine pure_ (i := 7) (N := some 28) (v := ?_) (a' := ?_) #[true, true, true, true, true, true, true, true, true, false, false] rfl rfl (by kernel_rfl) (fun _ _ _ h => h) (Or.inl ⟨by rfl, ?_⟩) ?_ ?_
    rotate_left
    ·intro w'
     go_simp
     with_reducible rfl
    rotate_left
    ·simp only [Act.put, List.setIfInBounds_toArray, List.set_cons_zero, List.set_cons_succ, i64_w, i32_w]
     rfl
    exact norm_ (by simp only [putAll, Act.put, List.setIfInBounds_toArray, List.set_cons_zero, List.set_cons_succ]) (hCont (.slice AT x2.length cT, v, gA) _ ⟨hHeld, ST.out, _, _, ⟨HLO.out, HLH.out⟩, HL.out, HM.out, ⟨HGE.out, HD.out⟩, HGB.out⟩)
  ·skip
   refine box_step ?hg (N := 6) ?hd (cs := #[.int .i64 0, .slice none 0 0]) (t := 27) ?hr ?_; (case hd => rfl); (case hg => rfl); (case hr => first | (go_simp; done) | (go_simp; rfl))
   intro gA hg w12 hbox hb
   have HGE : Aside0 (w2.heap.size ≤ gA) := ⟨by rw [hg]; exact ST.out.size⟩
   have nST : Aside0 (Below w2.heap.size w2 w12) := ⟨bel_then ST.out hb⟩
   clear ST
   have ST := nST
   clear nST
   have HGB := Aside0.mk hbox
   clear hb hbox hg
   refine hK.out _ _ ⟨(blk_cell (blk_below BX0.out ST.out) 0).trans rfl, (blk_cell (blk_below BX0.out ST.out) 1).trans rfl, (blk_cell (blk_below BX1.out ST.out) 0).trans rfl, (blk_cell (blk_below BX1.out ST.out) 1).trans rfl⟩ (fun hHeld => ?_)
   clear hK K
   refine norm_ (a' := ?_) ?_ ?_
   rotate_left
   ·show Act.put _ (some 6) _ = _
    simp only [Act.put, List.setIfInBounds_toArray, List.set_cons_zero, List.set_cons_succ, i64_w, i32_w]
    rfl
   refine one_ (i := 1) (N := some 23) #[true, true, true, false, false, false, false, false, true, false, false] rfl rfl (by kernel_rfl) (by decide) (fun K hK => ?_)
   refine goes_ Try.func20 (by kernel_rfl) rfl #[.agg #[.int .i64 a0_0, .slice A0_1 l0_1.length c0_1]] (by rfl) rfl rfl (by (try simp only [List.map_toArray, List.map_cons, List.map_nil]); first | done | rfl | (simp only [List.length_drop, List.length_take]; rfl)) ?_
   refine (laws_toWheel.calls k a0_0 _ _ l0_1 x1 x2 _ (Kd.C_below HR0_1.out (bel_then HB.out ST.out)) HC0_1.out HX.out).mono ?_
   rintro e w13 ⟨v, rfl, hr, hb⟩
   refine ⟨_, rfl, ?_⟩
   have nST : Aside0 (Below w2.heap.size w2 w13) := ⟨bel_then ST.out hb⟩
   have nHGB := Aside0.mk (blk_below HGB.out hb)
   clear ST HGB
   have ST := nST
   clear nST
   have HGB := nHGB
   clear nHGB
   have HT := Aside0.mk hr
   obtain ⟨AT, cT, rfl⟩ := Kd.S_slice hr
   clear hb hr
   refine hK.out _ _ ⟨(blk_cell (blk_below BX0.out ST.out) 0).trans rfl, (blk_cell (blk_below BX0.out ST.out) 1).trans rfl, (blk_cell (blk_below BX1.out ST.out) 0).trans rfl, (blk_cell (blk_below BX1.out ST.out) 1).trans rfl⟩ (fun hHeld => ?_)
   clear hK K
   refine norm_ (a' := ?_) ?_ ?_
   rotate_left
   ·show Act.put _ (some 23) _ = _
    simp only [Act.put, List.setIfInBounds_toArray, List.set_cons_zero, List.set_cons_succ, i64_w, i32_w]
    rfl
   refine one_ (i := 3) (N := some 25) #[true, true, true, true, false, false, false, false, true, false, false] rfl rfl (by kernel_rfl) (by decide) (fun K hK => ?_)
   refine goes_ Try.func25 (by kernel_rfl) rfl #[.agg #[.int .i64 a1_0, .int .i64 a1_1]] (by rfl) rfl rfl (by (try simp only [List.map_toArray, List.map_cons, List.map_nil]); first | done | rfl | (simp only [List.length_drop, List.length_take]; rfl)) ?_
   refine (laws_toTimer.calls a1_0 a1_1 y1 y2 _ HY.out).mono ?_
   rintro e w14 ⟨rfl, hb⟩
   refine ⟨_, rfl, ?_⟩
   have nST : Aside0 (Below w2.heap.size w2 w14) := ⟨bel_then ST.out hb⟩
   have nHT := Aside0.mk (Kd.S_below HT.out hb)
   have nHGB := Aside0.mk (blk_below HGB.out hb)
   clear ST HT HGB
   have ST := nST
   clear nST
   have HT := nHT
   clear nHT
   have HGB := nHGB
   clear nHGB
   clear hb
   refine hK.out _ _ ⟨(blk_cell (blk_below BX0.out ST.out) 0).trans rfl, (blk_cell (blk_below BX0.out ST.out) 1).trans rfl, (blk_cell (blk_below BX1.out ST.out) 0).trans rfl, (blk_cell (blk_below BX1.out ST.out) 1).trans rfl⟩ (fun hHeld => ?_)
   clear hK K
   refine norm_ (a' := ?_) ?_ ?_
   rotate_left
   ·show Act.put _ (some 25) _ = _
    simp only [Act.put, List.setIfInBounds_toArray, List.set_cons_zero, List.set_cons_succ, i64_w, i32_w]
    rfl
   refine one_ (i := 4) (N := some 26) #[true, true, true, true, true, false, false, false, true, false, false] rfl rfl (by kernel_rfl) (by decide) (fun K hK => ?_)
   refine goes_ Try.func24 (by kernel_rfl) rfl #[.agg #[.int .i64 x1, .slice AT x2.length cT], .agg #[.int .i64 y1, .int .i64 y2]] (by rfl) rfl rfl (by (try simp only [List.map_toArray, List.map_cons, List.map_nil]); first | done | rfl | (simp only [List.length_drop, List.length_take]; rfl)) ?_
   refine (spec_SetTimer.calls k x1 _ _ x2 y1 y2 s1 s2 s5 _ (law_C (Kd.S_R HT.out) (Below.refl _ _)) (law_c (Kd.S_R HT.out)) HSP.out).mono ?_
   rintro e w15 ⟨v, rfl, hr, hb⟩
   refine ⟨_, rfl, ?_⟩
   have HD : Aside0 (gA < w14.heap.size ∨ w15.heap.size ≤ gA) := ⟨.inl (blk_lt HGB.out)⟩
   have HLO := Aside0.mk ST.out.size
   have HLH := Aside0.mk hb.size
   have nST : Aside0 (Below w2.heap.size w2 w15) := ⟨bel_then ST.out hb⟩
   have nHT := Aside0.mk (Kd.S_below HT.out hb)
   have nHGB := Aside0.mk (blk_below HGB.out hb)
   clear ST HT HGB
   have ST := nST
   clear nST
   have HT := nHT
   clear nHT
   have HGB := nHGB
   clear nHGB
   have HM := Aside0.mk (Kd.S_mono (Kd.S_bound hr) (fun k hk => (⟨hk.2.1, hk.2.2.1⟩ : w14.heap.size ≤ k ∧ k < w15.heap.size)))
   have HL : Aside0 (w15.heap.size ≤ w15.heap.size) := ⟨Nat.le_refl _⟩
   clear hb hr
   refine hK.out _ _ ⟨(blk_cell (blk_below BX0.out ST.out) 0).trans rfl, (blk_cell (blk_below BX0.out ST.out) 1).trans rfl, (blk_cell (blk_below BX1.out ST.out) 0).trans rfl, (blk_cell (blk_below BX1.out ST.out) 1).trans rfl⟩ (fun hHeld => ?_)
   clear hK K
   refine norm_ (a' := ?_) ?_ ?_
   rotate_left
   ·show Act.put _ (some 26) _ = _
    simp only [Act.put, List.setIfInBounds_toArray, List.set_cons_zero, List.set_cons_succ, i64_w, i32_w]
    rfl
   refine pure_ (i := 5) (N := some 21) (v := ?_) (a' := ?_) #[true, true, true, true, true, true, false, false, true, false, false] rfl rfl (by kernel_rfl) (fun _ _ _ h => h) (Or.inl ⟨by rfl, ?_⟩) ?_ ?_
   rotate_left
   ·intro w'
    go_simp
    with_reducible rfl
   rotate_left
   ·simp only [Act.put, List.setIfInBounds_toArray, List.set_cons_zero, List.set_cons_succ, i64_w, i32_w]
    rfl
   refine pure_ (i := 6) (N := some 27) (v := ?_) (a' := ?_) #[true, true, true, true, true, true, true, false, true, false, false] rfl rfl (by kernel_rfl) (fun _ _ _ h => h) (Or.inl ⟨by rfl, ?_⟩) ?_ ?_
   rotate_left
   ·intro w'
    go_simp
    with_reducible rfl
   rotate_left
   ·simp only [Act.put, List.setIfInBounds_toArray, List.set_cons_zero, List.set_cons_succ, i64_w, i32_w]
    rfl
   refine pure_ (i := 7) (N := some 28) (v := ?_) (a' := ?_) #[true, true, true, true, true, true, true, true, true, false, false] rfl rfl (by kernel_rfl) (fun _ _ _ h => h) (Or.inl ⟨by rfl, ?_⟩) ?_ ?_
   rotate_left
   ·intro w'
    go_simp
    with_reducible rfl
   rotate_left
   ·simp only [Act.put, List.setIfInBounds_toArray, List.set_cons_zero, List.set_cons_succ, i64_w, i32_w]
    rfl
   exact norm_ (by simp only [putAll, Act.put, List.setIfInBounds_toArray, List.set_cons_zero, List.set_cons_succ]) (hCont (.slice AT x2.length cT, v, gA) _ ⟨hHeld, ST.out, _, _, ⟨HLO.out, HLH.out⟩, HL.out, HM.out, ⟨HGE.out, HD.out⟩, HGB.out⟩)
 rintro ⟨vT, v, gq1⟩ w16 ⟨hHeld, hst, lo1, hi1, hz1, hy1, ho1, hg1, hbx1⟩
 have ST := Aside0.mk hst
 have ZLa1 := Aside0.mk hz1
 have ZLb1 : Aside0 (w2.heap.size ≤ gq1 ∧ (gq1 < lo1 ∨ hi1 ≤ gq1)) := ⟨hg1⟩
 have ZLc1 := Aside0.mk ZC.out
 have ZLd1 := Aside0.mk hy1
 have BXN : Aside0 (w16.heap[gq1]? = some (.cells #[.int .i64 0, .slice none 0 0] 27 (0, 0))) := ⟨hbx1⟩
 have ZLe1 : Aside0 (gq1 < w16.heap.size) := ⟨blk_lt BXN.out⟩
 have HO1 : Aside0 (Kd.S (Kd.slice 45 k45) 48 w16 lo1 (fun k => lo1 ≤ k ∧ k < hi1) v s2) := ⟨ho1⟩
 clear hst hz1 hg1 hy1 ho1 hbx1
 obtain ⟨A1_, c1_, rfl⟩ := Kd.S_slice HO1.out
 have nHB : Aside0 (Below w.heap.size w w16) := ⟨bel_then HB.out ST.out⟩
 have nBX0 := Aside0.mk (blk_below BX0.out ST.out)
 have nBX1 := Aside0.mk (blk_below BX1.out ST.out)
 clear HB BX0 BX1 ST ZC
 have HB := nHB
 clear nHB
 have BX0 := nBX0
 clear nBX0
 have BX1 := nBX1
 clear nBX1
 refine norm_ (a' := ?_) ?_ ?_
 rotate_left
 ·simp only [putAll, Act.put, List.setIfInBounds_toArray, List.set_cons_zero, List.set_cons_succ]
  rfl
 refine one_ (i := 9) (N := none) #[true, true, true, true, true, true, true, true, true, true, false] rfl rfl (by kernel_rfl) (by decide) (fun K hK => ?_)
 have hs0_ : w16.cell? ⟨gq1, 0, none⟩ = some (.int .i64 0) := (blk_cell BXN.out 0).trans rfl
 have hs1_ : w16.cell? ⟨gq1, 1, none⟩ = some (.slice none 0 0) := (blk_cell BXN.out 1).trans rfl
 have hf0_ := blk_frozen BXN.out 0
 have hf1_ := blk_frozen BXN.out 1
 refine skip_ (w1 := ?_) (by rfl) rfl ?_ ?_
 rotate_left
 ·go_simp
  rfl
 clear hs0_ hs1_ hf0_ hf1_ hHeld
 have KP : Kept w16 ((w16.setCell ⟨gq1, 0, none⟩ (.int .i64 s1)).setCell ⟨gq1, 1, none⟩ (.slice A1_ s2.length c1_)) (fun k => k = gq1) := Kept.setCell (p := ⟨gq1, 1, none⟩) (Kept.setCell (p := ⟨gq1, 0, none⟩) (Kept.refl w16 (fun k => k = gq1)) (Or.inl rfl) (.int .i64 s1)) (Or.inl rfl) (.slice A1_ s2.length c1_)
 have hge : w.heap.size ≤ gq1 := by have := ZLa1.out; have := ZLb1.out; have := ZLc1.out; have := ZLd1.out; have := ZLe1.out; have := HB.out.size; have := ZW.out; omega
 have nHB : Aside0 (Below w.heap.size w ((w16.setCell ⟨gq1, 0, none⟩ (.int .i64 s1)).setCell ⟨gq1, 1, none⟩ (.slice A1_ s2.length c1_))) := ⟨(HB.out.setCell (p := ⟨gq1, 0, none⟩) hge (.int .i64 s1)).setCell (p := ⟨gq1, 1, none⟩) hge (.slice A1_ s2.length c1_)⟩
 have nHO1 := Aside0.mk (Kd.S_kept HO1.out KP (fun k h1 h2 => by have := ZLa1.out; have := ZLb1.out; have := ZLc1.out; have := ZLd1.out; have := ZLe1.out; have := ZW.out; omega))
 have nBX0 := Aside0.mk (blk_kept BX0.out KP (fun h2 => by have := ZLa1.out; have := ZLb1.out; have := ZLc1.out; have := ZLd1.out; have := ZLe1.out; have := ZW.out; omega))
 have nBX1 := Aside0.mk (blk_kept BX1.out KP (fun h2 => by have := ZLa1.out; have := ZLb1.out; have := ZLc1.out; have := ZLd1.out; have := ZLe1.out; have := ZW.out; omega))
 have nBXN : Aside0 (((w16.setCell ⟨gq1, 0, none⟩ (.int .i64 s1)).setCell ⟨gq1, 1, none⟩ (.slice A1_ s2.length c1_)).heap[gq1]? = some (.cells #[.int .i64 s1, .slice A1_ s2.length c1_] 27 (0, 0))) := ⟨by refine blk_put (cs := #[.int .i64 s1, .slice none 0 0]) ?_ 1 _ rfl; refine blk_put (cs := #[.int .i64 0, .slice none 0 0]) ?_ 0 _ rfl; exact BXN.out⟩
 have nZC := Aside0.mk KP.1
 clear HB HO1 BXN BX0 BX1 KP hge
 generalize ((w16.setCell ⟨gq1, 0, none⟩ (.int .i64 s1)).setCell ⟨gq1, 1, none⟩ (.slice A1_ s2.length c1_)) = w17 at nHB nHO1 nBXN nBX0 nBX1 nZC ⊢
 have HB := nHB
 clear nHB
 have HO1 := nHO1
 clear nHO1
 have BXN := nBXN
 clear nBXN
 have BX0 := nBX0
 clear nBX0
 have BX1 := nBX1
 clear nBX1
 have ZC := nZC
 clear nZC
 have BX2 := BXN
 clear BXN
 refine hK.out _ _ ⟨(blk_cell BX0.out 0).trans rfl, (blk_cell BX0.out 1).trans rfl, (blk_cell BX1.out 0).trans rfl, (blk_cell BX1.out 1).trans rfl⟩ (fun hHeld => ?_)
 clear hK K
 refine pure_ (i := 10) (N := some 7) (v := ?_) (a' := ?_) #[true, true, true, true, true, true, true, true, true, true, true] rfl rfl (by kernel_rfl) (fun _ _ _ h => h) (Or.inl ⟨by rfl, ?_⟩) ?_ ?_
 rotate_left
 ·intro w'
  go_simp
  with_reducible rfl
 rotate_left
 ·simp only [Act.put, List.setIfInBounds_toArray, List.set_cons_zero, List.set_cons_succ, i64_w, i32_w]
  rfl
 refine done_ (by kernel_rfl) ?_
 clear hHeld
 have zc0_0 : w17.cell? ⟨w.heap.size, 0, none⟩ = some (.int .i64 a0_0) := (blk_cell BX0.out 0).trans rfl
 have zc0_1 : w17.cell? ⟨w.heap.size, 1, none⟩ = some (.slice A0_1 l0_1.length c0_1) := (blk_cell BX0.out 1).trans rfl
 have zc1_0 : w17.cell? ⟨(w.heap.size + 1), 0, none⟩ = some (.int .i64 a1_0) := (blk_cell BX1.out 0).trans rfl
 have zc1_1 : w17.cell? ⟨(w.heap.size + 1), 1, none⟩ = some (.int .i64 a1_1) := (blk_cell BX1.out 1).trans rfl
 have zc2_0 : w17.cell? ⟨gq1, 0, none⟩ = some (.int .i64 s1) := (blk_cell BX2.out 0).trans rfl
 have zc2_1 : w17.cell? ⟨gq1, 1, none⟩ = some (.slice A1_ s2.length c1_) := (blk_cell BX2.out 1).trans rfl
 go_wp2_with fail
 refine (laws_toWheel.calls k a0_0 _ _ l0_1 x1 x2 _ (Kd.C_below HR0_1.out (bel_then HB.out (by repeat (first | exact Below.refl _ _ | apply below_alloc | apply pw_below_drewN | apply below_drew1)))) HC0_1.out HX.out).mono ?_
 rintro e w18 ⟨v, rfl, hr, hb⟩
 clear zc0_0 zc0_1 zc1_0 zc1_1 zc2_0 zc2_1
 have ST : Below w17.heap.size w17 w18 := bel_then (by repeat (first | exact Below.refl _ _ | apply below_alloc | apply pw_below_drewN | apply below_drew1)) hb
 obtain ⟨lo2, hi2, A2_, c2_, hz2, hc2, rfl, ho2⟩ := law_madeS (n := w16.heap.size) hr hb ZC.out (by repeat (first | exact Below.refl _ _ | apply below_alloc | apply pw_below_drewN | apply below_drew1))
 have ZL2 := Aside0.mk hz2
 have HO2 := Aside0.mk ho2
 clear ho2 hz2
 have nZC := Aside0.mk hc2
 clear hc2
 have nHB : Aside0 (Below w.heap.size w w18) := ⟨bel_then HB.out ST⟩
 have nHO1 := Aside0.mk (Kd.S_below HO1.out ST)
 have nBX0 := Aside0.mk (blk_below BX0.out ST)
 have nBX1 := Aside0.mk (blk_below BX1.out ST)
 have nBX2 := Aside0.mk (blk_below BX2.out ST)
 clear HB ZC HO1 BX0 BX1 BX2 ST hb hr
 have HB := nHB
 clear nHB
 have ZC := nZC
 clear nZC
 have HO1 := nHO1
 clear nHO1
 have BX0 := nBX0
 clear nBX0
 have BX1 := nBX1
 clear nBX1
 have BX2 := nBX2
 clear nBX2
 have zc0_0 : w18.cell? ⟨w.heap.size, 0, none⟩ = some (.int .i64 a0_0) := (blk_cell BX0.out 0).trans rfl
 have zd0_0 := pw_cell_below (below_alloc (Below.refl _ _) (.cells #[.int .i64 x1, .slice A2_ x2.length c2_] 27)) zc0_0
 have zc0_1 : w18.cell? ⟨w.heap.size, 1, none⟩ = some (.slice A0_1 l0_1.length c0_1) := (blk_cell BX0.out 1).trans rfl
 have zd0_1 := pw_cell_below (below_alloc (Below.refl _ _) (.cells #[.int .i64 x1, .slice A2_ x2.length c2_] 27)) zc0_1
 have zc1_0 : w18.cell? ⟨(w.heap.size + 1), 0, none⟩ = some (.int .i64 a1_0) := (blk_cell BX1.out 0).trans rfl
 have zd1_0 := pw_cell_below (below_alloc (Below.refl _ _) (.cells #[.int .i64 x1, .slice A2_ x2.length c2_] 27)) zc1_0
 have zc1_1 : w18.cell? ⟨(w.heap.size + 1), 1, none⟩ = some (.int .i64 a1_1) := (blk_cell BX1.out 1).trans rfl
 have zd1_1 := pw_cell_below (below_alloc (Below.refl _ _) (.cells #[.int .i64 x1, .slice A2_ x2.length c2_] 27)) zc1_1
 have zc2_0 : w18.cell? ⟨gq1, 0, none⟩ = some (.int .i64 s1) := (blk_cell BX2.out 0).trans rfl
 have zd2_0 := pw_cell_below (below_alloc (Below.refl _ _) (.cells #[.int .i64 x1, .slice A2_ x2.length c2_] 27)) zc2_0
 have zc2_1 : w18.cell? ⟨gq1, 1, none⟩ = some (.slice A1_ s2.length c1_) := (blk_cell BX2.out 1).trans rfl
 have zd2_1 := pw_cell_below (below_alloc (Below.refl _ _) (.cells #[.int .i64 x1, .slice A2_ x2.length c2_] 27)) zc2_1
 try go_wp2
 clear zc0_0 zd0_0 zc0_1 zd0_1 zc1_0 zd1_0 zc1_1 zd1_1 zc2_0 zd2_0 zc2_1 zd2_1
 have mBX : Aside0 ((w18.alloc (.cells #[.int .i64 x1, .slice A2_ x2.length c2_] 27)).heap[w18.heap.size]? = some (.cells #[.int .i64 x1, .slice A2_ x2.length c2_] 27 (0, 0))) := ⟨heap_alloc_new _ _⟩
 have ST : Below w18.heap.size w18 (w18.alloc (.cells #[.int .i64 x1, .slice A2_ x2.length c2_] 27)) := below_alloc (Below.refl _ _) _
 have ZL3 := Aside0.mk (show hi2 ≤ w18.heap.size from ZC.out)
 have nZC : Aside0 (w18.heap.size + 1 ≤ (w18.alloc (.cells #[.int .i64 x1, .slice A2_ x2.length c2_] 27)).heap.size) := ⟨by simp⟩
 have nHB : Aside0 (Below w.heap.size w (w18.alloc (.cells #[.int .i64 x1, .slice A2_ x2.length c2_] 27))) := ⟨bel_then HB.out ST⟩
 have nHO1 := Aside0.mk (Kd.S_below HO1.out ST)
 have nHO2 := Aside0.mk (Kd.S_below HO2.out ST)
 have nBX0 := Aside0.mk (blk_below BX0.out ST)
 have nBX1 := Aside0.mk (blk_below BX1.out ST)
 have nBX2 := Aside0.mk (blk_below BX2.out ST)
 clear HB ZC HO1 HO2 BX0 BX1 BX2 ST
 generalize (w18.alloc (.cells #[.int .i64 x1, .slice A2_ x2.length c2_] 27)) = w19 at nHB nZC mBX nHO1 nHO2 nBX0 nBX1 nBX2 ⊢
 have HB := nHB
 clear nHB
 have ZC := nZC
 clear nZC
 have HO1 := nHO1
 clear nHO1
 have HO2 := nHO2
 clear nHO2
 have BX0 := nBX0
 clear nBX0
 have BX1 := nBX1
 clear nBX1
 have BX2 := nBX2
 clear nBX2
 have BX3 := mBX
 clear mBX
 have zc0_0 : w19.cell? ⟨w.heap.size, 0, none⟩ = some (.int .i64 a0_0) := (blk_cell BX0.out 0).trans rfl
 have zc0_1 : w19.cell? ⟨w.heap.size, 1, none⟩ = some (.slice A0_1 l0_1.length c0_1) := (blk_cell BX0.out 1).trans rfl
 have zc1_0 : w19.cell? ⟨(w.heap.size + 1), 0, none⟩ = some (.int .i64 a1_0) := (blk_cell BX1.out 0).trans rfl
 have zc1_1 : w19.cell? ⟨(w.heap.size + 1), 1, none⟩ = some (.int .i64 a1_1) := (blk_cell BX1.out 1).trans rfl
 have zc2_0 : w19.cell? ⟨gq1, 0, none⟩ = some (.int .i64 s1) := (blk_cell BX2.out 0).trans rfl
 have zc2_1 : w19.cell? ⟨gq1, 1, none⟩ = some (.slice A1_ s2.length c1_) := (blk_cell BX2.out 1).trans rfl
 have zc3_0 : w19.cell? ⟨w18.heap.size, 0, none⟩ = some (.int .i64 x1) := (blk_cell BX3.out 0).trans rfl
 have zc3_1 : w19.cell? ⟨w18.heap.size, 1, none⟩ = some (.slice A2_ x2.length c2_) := (blk_cell BX3.out 1).trans rfl
 try go_wp2
 clear zc0_0 zc0_1 zc1_0 zc1_1 zc2_0 zc2_1 zc3_0 zc3_1
 refine start_ (n := 10) (S := fun w' => w'.cell? ⟨w.heap.size, 0, none⟩ = some (.int .i64 a0_0) ∧ w'.cell? ⟨w.heap.size, 1, none⟩ = some (.slice A0_1 l0_1.length c0_1) ∧ w'.cell? ⟨(w.heap.size + 1), 0, none⟩ = some (.int .i64 a1_0) ∧ w'.cell? ⟨(w.heap.size + 1), 1, none⟩ = some (.int .i64 a1_1) ∧ w'.cell? ⟨gq1, 0, none⟩ = some (.int .i64 s1) ∧ w'.cell? ⟨gq1, 1, none⟩ = some (.slice A1_ s2.length c1_) ∧ w'.cell? ⟨w18.heap.size, 0, none⟩ = some (.int .i64 x1) ∧ w'.cell? ⟨w18.heap.size, 1, none⟩ = some (.slice A2_ x2.length c2_)) (ds := []) #[false, false, false, false, false, false, false, false, false, false] (by kernel_rfl) rfl rfl ⟨(blk_cell BX0.out 0).trans rfl, (blk_cell BX0.out 1).trans rfl, (blk_cell BX1.out 0).trans rfl, (blk_cell BX1.out 1).trans rfl, (blk_cell BX2.out 0).trans rfl, (blk_cell BX2.out 1).trans rfl, (blk_cell BX3.out 0).trans rfl, (blk_cell BX3.out 1).trans rfl⟩ (fun hHeld => ?_)
 have ST : Below w19.heap.size w19 w19.drew := below_drew1 (Below.refl _ _)
 have nHB : Aside0 (Below w.heap.size w w19.drew) := ⟨bel_then HB.out ST⟩
 have nZC : Aside0 ((w18.heap.size + 1) ≤ w19.drew.heap.size) := ⟨Nat.le_trans ZC.out ST.size⟩
 have nHO1 := Aside0.mk (Kd.S_below HO1.out ST)
 have nHO2 := Aside0.mk (Kd.S_below HO2.out ST)
 have nBX0 := Aside0.mk (blk_below BX0.out ST)
 have nBX1 := Aside0.mk (blk_below BX1.out ST)
 have nBX2 := Aside0.mk (blk_below BX2.out ST)
 have nBX3 := Aside0.mk (blk_below BX3.out ST)
 clear HB ZC HO1 HO2 BX0 BX1 BX2 BX3 ST
 generalize w19.drew = w20 at hHeld nHB nZC nHO1 nHO2 nBX0 nBX1 nBX2 nBX3 ⊢
 have HB := nHB
 clear nHB
 have ZC := nZC
 clear nZC
 have HO1 := nHO1
 clear nHO1
 have HO2 := nHO2
 clear nHO2
 have BX0 := nBX0
 clear nBX0
 have BX1 := nBX1
 clear nBX1
 have BX2 := nBX2
 clear nBX2
 have BX3 := nBX3
 clear nBX3
 refine take_ (i := 0) (N := some 32) (v := ?_) (a' := ?_) #[true, false, false, false, false, false, false, false, false, false] rfl rfl (by kernel_rfl) (fun _ _ _ h => h) (Or.inl ⟨by rfl, ?_⟩) hHeld ?_ ?_
 rotate_left
 ·rintro w' ⟨s0, s1, s2, s3, s4, s5, s6, s7⟩
  go_simp
  with_reducible rfl
 rotate_left
 ·simp only [Act.put, List.setIfInBounds_toArray, List.set_cons_zero, List.set_cons_succ, i64_w, i32_w]
  rfl
 refine take_ (i := 1) (N := some 33) (v := ?_) (a' := ?_) #[true, true, false, false, false, false, false, false, false, false] rfl rfl (by kernel_rfl) (fun _ _ _ h => h) (Or.inl ⟨by rfl, ?_⟩) hHeld ?_ ?_
 rotate_left
 ·rintro w' ⟨s0, s1, s2, s3, s4, s5, s6, s7⟩
  go_simp
  with_reducible rfl
 rotate_left
 ·simp only [Act.put, List.setIfInBounds_toArray, List.set_cons_zero, List.set_cons_succ, i64_w, i32_w]
  rfl
 refine join_ (σ := Value × Nat) 2 #[true, true, true, true, true, true, true, true, false, false] (fun s_ => [(34, .agg #[.int .i64 y1, .int .i64 y2]), (35, .tuple #[.agg #[.int .i64 s1, s_.1], .bool s5]), (9, .pointer (some ⟨s_.2, 0, none⟩)), (31, .tuple #[.agg #[.int .i64 s1, s_.1], .bool s5]), (36, .agg #[.int .i64 s1, s_.1]), (37, .bool s5)]) (fun s_ w' => (w'.cell? ⟨w.heap.size, 0, none⟩ = some (.int .i64 a0_0) ∧ w'.cell? ⟨w.heap.size, 1, none⟩ = some (.slice A0_1 l0_1.length c0_1) ∧ w'.cell? ⟨(w.heap.size + 1), 0, none⟩ = some (.int .i64 a1_0) ∧ w'.cell? ⟨(w.heap.size + 1), 1, none⟩ = some (.int .i64 a1_1) ∧ w'.cell? ⟨gq1, 0, none⟩ = some (.int .i64 s1) ∧ w'.cell? ⟨gq1, 1, none⟩ = some (.slice A1_ s2.length c1_) ∧ w'.cell? ⟨w18.heap.size, 0, none⟩ = some (.int .i64 x1) ∧ w'.cell? ⟨w18.heap.size, 1, none⟩ = some (.slice A2_ x2.length c2_)) ∧ Below w20.heap.size w20 w' ∧ ∃ lo hi, (w20.heap.size ≤ lo ∧ lo ≤ hi) ∧ hi ≤ w'.heap.size ∧ Kd.S (Kd.slice 45 k45) 48 w' lo (fun k => lo ≤ k ∧ k < hi) s_.1 s2 ∧ (w20.heap.size ≤ s_.2 ∧ (s_.2 < lo ∨ hi ≤ s_.2)) ∧ w'.heap[s_.2]? = some (.cells #[.int .i64 0, .slice none 0 0] 27 (0, 0))) ?_ ?_
 rotate_left
 ·intro hCont
  have ST := Aside0.mk (Below.refl w20.heap.size w20)
  refine two_ (i := 2) (j := 7) (Ni := some 34) (Nj := some 9) #[true, true, true, false, false, false, false, false, false, false] #[true, true, false, false, false, false, false, true, false, false] rfl rfl rfl rfl (by kernel_rfl) (by decide) (by decide) (fun K hK => ?_) (fun K hK => ?_)
  ·skip
   refine goes_ Try.func25 (by kernel_rfl) rfl #[.agg #[.int .i64 a1_0, .int .i64 a1_1]] (by rfl) rfl rfl (by (try simp only [List.map_toArray, List.map_cons, List.map_nil]); first | done | rfl | (simp only [List.length_drop, List.length_take]; rfl)) ?_
   refine (laws_toTimer.calls a1_0 a1_1 y1 y2 _ HY.out).mono ?_
   rintro e w21 ⟨rfl, hb⟩
   refine ⟨_, rfl, ?_⟩
   have nST : Aside0 (Below w20.heap.size w20 w21) := ⟨bel_then ST.out hb⟩
   clear ST
   have ST := nST
   clear nST
   clear hb
   refine hK.out _ _ ⟨(blk_cell (blk_below BX0.out ST.out) 0).trans rfl, (blk_cell (blk_below BX0.out ST.out) 1).trans rfl, (blk_cell (blk_below BX1.out ST.out) 0).trans rfl, (blk_cell (blk_below BX1.out ST.out) 1).trans rfl, (blk_cell (blk_below BX2.out ST.out) 0).trans rfl, (blk_cell (blk_below BX2.out ST.out) 1).trans rfl, (blk_cell (blk_below BX3.out ST.out) 0).trans rfl, (blk_cell (blk_below BX3.out ST.out) 1).trans rfl⟩ (fun hHeld => ?_)
   clear hK K
   refine norm_ (a' := ?_) ?_ ?_
   rotate_left
   ·show Act.put _ (some 34) _ = _
    simp only [Act.put, List.setIfInBounds_toArray, List.set_cons_zero, List.set_cons_succ, i64_w, i32_w]
    rfl
   refine two_ (i := 3) (j := 7) (Ni := some 35) (Nj := some 9) #[true, true, true, true, false, false, false, false, false, false] #[true, true, true, false, false, false, false, true, false, false] rfl rfl rfl rfl (by kernel_rfl) (by decide) (by decide) (fun K hK => ?_) (fun K hK => ?_)
   ·skip
    refine goes_ Try.func26 (by kernel_rfl) rfl #[.agg #[.int .i64 x1, .slice A2_ x2.length c2_], .agg #[.int .i64 y1, .int .i64 y2]] (by rfl) rfl rfl (by (try simp only [List.map_toArray, List.map_cons, List.map_nil]); first | done | rfl | (simp only [List.length_drop, List.length_take]; rfl)) ?_
    refine (impl_SetTimer.calls k x1 _ _ x2 y1 y2 s1 s2 s5 _ (law_C (Kd.S_R HO2.out) ST.out) (law_c (Kd.S_R HO2.out)) HG.out).mono ?_
    rintro e w22 ⟨v, rfl, hr, hb⟩
    refine ⟨_, rfl, ?_⟩
    have HLO := Aside0.mk ST.out.size
    have HLH := Aside0.mk hb.size
    have nST : Aside0 (Below w20.heap.size w20 w22) := ⟨bel_then ST.out hb⟩
    clear ST
    have ST := nST
    clear nST
    have HM := Aside0.mk (Kd.S_mono (Kd.S_bound hr) (fun k hk => (⟨hk.2.1, hk.2.2.1⟩ : w21.heap.size ≤ k ∧ k < w22.heap.size)))
    have HL : Aside0 (w22.heap.size ≤ w22.heap.size) := ⟨Nat.le_refl _⟩
    clear hb hr
    refine hK.out _ _ ⟨(blk_cell (blk_below BX0.out ST.out) 0).trans rfl, (blk_cell (blk_below BX0.out ST.out) 1).trans rfl, (blk_cell (blk_below BX1.out ST.out) 0).trans rfl, (blk_cell (blk_below BX1.out ST.out) 1).trans rfl, (blk_cell (blk_below BX2.out ST.out) 0).trans rfl, (blk_cell (blk_below BX2.out ST.out) 1).trans rfl, (blk_cell (blk_below BX3.out ST.out) 0).trans rfl, (blk_cell (blk_below BX3.out ST.out) 1).trans rfl⟩ (fun hHeld => ?_)
    clear hK K
    refine norm_ (a' := ?_) ?_ ?_
    rotate_left
    ·show Act.put _ (some 35) _ = _
     simp only [Act.put, List.setIfInBounds_toArray, List.set_cons_zero, List.set_cons_succ, i64_w, i32_w]
     rfl
    refine pure_ (i := 4) (N := some 31) (v := ?_) (a' := ?_) #[true, true, true, true, true, false, false, false, false, false] rfl rfl (by kernel_rfl) (fun _ _ _ h => h) (Or.inl ⟨by rfl, ?_⟩) ?_ ?_
    rotate_left
    ·intro w'
     go_simp
     with_reducible rfl
    rotate_left
    ·simp only [Act.put, List.setIfInBounds_toArray, List.set_cons_zero, List.set_cons_succ, i64_w, i32_w]
     rfl
    refine pure_ (i := 5) (N := some 36) (v := ?_) (a' := ?_) #[true, true, true, true, true, true, false, false, false, false] rfl rfl (by kernel_rfl) (fun _ _ _ h => h) (Or.inl ⟨by rfl, ?_⟩) ?_ ?_
    rotate_left
    ·intro w'
     go_simp
     with_reducible rfl
    rotate_left
    ·simp only [Act.put, List.setIfInBounds_toArray, List.set_cons_zero, List.set_cons_succ, i64_w, i32_w]
     rfl
    refine pure_ (i := 6) (N := some 37) (v := ?_) (a' := ?_) #[true, true, true, true, true, true, true, false, false, false] rfl rfl (by kernel_rfl) (fun _ _ _ h => h) (Or.inl ⟨by rfl, ?_⟩) ?_ ?_
    rotate_left
    ·intro w'
     go_simp
     with_reducible rfl
    rotate_left
    ·simp only [Act.put, List.setIfInBounds_toArray, List.set_cons_zero, List.set_cons_succ, i64_w, i32_w]
     rfl
    refine one_ (i := 7) (N := some 9) #[true, true, true, true, true, true, true, true, false, false] rfl rfl (by kernel_rfl) (by decide) (fun K hK => ?_)
    refine box_step ?hg (N := 9) ?hd (cs := #[.int .i64 0, .slice none 0 0]) (t := 27) ?hr ?_; (case hd => rfl); (case hg => rfl); (case hr => first | (go_simp; done) | (go_simp; rfl))
    intro gA hg w23 hbox hb
    have HGE : Aside0 (w20.heap.size ≤ gA) := ⟨by rw [hg]; exact ST.out.size⟩
    have HD : Aside0 (gA < w21.heap.size ∨ w22.heap.size ≤ gA) := ⟨.inr (by rw [hg]; exact HL.out)⟩
    have nST : Aside0 (Below w20.heap.size w20 w23) := ⟨bel_then ST.out hb⟩
    have nHM := Aside0.mk (Kd.S_below HM.out hb)
    have nHL := Aside0.mk (Nat.le_trans HL.out hb.size)
    clear ST HM HL
    have ST := nST
    clear nST
    have HM := nHM
    clear nHM
    have HL := nHL
    clear nHL
    have HGB := Aside0.mk hbox
    clear hb hbox hg
    refine hK.out _ _ ⟨(blk_cell (blk_below BX0.out ST.out) 0).trans rfl, (blk_cell (blk_below BX0.out ST.out) 1).trans rfl, (blk_cell (blk_below BX1.out ST.out) 0).trans rfl, (blk_cell (blk_below BX1.out ST.out) 1).trans rfl, (blk_cell (blk_below BX2.out ST.out) 0).trans rfl, (blk_cell (blk_below BX2.out ST.out) 1).trans rfl, (blk_cell (blk_below BX3.out ST.out) 0).trans rfl, (blk_cell (blk_below BX3.out ST.out) 1).trans rfl⟩ (fun hHeld => ?_)
    clear hK K
    refine norm_ (a' := ?_) ?_ ?_
    rotate_left
    ·show Act.put _ (some 9) _ = _
     simp only [Act.put, List.setIfInBounds_toArray, List.set_cons_zero, List.set_cons_succ, i64_w, i32_w]
     rfl
    exact norm_ (by simp only [putAll, Act.put, List.setIfInBounds_toArray, List.set_cons_zero, List.set_cons_succ]) (hCont (v, gA) _ ⟨hHeld, ST.out, _, _, ⟨HLO.out, HLH.out⟩, HL.out, HM.out, ⟨HGE.out, HD.out⟩, HGB.out⟩)
   ·skip
    refine box_step ?hg (N := 9) ?hd (cs := #[.int .i64 0, .slice none 0 0]) (t := 27) ?hr ?_; (case hd => rfl); (case hg => rfl); (case hr => first | (go_simp; done) | (go_simp; rfl))
    intro gA hg w24 hbox hb
    have HGE : Aside0 (w20.heap.size ≤ gA) := ⟨by rw [hg]; exact ST.out.size⟩
    have nST : Aside0 (Below w20.heap.size w20 w24) := ⟨bel_then ST.out hb⟩
    clear ST
    have ST := nST
    clear nST
    have HGB := Aside0.mk hbox
    clear hb hbox hg
    refine hK.out _ _ ⟨(blk_cell (blk_below BX0.out ST.out) 0).trans rfl, (blk_cell (blk_below BX0.out ST.out) 1).trans rfl, (blk_cell (blk_below BX1.out ST.out) 0).trans rfl, (blk_cell (blk_below BX1.out ST.out) 1).trans rfl, (blk_cell (blk_below BX2.out ST.out) 0).trans rfl, (blk_cell (blk_below BX2.out ST.out) 1).trans rfl, (blk_cell (blk_below BX3.out ST.out) 0).trans rfl, (blk_cell (blk_below BX3.out ST.out) 1).trans rfl⟩ (fun hHeld => ?_)
    clear hK K
    refine norm_ (a' := ?_) ?_ ?_
    rotate_left
    ·show Act.put _ (some 9) _ = _
     simp only [Act.put, List.setIfInBounds_toArray, List.set_cons_zero, List.set_cons_succ, i64_w, i32_w]
     rfl
    refine one_ (i := 3) (N := some 35) #[true, true, true, true, false, false, false, true, false, false] rfl rfl (by kernel_rfl) (by decide) (fun K hK => ?_)
    refine goes_ Try.func26 (by kernel_rfl) rfl #[.agg #[.int .i64 x1, .slice A2_ x2.length c2_], .agg #[.int .i64 y1, .int .i64 y2]] (by rfl) rfl rfl (by (try simp only [List.map_toArray, List.map_cons, List.map_nil]); first | done | rfl | (simp only [List.length_drop, List.length_take]; rfl)) ?_
    refine (impl_SetTimer.calls k x1 _ _ x2 y1 y2 s1 s2 s5 _ (law_C (Kd.S_R HO2.out) ST.out) (law_c (Kd.S_R HO2.out)) HG.out).mono ?_
    rintro e w25 ⟨v, rfl, hr, hb⟩
    refine ⟨_, rfl, ?_⟩
    have HD : Aside0 (gA < w24.heap.size ∨ w25.heap.size ≤ gA) := ⟨.inl (blk_lt HGB.out)⟩
    have HLO := Aside0.mk ST.out.size
    have HLH := Aside0.mk hb.size
    have nST : Aside0 (Below w20.heap.size w20 w25) := ⟨bel_then ST.out hb⟩
    have nHGB := Aside0.mk (blk_below HGB.out hb)
    clear ST HGB
    have ST := nST
    clear nST
    have HGB := nHGB
    clear nHGB
    have HM := Aside0.mk (Kd.S_mono (Kd.S_bound hr) (fun k hk => (⟨hk.2.1, hk.2.2.1⟩ : w24.heap.size ≤ k ∧ k < w25.heap.size)))
    have HL : Aside0 (w25.heap.size ≤ w25.heap.size) := ⟨Nat.le_refl _⟩
    clear hb hr
    refine hK.out _ _ ⟨(blk_cell (blk_below BX0.out ST.out) 0).trans rfl, (blk_cell (blk_below BX0.out ST.out) 1).trans rfl, (blk_cell (blk_below BX1.out ST.out) 0).trans rfl, (blk_cell (blk_below BX1.out ST.out) 1).trans rfl, (blk_cell (blk_below BX2.out ST.out) 0).trans rfl, (blk_cell (blk_below BX2.out ST.out) 1).trans rfl, (blk_cell (blk_below BX3.out ST.out) 0).trans rfl, (blk_cell (blk_below BX3.out ST.out) 1).trans rfl⟩ (fun hHeld => ?_)
    clear hK K
    refine norm_ (a' := ?_) ?_ ?_
    rotate_left
    ·show Act.put _ (some 35) _ = _
     simp only [Act.put, List.setIfInBounds_toArray, List.set_cons_zero, List.set_cons_succ, i64_w, i32_w]
     rfl
    refine pure_ (i := 4) (N := some 31) (v := ?_) (a' := ?_) #[true, true, true, true, true, false, false, true, false, false] rfl rfl (by kernel_rfl) (fun _ _ _ h => h) (Or.inl ⟨by rfl, ?_⟩) ?_ ?_
    rotate_left
    ·intro w'
     go_simp
     with_reducible rfl
    rotate_left
    ·simp only [Act.put, List.setIfInBounds_toArray, List.set_cons_zero, List.set_cons_succ, i64_w, i32_w]
     rfl
    refine pure_ (i := 5) (N := some 36) (v := ?_) (a' := ?_) #[true, true, true, true, true, true, false, true, false, false] rfl rfl (by kernel_rfl) (fun _ _ _ h => h) (Or.inl ⟨by rfl, ?_⟩) ?_ ?_
    rotate_left
    ·intro w'
     go_simp
     with_reducible rfl
    rotate_left
    ·simp only [Act.put, List.setIfInBounds_toArray, List.set_cons_zero, List.set_cons_succ, i64_w, i32_w]
     rfl
    refine pure_ (i := 6) (N := some 37) (v := ?_) (a' := ?_) #[true, true, true, true, true, true, true, true, false, false] rfl rfl (by kernel_rfl) (fun _ _ _ h => h) (Or.inl ⟨by rfl, ?_⟩) ?_ ?_
    rotate_left
    ·intro w'
     go_simp
     with_reducible rfl
    rotate_left
    ·simp only [Act.put, List.setIfInBounds_toArray, List.set_cons_zero, List.set_cons_succ, i64_w, i32_w]
     rfl
    exact norm_ (by simp only [putAll, Act.put, List.setIfInBounds_toArray, List.set_cons_zero, List.set_cons_succ]) (hCont (v, gA) _ ⟨hHeld, ST.out, _, _, ⟨HLO.out, HLH.out⟩, HL.out, HM.out, ⟨HGE.out, HD.out⟩, HGB.out⟩)
  ·skip
   refine box_step ?hg (N := 9) ?hd (cs := #[.int .i64 0, .slice none 0 0]) (t := 27) ?hr ?_; (case hd => rfl); (case hg => rfl); (case hr => first | (go_simp; done) | (go_simp; rfl))
   intro gA hg w26 hbox hb
   have HGE : Aside0 (w20.heap.size ≤ gA) := ⟨by rw [hg]; exact ST.out.size⟩
   have nST : Aside0 (Below w20.heap.size w20 w26) := ⟨bel_then ST.out hb⟩
   clear ST
   have ST := nST
   clear nST
   have HGB := Aside0.mk hbox
   clear hb hbox hg
   refine hK.out _ _ ⟨(blk_cell (blk_below BX0.out ST.out) 0).trans rfl, (blk_cell (blk_below BX0.out ST.out) 1).trans rfl, (blk_cell (blk_below BX1.out ST.out) 0).trans rfl, (blk_cell (blk_below BX1.out ST.out) 1).trans rfl, (blk_cell (blk_below BX2.out ST.out) 0).trans rfl, (blk_cell (blk_below BX2.out ST.out) 1).trans rfl, (blk_cell (blk_below BX3.out ST.out) 0).trans rfl, (blk_cell (blk_below BX3.out ST.out) 1).trans rfl⟩ (fun hHeld => ?_)
   clear hK K
   refine norm_ (a' := ?_) ?_ ?_
   rotate_left
   ·show Act.put _ (some 9) _ = _
    simp only [Act.put, List.setIfInBounds_toArray, List.set_cons_zero, List.set_cons_succ, i64_w, i32_w]
    rfl
   refine one_ (i := 2) (N := some 34) #[true, true, true, false, false, false, false, true, false, false] rfl rfl (by kernel_rfl) (by decide) (fun K hK => ?_)
   refine goes_ Try.func25 (by kernel_rfl) rfl #[.agg #[.int .i64 a1_0, .int .i64 a1_1]] (by rfl) rfl rfl (by (try simp only [List.map_toArray, List.map_cons, List.map_nil]); first | done | rfl | (simp only [List.length_drop, List.length_take]; rfl)) ?_
   refine (laws_toTimer.calls a1_0 a1_1 y1 y2 _ HY.out).mono ?_
   rintro e w27 ⟨rfl, hb⟩
   refine ⟨_, rfl, ?_⟩
   have nST : Aside0 (Below w20.heap.size w20 w27) := ⟨bel_then ST.out hb⟩
   have nHGB := Aside0.mk (blk_below HGB.out hb)
   clear ST HGB
   have ST := nST
   clear nST
   have HGB := nHGB
   clear nHGB
   clear hb
   refine hK.out _ _ ⟨(blk_cell (blk_below BX0.out ST.out) 0).trans rfl, (blk_cell (blk_below BX0.out ST.out) 1).trans rfl, (blk_cell (blk_below BX1.out ST.out) 0).trans rfl, (blk_cell (blk_below BX1.out ST.out) 1).trans rfl, (blk_cell (blk_below BX2.out ST.out) 0).trans rfl, (blk_cell (blk_below BX2.out ST.out) 1).trans rfl, (blk_cell (blk_below BX3.out ST.out) 0).trans rfl, (blk_cell (blk_below BX3.out ST.out) 1).trans rfl⟩ (fun hHeld => ?_)
   clear hK K
   refine norm_ (a' := ?_) ?_ ?_
   rotate_left
   ·show Act.put _ (some 34) _ = _
    simp only [Act.put, List.setIfInBounds_toArray, List.set_cons_zero, List.set_cons_succ, i64_w, i32_w]
    rfl
   refine one_ (i := 3) (N := some 35) #[true, true, true, true, false, false, false, true, false, false] rfl rfl (by kernel_rfl) (by decide) (fun K hK => ?_)
   refine goes_ Try.func26 (by kernel_rfl) rfl #[.agg #[.int .i64 x1, .slice A2_ x2.length c2_], .agg #[.int .i64 y1, .int .i64 y2]] (by rfl) rfl rfl (by (try simp only [List.map_toArray, List.map_cons, List.map_nil]); first | done | rfl | (simp only [List.length_drop, List.length_take]; rfl)) ?_
   refine (impl_SetTimer.calls k x1 _ _ x2 y1 y2 s1 s2 s5 _ (law_C (Kd.S_R HO2.out) ST.out) (law_c (Kd.S_R HO2.out)) HG.out).mono ?_
   rintro e w28 ⟨v, rfl, hr, hb⟩
   refine ⟨_, rfl, ?_⟩
   have HD : Aside0 (gA < w27.heap.size ∨ w28.heap.size ≤ gA) := ⟨.inl (blk_lt HGB.out)⟩
   have HLO := Aside0.mk ST.out.size
   have HLH := Aside0.mk hb.size
   have nST : Aside0 (Below w20.heap.size w20 w28) := ⟨bel_then ST.out hb⟩
   have nHGB := Aside0.mk (blk_below HGB.out hb)
   clear ST HGB
   have ST := nST
   clear nST
   have HGB := nHGB
   clear nHGB
   have HM := Aside0.mk (Kd.S_mono (Kd.S_bound hr) (fun k hk => (⟨hk.2.1, hk.2.2.1⟩ : w27.heap.size ≤ k ∧ k < w28.heap.size)))
   have HL : Aside0 (w28.heap.size ≤ w28.heap.size) := ⟨Nat.le_refl _⟩
   clear hb hr
   refine hK.out _ _ ⟨(blk_cell (blk_below BX0.out ST.out) 0).trans rfl, (blk_cell (blk_below BX0.out ST.out) 1).trans rfl, (blk_cell (blk_below BX1.out ST.out) 0).trans rfl, (blk_cell (blk_below BX1.out ST.out) 1).trans rfl, (blk_cell (blk_below BX2.out ST.out) 0).trans rfl, (blk_cell (blk_below BX2.out ST.out) 1).trans rfl, (blk_cell (blk_below BX3.out ST.out) 0).trans rfl, (blk_cell (blk_below BX3.out ST.out) 1).trans rfl⟩ (fun hHeld => ?_)
   clear hK K
   refine norm_ (a' := ?_) ?_ ?_
   rotate_left
   ·show Act.put _ (some 35) _ = _
    simp only [Act.put, List.setIfInBounds_toArray, List.set_cons_zero, List.set_cons_succ, i64_w, i32_w]
    rfl
   refine pure_ (i := 4) (N := some 31) (v := ?_) (a' := ?_) #[true, true, true, true, true, false, false, true, false, false] rfl rfl (by kernel_rfl) (fun _ _ _ h => h) (Or.inl ⟨by rfl, ?_⟩) ?_ ?_
   rotate_left
   ·intro w'
    go_simp
    with_reducible rfl
   rotate_left
   ·simp only [Act.put, List.setIfInBounds_toArray, List.set_cons_zero, List.set_cons_succ, i64_w, i32_w]
    rfl
   refine pure_ (i := 5) (N := some 36) (v := ?_) (a' := ?_) #[true, true, true, true, true, true, false, true, false, false] rfl rfl (by kernel_rfl) (fun _ _ _ h => h) (Or.inl ⟨by rfl, ?_⟩) ?_ ?_
   rotate_left
   ·intro w'
    go_simp
    with_reducible rfl
   rotate_left
   ·simp only [Act.put, List.setIfInBounds_toArray, List.set_cons_zero, List.set_cons_succ, i64_w, i32_w]
    rfl
   refine pure_ (i := 6) (N := some 37) (v := ?_) (a' := ?_) #[true, true, true, true, true, true, true, true, false, false] rfl rfl (by kernel_rfl) (fun _ _ _ h => h) (Or.inl ⟨by rfl, ?_⟩) ?_ ?_
   rotate_left
   ·intro w'
    go_simp
    with_reducible rfl
   rotate_left
   ·simp only [Act.put, List.setIfInBounds_toArray, List.set_cons_zero, List.set_cons_succ, i64_w, i32_w]
    rfl
   exact norm_ (by simp only [putAll, Act.put, List.setIfInBounds_toArray, List.set_cons_zero, List.set_cons_succ]) (hCont (v, gA) _ ⟨hHeld, ST.out, _, _, ⟨HLO.out, HLH.out⟩, HL.out, HM.out, ⟨HGE.out, HD.out⟩, HGB.out⟩)
 rintro ⟨v, gq4⟩ w29 ⟨hHeld, hst, lo4, hi4, hz4, hy4, ho4, hg4, hbx4⟩
 have ST := Aside0.mk hst
 have ZLa4 := Aside0.mk hz4
 have ZLb4 : Aside0 (w20.heap.size ≤ gq4 ∧ (gq4 < lo4 ∨ hi4 ≤ gq4)) := ⟨hg4⟩
 have ZLc4 := Aside0.mk ZC.out
 have ZLd4 := Aside0.mk hy4
 have BXN : Aside0 (w29.heap[gq4]? = some (.cells #[.int .i64 0, .slice none 0 0] 27 (0, 0))) := ⟨hbx4⟩
 have ZLe4 : Aside0 (gq4 < w29.heap.size) := ⟨blk_lt BXN.out⟩
 have HO4 : Aside0 (Kd.S (Kd.slice 45 k45) 48 w29 lo4 (fun k => lo4 ≤ k ∧ k < hi4) v s2) := ⟨ho4⟩
 clear hst hz4 hg4 hy4 ho4 hbx4
 obtain ⟨A4_, c4_, rfl⟩ := Kd.S_slice HO4.out
 have nHB : Aside0 (Below w.heap.size w w29) := ⟨bel_then HB.out ST.out⟩
 have nHO1 := Aside0.mk (Kd.S_below HO1.out ST.out)
 have nHO2 := Aside0.mk (Kd.S_below HO2.out ST.out)
 have nBX0 := Aside0.mk (blk_below BX0.out ST.out)
 have nBX1 := Aside0.mk (blk_below BX1.out ST.out)
 have nBX2 := Aside0.mk (blk_below BX2.out ST.out)
 have nBX3 := Aside0.mk (blk_below BX3.out ST.out)
 clear HB HO1 HO2 BX0 BX1 BX2 BX3 ST ZC
 have HB := nHB
 clear nHB
 have HO1 := nHO1
 clear nHO1
 have HO2 := nHO2
 clear nHO2
 have BX0 := nBX0
 clear nBX0
 have BX1 := nBX1
 clear nBX1
 have BX2 := nBX2
 clear nBX2
 have BX3 := nBX3
 clear nBX3
 refine norm_ (a' := ?_) ?_ ?_
 rotate_left
 ·simp only [putAll, Act.put, List.setIfInBounds_toArray, List.set_cons_zero, List.set_cons_succ]
  rfl
 refine one_ (i := 8) (N := none) #[true, true, true, true, true, true, true, true, true, false] rfl rfl (by kernel_rfl) (by decide) (fun K hK => ?_)
 have hs0_ : w29.cell? ⟨gq4, 0, none⟩ = some (.int .i64 0) := (blk_cell BXN.out 0).trans rfl
 have hs1_ : w29.cell? ⟨gq4, 1, none⟩ = some (.slice none 0 0) := (blk_cell BXN.out 1).trans rfl
 have hf0_ := blk_frozen BXN.out 0
 have hf1_ := blk_frozen BXN.out 1
 refine skip_ (w1 := ?_) (by rfl) rfl ?_ ?_
 rotate_left
 ·go_simp
  rfl
 clear hs0_ hs1_ hf0_ hf1_ hHeld
 have KP : Kept w29 ((w29.setCell ⟨gq4, 0, none⟩ (.int .i64 s1)).setCell ⟨gq4, 1, none⟩ (.slice A4_ s2.length c4_)) (fun k => k = gq4) := Kept.setCell (p := ⟨gq4, 1, none⟩) (Kept.setCell (p := ⟨gq4, 0, none⟩) (Kept.refl w29 (fun k => k = gq4)) (Or.inl rfl) (.int .i64 s1)) (Or.inl rfl) (.slice A4_ s2.length c4_)
 have hge : w.heap.size ≤ gq4 := by have := ZLa1.out; have := ZLb1.out; have := ZLc1.out; have := ZLd1.out; have := ZLe1.out; have := ZL2.out; have := ZL3.out; have := ZLa4.out; have := ZLb4.out; have := ZLc4.out; have := ZLd4.out; have := ZLe4.out; have := HB.out.size; have := ZW.out; omega
 have nHB : Aside0 (Below w.heap.size w ((w29.setCell ⟨gq4, 0, none⟩ (.int .i64 s1)).setCell ⟨gq4, 1, none⟩ (.slice A4_ s2.length c4_))) := ⟨(HB.out.setCell (p := ⟨gq4, 0, none⟩) hge (.int .i64 s1)).setCell (p := ⟨gq4, 1, none⟩) hge (.slice A4_ s2.length c4_)⟩
 have nHO1 := Aside0.mk (Kd.S_kept HO1.out KP (fun k h1 h2 => by have := ZLa1.out; have := ZLb1.out; have := ZLc1.out; have := ZLd1.out; have := ZLe1.out; have := ZL2.out; have := ZL3.out; have := ZLa4.out; have := ZLb4.out; have := ZLc4.out; have := ZLd4.out; have := ZLe4.out; have := ZW.out; omega))
 have nHO2 := Aside0.mk (Kd.S_kept HO2.out KP (fun k h1 h2 => by have := ZLa1.out; have := ZLb1.out; have := ZLc1.out; have := ZLd1.out; have := ZLe1.out; have := ZL2.out; have := ZL3.out; have := ZLa4.out; have := ZLb4.out; have := ZLc4.out; have := ZLd4.out; have := ZLe4.out; have := ZW.out; omega))
 have nHO4 := Aside0.mk (Kd.S_kept HO4.out KP (fun k h1 h2 => by have := ZLa1.out; have := ZLb1.out; have := ZLc1.out; have := ZLd1.out; have := ZLe1.out; have := ZL2.out; have := ZL3.out; have := ZLa4.out; have := ZLb4.out; have := ZLc4.out; have := ZLd4.out; have := ZLe4.out; have := ZW.out; omega))
 have nBX0 := Aside0.mk (blk_kept BX0.out KP (fun h2 => by have := ZLa1.out; have := ZLb1.out; have := ZLc1.out; have := ZLd1.out; have := ZLe1.out; have := ZL2.out; have := ZL3.out; have := ZLa4.out; have := ZLb4.out; have := ZLc4.out; have := ZLd4.out; have := ZLe4.out; have := ZW.out; omega))
 have nBX1 := Aside0.mk (blk_kept BX1.out KP (fun h2 => by have := ZLa1.out; have := ZLb1.out; have := ZLc1.out; have := ZLd1.out; have := ZLe1.out; have := ZL2.out; have := ZL3.out; have := ZLa4.out; have := ZLb4.out; have := ZLc4.out; have := ZLd4.out; have := ZLe4.out; have := ZW.out; omega))
 have nBX2 := Aside0.mk (blk_kept BX2.out KP (fun h2 => by have := ZLa1.out; have := ZLb1.out; have := ZLc1.out; have := ZLd1.out; have := ZLe1.out; have := ZL2.out; have := ZL3.out; have := ZLa4.out; have := ZLb4.out; have := ZLc4.out; have := ZLd4.out; have := ZLe4.out; have := ZW.out; omega))
 have nBX3 := Aside0.mk (blk_kept BX3.out KP (fun h2 => by have := ZLa1.out; have := ZLb1.out; have := ZLc1.out; have := ZLd1.out; have := ZLe1.out; have := ZL2.out; have := ZL3.out; have := ZLa4.out; have := ZLb4.out; have := ZLc4.out; have := ZLd4.out; have := ZLe4.out; have := ZW.out; omega))
 have nBXN : Aside0 (((w29.setCell ⟨gq4, 0, none⟩ (.int .i64 s1)).setCell ⟨gq4, 1, none⟩ (.slice A4_ s2.length c4_)).heap[gq4]? = some (.cells #[.int .i64 s1, .slice A4_ s2.length c4_] 27 (0, 0))) := ⟨by refine blk_put (cs := #[.int .i64 s1, .slice none 0 0]) ?_ 1 _ rfl; refine blk_put (cs := #[.int .i64 0, .slice none 0 0]) ?_ 0 _ rfl; exact BXN.out⟩
 have nZC := Aside0.mk KP.1
 clear HB HO4 BXN HO1 HO2 BX0 BX1 BX2 BX3 KP hge
 generalize ((w29.setCell ⟨gq4, 0, none⟩ (.int .i64 s1)).setCell ⟨gq4, 1, none⟩ (.slice A4_ s2.length c4_)) = w30 at nHB nHO4 nBXN nHO1 nHO2 nBX0 nBX1 nBX2 nBX3 nZC ⊢
 have HB := nHB
 clear nHB
 have HO4 := nHO4
 clear nHO4
 have BXN := nBXN
 clear nBXN
 have HO1 := nHO1
 clear nHO1
 have HO2 := nHO2
 clear nHO2
 have BX0 := nBX0
 clear nBX0
 have BX1 := nBX1
 clear nBX1
 have BX2 := nBX2
 clear nBX2
 have BX3 := nBX3
 clear nBX3
 have ZC := nZC
 clear nZC
 have BX4 := BXN
 clear BXN
 refine hK.out _ _ ⟨(blk_cell BX0.out 0).trans rfl, (blk_cell BX0.out 1).trans rfl, (blk_cell BX1.out 0).trans rfl, (blk_cell BX1.out 1).trans rfl, (blk_cell BX2.out 0).trans rfl, (blk_cell BX2.out 1).trans rfl, (blk_cell BX3.out 0).trans rfl, (blk_cell BX3.out 1).trans rfl⟩ (fun hHeld => ?_)
 clear hK K
 refine pure_ (i := 9) (N := some 10) (v := ?_) (a' := ?_) #[true, true, true, true, true, true, true, true, true, true] rfl rfl (by kernel_rfl) (fun _ _ _ h => h) (Or.inl ⟨by rfl, ?_⟩) ?_ ?_
 rotate_left
 ·intro w'
  go_simp
  with_reducible rfl
 rotate_left
 ·simp only [Act.put, List.setIfInBounds_toArray, List.set_cons_zero, List.set_cons_succ, i64_w, i32_w]
  rfl
 refine done_ (by kernel_rfl) ?_
 clear hHeld
 have zc0_0 : w30.cell? ⟨w.heap.size, 0, none⟩ = some (.int .i64 a0_0) := (blk_cell BX0.out 0).trans rfl
 have zc0_1 : w30.cell? ⟨w.heap.size, 1, none⟩ = some (.slice A0_1 l0_1.length c0_1) := (blk_cell BX0.out 1).trans rfl
 have zc1_0 : w30.cell? ⟨(w.heap.size + 1), 0, none⟩ = some (.int .i64 a1_0) := (blk_cell BX1.out 0).trans rfl
 have zc1_1 : w30.cell? ⟨(w.heap.size + 1), 1, none⟩ = some (.int .i64 a1_1) := (blk_cell BX1.out 1).trans rfl
 have zc2_0 : w30.cell? ⟨gq1, 0, none⟩ = some (.int .i64 s1) := (blk_cell BX2.out 0).trans rfl
 have zc2_1 : w30.cell? ⟨gq1, 1, none⟩ = some (.slice A1_ s2.length c1_) := (blk_cell BX2.out 1).trans rfl
 have zc3_0 : w30.cell? ⟨w18.heap.size, 0, none⟩ = some (.int .i64 x1) := (blk_cell BX3.out 0).trans rfl
 have zc3_1 : w30.cell? ⟨w18.heap.size, 1, none⟩ = some (.slice A2_ x2.length c2_) := (blk_cell BX3.out 1).trans rfl
 have zc4_0 : w30.cell? ⟨gq4, 0, none⟩ = some (.int .i64 s1) := (blk_cell BX4.out 0).trans rfl
 have zc4_1 : w30.cell? ⟨gq4, 1, none⟩ = some (.slice A4_ s2.length c4_) := (blk_cell BX4.out 1).trans rfl
 go_wp2_with fail
 refine (laws_eqWheel.calls k s1 _ _ s2 s1 _ _ s2 true _ (law_C (Kd.S_R HO4.out) (by repeat (first | exact Below.refl _ _ | apply below_alloc | apply pw_below_drewN | apply below_drew1))) (law_c (Kd.S_R HO4.out)) (law_C (Kd.S_R HO1.out) (by repeat (first | exact Below.refl _ _ | apply below_alloc | apply pw_below_drewN | apply below_drew1))) (law_c (Kd.S_R HO1.out)) HE0.out).mono ?_
 rintro e w31 ⟨rfl, hb⟩
 clear zc0_0 zc0_1 zc1_0 zc1_1 zc2_0 zc2_1 zc3_0 zc3_1 zc4_0 zc4_1
 have ST : Below w30.heap.size w30 w31 := bel_then (by repeat (first | exact Below.refl _ _ | apply below_alloc | apply pw_below_drewN | apply below_drew1)) hb
 have nZC := Aside0.mk (Nat.le_trans ZC.out ST.size)
 have nHB : Aside0 (Below w.heap.size w w31) := ⟨bel_then HB.out ST⟩
 have nHO1 := Aside0.mk (Kd.S_below HO1.out ST)
 have nHO2 := Aside0.mk (Kd.S_below HO2.out ST)
 have nHO4 := Aside0.mk (Kd.S_below HO4.out ST)
 have nBX0 := Aside0.mk (blk_below BX0.out ST)
 have nBX1 := Aside0.mk (blk_below BX1.out ST)
 have nBX2 := Aside0.mk (blk_below BX2.out ST)
 have nBX3 := Aside0.mk (blk_below BX3.out ST)
 have nBX4 := Aside0.mk (blk_below BX4.out ST)
 clear HB ZC HO1 HO2 HO4 BX0 BX1 BX2 BX3 BX4 ST hb
 have HB := nHB
 clear nHB
 have ZC := nZC
 clear nZC
 have HO1 := nHO1
 clear nHO1
 have HO2 := nHO2
 clear nHO2
 have HO4 := nHO4
 clear nHO4
 have BX0 := nBX0
 clear nBX0
 have BX1 := nBX1
 clear nBX1
 have BX2 := nBX2
 clear nBX2
 have BX3 := nBX3
 clear nBX3
 have BX4 := nBX4
 clear nBX4
 have zc0_0 : w31.cell? ⟨w.heap.size, 0, none⟩ = some (.int .i64 a0_0) := (blk_cell BX0.out 0).trans rfl
 have zc0_1 : w31.cell? ⟨w.heap.size, 1, none⟩ = some (.slice A0_1 l0_1.length c0_1) := (blk_cell BX0.out 1).trans rfl
 have zc1_0 : w31.cell? ⟨(w.heap.size + 1), 0, none⟩ = some (.int .i64 a1_0) := (blk_cell BX1.out 0).trans rfl
 have zc1_1 : w31.cell? ⟨(w.heap.size + 1), 1, none⟩ = some (.int .i64 a1_1) := (blk_cell BX1.out 1).trans rfl
 have zc2_0 : w31.cell? ⟨gq1, 0, none⟩ = some (.int .i64 s1) := (blk_cell BX2.out 0).trans rfl
 have zc2_1 : w31.cell? ⟨gq1, 1, none⟩ = some (.slice A1_ s2.length c1_) := (blk_cell BX2.out 1).trans rfl
 have zc3_0 : w31.cell? ⟨w18.heap.size, 0, none⟩ = some (.int .i64 x1) := (blk_cell BX3.out 0).trans rfl
 have zc3_1 : w31.cell? ⟨w18.heap.size, 1, none⟩ = some (.slice A2_ x2.length c2_) := (blk_cell BX3.out 1).trans rfl
 have zc4_0 : w31.cell? ⟨gq4, 0, none⟩ = some (.int .i64 s1) := (blk_cell BX4.out 0).trans rfl
 have zc4_1 : w31.cell? ⟨gq4, 1, none⟩ = some (.slice A4_ s2.length c4_) := (blk_cell BX4.out 1).trans rfl
 try go_wp2
 clear zc0_0 zc0_1 zc1_0 zc1_1 zc2_0 zc2_1 zc3_0 zc3_1 zc4_0 zc4_1
 refine start_ (n := 5) (S := fun w' => w'.cell? ⟨w.heap.size, 0, none⟩ = some (.int .i64 a0_0) ∧ w'.cell? ⟨w.heap.size, 1, none⟩ = some (.slice A0_1 l0_1.length c0_1) ∧ w'.cell? ⟨(w.heap.size + 1), 0, none⟩ = some (.int .i64 a1_0) ∧ w'.cell? ⟨(w.heap.size + 1), 1, none⟩ = some (.int .i64 a1_1) ∧ w'.cell? ⟨gq1, 0, none⟩ = some (.int .i64 s1) ∧ w'.cell? ⟨gq1, 1, none⟩ = some (.slice A1_ s2.length c1_) ∧ w'.cell? ⟨w18.heap.size, 0, none⟩ = some (.int .i64 x1) ∧ w'.cell? ⟨w18.heap.size, 1, none⟩ = some (.slice A2_ x2.length c2_) ∧ w'.cell? ⟨gq4, 0, none⟩ = some (.int .i64 s1) ∧ w'.cell? ⟨gq4, 1, none⟩ = some (.slice A4_ s2.length c4_)) (ds := []) #[false, false, false, false, false] (by kernel_rfl) rfl rfl ⟨(blk_cell BX0.out 0).trans rfl, (blk_cell BX0.out 1).trans rfl, (blk_cell BX1.out 0).trans rfl, (blk_cell BX1.out 1).trans rfl, (blk_cell BX2.out 0).trans rfl, (blk_cell BX2.out 1).trans rfl, (blk_cell BX3.out 0).trans rfl, (blk_cell BX3.out 1).trans rfl, (blk_cell BX4.out 0).trans rfl, (blk_cell BX4.out 1).trans rfl⟩ (fun hHeld => ?_)
 refine take_ (i := 0) (N := some 47) (v := ?_) (a' := ?_) #[true, false, false, false, false] rfl rfl (by kernel_rfl) (fun _ _ _ h => h) (Or.inl ⟨by rfl, ?_⟩) hHeld ?_ ?_
 rotate_left
 ·rintro w' ⟨s0, s1, s2, s3, s4, s5, s6, s7, s8, s9⟩
  go_simp
  with_reducible rfl
 rotate_left
 ·simp only [Act.put, List.setIfInBounds_toArray, List.set_cons_zero, List.set_cons_succ, i64_w, i32_w]
  rfl
 refine take_ (i := 1) (N := some 48) (v := ?_) (a' := ?_) #[true, true, false, false, false] rfl rfl (by kernel_rfl) (fun _ _ _ h => h) (Or.inl ⟨by rfl, ?_⟩) hHeld ?_ ?_
 rotate_left
 ·rintro w' ⟨s0, s1, s2, s3, s4, s5, s6, s7, s8, s9⟩
  go_simp
  with_reducible rfl
 rotate_left
 ·simp only [Act.put, List.setIfInBounds_toArray, List.set_cons_zero, List.set_cons_succ, i64_w, i32_w]
  rfl
 refine one_ (i := 2) (N := some 49) #[true, true, true, false, false] rfl rfl (by kernel_rfl) (by decide) (fun K hK => ?_)
 refine goes_ Try.func20 (by kernel_rfl) rfl #[.agg #[.int .i64 a0_0, .slice A0_1 l0_1.length c0_1]] (by rfl) rfl rfl (by (try simp only [List.map_toArray, List.map_cons, List.map_nil]); first | done | rfl | (simp only [List.length_drop, List.length_take]; rfl)) ?_
 refine (laws_toWheel.calls k a0_0 _ _ l0_1 x1 x2 _ (Kd.C_below HR0_1.out (bel_then HB.out (by repeat (first | exact Below.refl _ _ | apply below_alloc | apply pw_below_drewN | apply below_drew1)))) HC0_1.out HX.out).mono ?_
 rintro e w32 ⟨v, rfl, hr, hb⟩
 refine ⟨_, rfl, ?_⟩
 have ST : Below w31.heap.size w31 w32 := bel_then (by repeat (first | exact Below.refl _ _ | apply below_alloc | apply pw_below_drewN | apply below_drew1)) hb
 obtain ⟨lo5, hi5, A5_, c5_, hz5, hc5, rfl, ho5⟩ := law_madeS (n := w29.heap.size) hr hb ZC.out (by repeat (first | exact Below.refl _ _ | apply below_alloc | apply pw_below_drewN | apply below_drew1))
 have ZL5 := Aside0.mk hz5
 have HO5 := Aside0.mk ho5
 clear ho5 hz5
 have nZC := Aside0.mk hc5
 clear hc5
 have nHB : Aside0 (Below w.heap.size w w32) := ⟨bel_then HB.out ST⟩
 have nHO1 := Aside0.mk (Kd.S_below HO1.out ST)
 have nHO2 := Aside0.mk (Kd.S_below HO2.out ST)
 have nHO4 := Aside0.mk (Kd.S_below HO4.out ST)
 have nBX0 := Aside0.mk (blk_below BX0.out ST)
 have nBX1 := Aside0.mk (blk_below BX1.out ST)
 have nBX2 := Aside0.mk (blk_below BX2.out ST)
 have nBX3 := Aside0.mk (blk_below BX3.out ST)
 have nBX4 := Aside0.mk (blk_below BX4.out ST)
 clear HB ZC HO1 HO2 HO4 BX0 BX1 BX2 BX3 BX4 ST hb hr
 have HB := nHB
 clear nHB
 have ZC := nZC
 clear nZC
 have HO1 := nHO1
 clear nHO1
 have HO2 := nHO2
 clear nHO2
 have HO4 := nHO4
 clear nHO4
 have BX0 := nBX0
 clear nBX0
 have BX1 := nBX1
 clear nBX1
 have BX2 := nBX2
 clear nBX2
 have BX3 := nBX3
 clear nBX3
 have BX4 := nBX4
 clear nBX4
 refine hK.out _ _ ⟨(blk_cell BX0.out 0).trans rfl, (blk_cell BX0.out 1).trans rfl, (blk_cell BX1.out 0).trans rfl, (blk_cell BX1.out 1).trans rfl, (blk_cell BX2.out 0).trans rfl, (blk_cell BX2.out 1).trans rfl, (blk_cell BX3.out 0).trans rfl, (blk_cell BX3.out 1).trans rfl, (blk_cell BX4.out 0).trans rfl, (blk_cell BX4.out 1).trans rfl⟩ (fun hHeld => ?_)
 clear hK K
 refine norm_ (a' := ?_) ?_ ?_
 rotate_left
 ·show Act.put _ (some 49) _ = _
  simp only [Act.put, List.setIfInBounds_toArray, List.set_cons_zero, List.set_cons_succ, i64_w, i32_w]
  rfl
 refine one_ (i := 3) (N := some 50) #[true, true, true, true, false] rfl rfl (by kernel_rfl) (by decide) (fun K hK => ?_)
 refine goes_ Try.func15 (by kernel_rfl) rfl #[.agg #[.int .i64 x1, .slice A2_ x2.length c2_], .agg #[.int .i64 x1, .slice A5_ x2.length c5_]] (by rfl) rfl rfl (by (try simp only [List.map_toArray, List.map_cons, List.map_nil]); first | done | rfl | (simp only [List.length_drop, List.length_take]; rfl)) ?_
 refine (laws_eqWheel.calls k x1 _ _ x2 x1 _ _ x2 true _ (law_C (Kd.S_R HO2.out) (by repeat (first | exact Below.refl _ _ | apply below_alloc | apply pw_below_drewN | apply below_drew1))) (law_c (Kd.S_R HO2.out)) (law_C (Kd.S_R HO5.out) (by repeat (first | exact Below.refl _ _ | apply below_alloc | apply pw_below_drewN | apply below_drew1))) (law_c (Kd.S_R HO5.out)) HE1.out).mono ?_
 rintro e w33 ⟨rfl, hb⟩
 refine ⟨_, rfl, ?_⟩
 have ST : Below w32.heap.size w32 w33 := bel_then (by repeat (first | exact Below.refl _ _ | apply below_alloc | apply pw_below_drewN | apply below_drew1)) hb
 have nZC := Aside0.mk (Nat.le_trans ZC.out ST.size)
 have nHB : Aside0 (Below w.heap.size w w33) := ⟨bel_then HB.out ST⟩
 have nHO1 := Aside0.mk (Kd.S_below HO1.out ST)
 have nHO2 := Aside0.mk (Kd.S_below HO2.out ST)
 have nHO4 := Aside0.mk (Kd.S_below HO4.out ST)
 have nHO5 := Aside0.mk (Kd.S_below HO5.out ST)
 have nBX0 := Aside0.mk (blk_below BX0.out ST)
 have nBX1 := Aside0.mk (blk_below BX1.out ST)
 have nBX2 := Aside0.mk (blk_below BX2.out ST)
 have nBX3 := Aside0.mk (blk_below BX3.out ST)
 have nBX4 := Aside0.mk (blk_below BX4.out ST)
 clear HB ZC HO1 HO2 HO4 HO5 BX0 BX1 BX2 BX3 BX4 ST hb
 have HB := nHB
 clear nHB
 have ZC := nZC
 clear nZC
 have HO1 := nHO1
 clear nHO1
 have HO2 := nHO2
 clear nHO2
 have HO4 := nHO4
 clear nHO4
 have HO5 := nHO5
 clear nHO5
 have BX0 := nBX0
 clear nBX0
 have BX1 := nBX1
 clear nBX1
 have BX2 := nBX2
 clear nBX2
 have BX3 := nBX3
 clear nBX3
 have BX4 := nBX4
 clear nBX4
 refine hK.out _ _ ⟨(blk_cell BX0.out 0).trans rfl, (blk_cell BX0.out 1).trans rfl, (blk_cell BX1.out 0).trans rfl, (blk_cell BX1.out 1).trans rfl, (blk_cell BX2.out 0).trans rfl, (blk_cell BX2.out 1).trans rfl, (blk_cell BX3.out 0).trans rfl, (blk_cell BX3.out 1).trans rfl, (blk_cell BX4.out 0).trans rfl, (blk_cell BX4.out 1).trans rfl⟩ (fun hHeld => ?_)
 clear hK K
 refine norm_ (a' := ?_) ?_ ?_
 rotate_left
 ·show Act.put _ (some 50) _ = _
  simp only [Act.put, List.setIfInBounds_toArray, List.set_cons_zero, List.set_cons_succ, i64_w, i32_w]
  rfl
 refine pure_ (i := 4) (N := some 51) (v := ?_) (a' := ?_) #[true, true, true, true, true] rfl rfl (by kernel_rfl) (fun _ _ _ h => h) (Or.inl ⟨by rfl, ?_⟩) ?_ ?_
 rotate_left
 ·intro w'
  go_simp
  with_reducible rfl
 rotate_left
 ·simp only [Act.put, List.setIfInBounds_toArray, List.set_cons_zero, List.set_cons_succ, i64_w, i32_w]
  rfl
 refine done_ (by kernel_rfl) ?_
 clear hHeld
 clear HO5
 have zc0_0 : w33.cell? ⟨w.heap.size, 0, none⟩ = some (.int .i64 a0_0) := (blk_cell BX0.out 0).trans rfl
 have zc0_1 : w33.cell? ⟨w.heap.size, 1, none⟩ = some (.slice A0_1 l0_1.length c0_1) := (blk_cell BX0.out 1).trans rfl
 have zc1_0 : w33.cell? ⟨(w.heap.size + 1), 0, none⟩ = some (.int .i64 a1_0) := (blk_cell BX1.out 0).trans rfl
 have zc1_1 : w33.cell? ⟨(w.heap.size + 1), 1, none⟩ = some (.int .i64 a1_1) := (blk_cell BX1.out 1).trans rfl
 have zc2_0 : w33.cell? ⟨gq1, 0, none⟩ = some (.int .i64 s1) := (blk_cell BX2.out 0).trans rfl
 have zc2_1 : w33.cell? ⟨gq1, 1, none⟩ = some (.slice A1_ s2.length c1_) := (blk_cell BX2.out 1).trans rfl
 have zc3_0 : w33.cell? ⟨w18.heap.size, 0, none⟩ = some (.int .i64 x1) := (blk_cell BX3.out 0).trans rfl
 have zc3_1 : w33.cell? ⟨w18.heap.size, 1, none⟩ = some (.slice A2_ x2.length c2_) := (blk_cell BX3.out 1).trans rfl
 have zc4_0 : w33.cell? ⟨gq4, 0, none⟩ = some (.int .i64 s1) := (blk_cell BX4.out 0).trans rfl
 have zc4_1 : w33.cell? ⟨gq4, 1, none⟩ = some (.slice A4_ s2.length c4_) := (blk_cell BX4.out 1).trans rfl
 go_wp2_with fail
 refine (shMarkWheel.calls k (fun k => lo2 ≤ k ∧ k < hi2) x1 _ _ _ x2 1 _ mx2 w _ (bel_then HB.out (by repeat (first | exact Below.refl _ _ | apply below_alloc | apply pw_below_drewN | apply below_drew1))) (Kd.S_lower (Kd.S_below HO2.out (by repeat (first | exact Below.refl _ _ | apply below_alloc | apply pw_below_drewN | apply below_drew1))) (by have := ZLa1.out; have := ZLb1.out; have := ZLc1.out; have := ZLd1.out; have := ZLe1.out; have := ZL2.out; have := ZL3.out; have := ZLa4.out; have := ZLb4.out; have := ZLc4.out; have := ZLd4.out; have := ZLe4.out; have := ZL5.out; have := ZC.out; have := ZW.out; omega)) HMX.out).mono ?_
 rintro e w34 ⟨rfl, hr, hb, hk⟩
 clear zc0_0 zc0_1 zc1_0 zc1_1 zc2_0 zc2_1 zc3_0 zc3_1 zc4_0 zc4_1
 have KP : Kept w33 w34 (fun k => lo2 ≤ k ∧ k < hi2) := law_kept (by repeat (first | exact Below.refl _ _ | apply below_alloc | apply pw_below_drewN | apply below_drew1)) hk
 have nZC := Aside0.mk (Nat.le_trans ZC.out KP.1)
 have nHB : Aside0 (Below w.heap.size w w34) := ⟨hb⟩
 have nHO1 := Aside0.mk (Kd.S_kept HO1.out KP (fun k h1 h2 => by have := ZLa1.out; have := ZLb1.out; have := ZLc1.out; have := ZLd1.out; have := ZLe1.out; have := ZL2.out; have := ZL3.out; have := ZLa4.out; have := ZLb4.out; have := ZLc4.out; have := ZLd4.out; have := ZLe4.out; have := ZL5.out; have := ZC.out; have := ZW.out; omega))
 have nHO4 := Aside0.mk (Kd.S_kept HO4.out KP (fun k h1 h2 => by have := ZLa1.out; have := ZLb1.out; have := ZLc1.out; have := ZLd1.out; have := ZLe1.out; have := ZL2.out; have := ZL3.out; have := ZLa4.out; have := ZLb4.out; have := ZLc4.out; have := ZLd4.out; have := ZLe4.out; have := ZL5.out; have := ZC.out; have := ZW.out; omega))
 have nHO2 := Aside0.mk hr
 have nBX0 := Aside0.mk (blk_kept BX0.out KP (fun h2 => by have := ZLa1.out; have := ZLb1.out; have := ZLc1.out; have := ZLd1.out; have := ZLe1.out; have := ZL2.out; have := ZL3.out; have := ZLa4.out; have := ZLb4.out; have := ZLc4.out; have := ZLd4.out; have := ZLe4.out; have := ZL5.out; have := ZC.out; have := ZW.out; omega))
 have nBX1 := Aside0.mk (blk_kept BX1.out KP (fun h2 => by have := ZLa1.out; have := ZLb1.out; have := ZLc1.out; have := ZLd1.out; have := ZLe1.out; have := ZL2.out; have := ZL3.out; have := ZLa4.out; have := ZLb4.out; have := ZLc4.out; have := ZLd4.out; have := ZLe4.out; have := ZL5.out; have := ZC.out; have := ZW.out; omega))
 have nBX2 := Aside0.mk (blk_kept BX2.out KP (fun h2 => by have := ZLa1.out; have := ZLb1.out; have := ZLc1.out; have := ZLd1.out; have := ZLe1.out; have := ZL2.out; have := ZL3.out; have := ZLa4.out; have := ZLb4.out; have := ZLc4.out; have := ZLd4.out; have := ZLe4.out; have := ZL5.out; have := ZC.out; have := ZW.out; omega))
 have nBX3 := Aside0.mk (blk_kept BX3.out KP (fun h2 => by have := ZLa1.out; have := ZLb1.out; have := ZLc1.out; have := ZLd1.out; have := ZLe1.out; have := ZL2.out; have := ZL3.out; have := ZLa4.out; have := ZLb4.out; have := ZLc4.out; have := ZLd4.out; have := ZLe4.out; have := ZL5.out; have := ZC.out; have := ZW.out; omega))
 have nBX4 := Aside0.mk (blk_kept BX4.out KP (fun h2 => by have := ZLa1.out; have := ZLb1.out; have := ZLc1.out; have := ZLd1.out; have := ZLe1.out; have := ZL2.out; have := ZL3.out; have := ZLa4.out; have := ZLb4.out; have := ZLc4.out; have := ZLd4.out; have := ZLe4.out; have := ZL5.out; have := ZC.out; have := ZW.out; omega))
 clear HB ZC HO1 HO2 HO4 BX0 BX1 BX2 BX3 BX4 KP hb hr hk
 have HB := nHB
 clear nHB
 have ZC := nZC
 clear nZC
 have HO1 := nHO1
 clear nHO1
 have HO4 := nHO4
 clear nHO4
 have HO2 := nHO2
 clear nHO2
 have BX0 := nBX0
 clear nBX0
 have BX1 := nBX1
 clear nBX1
 have BX2 := nBX2
 clear nBX2
 have BX3 := nBX3
 clear nBX3
 have BX4 := nBX4
 clear nBX4
 clear HO2
 have zc0_0 : w34.cell? ⟨w.heap.size, 0, none⟩ = some (.int .i64 a0_0) := (blk_cell BX0.out 0).trans rfl
 have zc0_1 : w34.cell? ⟨w.heap.size, 1, none⟩ = some (.slice A0_1 l0_1.length c0_1) := (blk_cell BX0.out 1).trans rfl
 have zc1_0 : w34.cell? ⟨(w.heap.size + 1), 0, none⟩ = some (.int .i64 a1_0) := (blk_cell BX1.out 0).trans rfl
 have zc1_1 : w34.cell? ⟨(w.heap.size + 1), 1, none⟩ = some (.int .i64 a1_1) := (blk_cell BX1.out 1).trans rfl
 have zc2_0 : w34.cell? ⟨gq1, 0, none⟩ = some (.int .i64 s1) := (blk_cell BX2.out 0).trans rfl
 have zc2_1 : w34.cell? ⟨gq1, 1, none⟩ = some (.slice A1_ s2.length c1_) := (blk_cell BX2.out 1).trans rfl
 have zc3_0 : w34.cell? ⟨w18.heap.size, 0, none⟩ = some (.int .i64 x1) := (blk_cell BX3.out 0).trans rfl
 have zc3_1 : w34.cell? ⟨w18.heap.size, 1, none⟩ = some (.slice A2_ x2.length c2_) := (blk_cell BX3.out 1).trans rfl
 have zc4_0 : w34.cell? ⟨gq4, 0, none⟩ = some (.int .i64 s1) := (blk_cell BX4.out 0).trans rfl
 have zc4_1 : w34.cell? ⟨gq4, 1, none⟩ = some (.slice A4_ s2.length c4_) := (blk_cell BX4.out 1).trans rfl
 go_wp2_with fail
 refine (laws_eqWheel.calls k s1 _ _ s2 s1 _ _ s2 true _ (law_C (Kd.S_R HO4.out) (by repeat (first | exact Below.refl _ _ | apply below_alloc | apply pw_below_drewN | apply below_drew1))) (law_c (Kd.S_R HO4.out)) (law_C (Kd.S_R HO1.out) (by repeat (first | exact Below.refl _ _ | apply below_alloc | apply pw_below_drewN | apply below_drew1))) (law_c (Kd.S_R HO1.out)) HE0.out).mono ?_
 rintro e w35 ⟨rfl, hb⟩
 clear zc0_0 zc0_1 zc1_0 zc1_1 zc2_0 zc2_1 zc3_0 zc3_1 zc4_0 zc4_1
 have ST : Below w34.heap.size w34 w35 := bel_then (by repeat (first | exact Below.refl _ _ | apply below_alloc | apply pw_below_drewN | apply below_drew1)) hb
 have nZC := Aside0.mk (Nat.le_trans ZC.out ST.size)
 have nHB : Aside0 (Below w.heap.size w w35) := ⟨bel_then HB.out ST⟩
 have nHO1 := Aside0.mk (Kd.S_below HO1.out ST)
 have nHO4 := Aside0.mk (Kd.S_below HO4.out ST)
 have nBX0 := Aside0.mk (blk_below BX0.out ST)
 have nBX1 := Aside0.mk (blk_below BX1.out ST)
 have nBX2 := Aside0.mk (blk_below BX2.out ST)
 have nBX3 := Aside0.mk (blk_below BX3.out ST)
 have nBX4 := Aside0.mk (blk_below BX4.out ST)
 clear HB ZC HO1 HO4 BX0 BX1 BX2 BX3 BX4 ST hb
 have HB := nHB
 clear nHB
 have ZC := nZC
 clear nZC
 have HO1 := nHO1
 clear nHO1
 have HO4 := nHO4
 clear nHO4
 have BX0 := nBX0
 clear nBX0
 have BX1 := nBX1
 clear nBX1
 have BX2 := nBX2
 clear nBX2
 have BX3 := nBX3
 clear nBX3
 have BX4 := nBX4
 clear nBX4
 have zc0_0 : w35.cell? ⟨w.heap.size, 0, none⟩ = some (.int .i64 a0_0) := (blk_cell BX0.out 0).trans rfl
 have zc0_1 : w35.cell? ⟨w.heap.size, 1, none⟩ = some (.slice A0_1 l0_1.length c0_1) := (blk_cell BX0.out 1).trans rfl
 have zc1_0 : w35.cell? ⟨(w.heap.size + 1), 0, none⟩ = some (.int .i64 a1_0) := (blk_cell BX1.out 0).trans rfl
 have zc1_1 : w35.cell? ⟨(w.heap.size + 1), 1, none⟩ = some (.int .i64 a1_1) := (blk_cell BX1.out 1).trans rfl
 have zc2_0 : w35.cell? ⟨gq1, 0, none⟩ = some (.int .i64 s1) := (blk_cell BX2.out 0).trans rfl
 have zc2_1 : w35.cell? ⟨gq1, 1, none⟩ = some (.slice A1_ s2.length c1_) := (blk_cell BX2.out 1).trans rfl
 have zc3_0 : w35.cell? ⟨w18.heap.size, 0, none⟩ = some (.int .i64 x1) := (blk_cell BX3.out 0).trans rfl
 have zc3_1 : w35.cell? ⟨w18.heap.size, 1, none⟩ = some (.slice A2_ x2.length c2_) := (blk_cell BX3.out 1).trans rfl
 have zc4_0 : w35.cell? ⟨gq4, 0, none⟩ = some (.int .i64 s1) := (blk_cell BX4.out 0).trans rfl
 have zc4_1 : w35.cell? ⟨gq4, 1, none⟩ = some (.slice A4_ s2.length c4_) := (blk_cell BX4.out 1).trans rfl
 go_wp2_with fail
 refine (shMarkWheel.calls k (fun k => lo4 ≤ k ∧ k < hi4) s1 _ _ _ s2 1 _ mk2 w _ (bel_then HB.out (by repeat (first | exact Below.refl _ _ | apply below_alloc | apply pw_below_drewN | apply below_drew1))) (Kd.S_lower (Kd.S_below HO4.out (by repeat (first | exact Below.refl _ _ | apply below_alloc | apply pw_below_drewN | apply below_drew1))) (by have := ZLa1.out; have := ZLb1.out; have := ZLc1.out; have := ZLd1.out; have := ZLe1.out; have := ZL2.out; have := ZL3.out; have := ZLa4.out; have := ZLb4.out; have := ZLc4.out; have := ZLd4.out; have := ZLe4.out; have := ZL5.out; have := ZC.out; have := ZW.out; omega)) HMK.out).mono ?_
 rintro e w36 ⟨rfl, hr, hb, hk⟩
 clear zc0_0 zc0_1 zc1_0 zc1_1 zc2_0 zc2_1 zc3_0 zc3_1 zc4_0 zc4_1
 have KP : Kept w35 w36 (fun k => lo4 ≤ k ∧ k < hi4) := law_kept (by repeat (first | exact Below.refl _ _ | apply below_alloc | apply pw_below_drewN | apply below_drew1)) hk
 have nZC := Aside0.mk (Nat.le_trans ZC.out KP.1)
 have nHB : Aside0 (Below w.heap.size w w36) := ⟨hb⟩
 have nHO1 := Aside0.mk (Kd.S_kept HO1.out KP (fun k h1 h2 => by have := ZLa1.out; have := ZLb1.out; have := ZLc1.out; have := ZLd1.out; have := ZLe1.out; have := ZL2.out; have := ZL3.out; have := ZLa4.out; have := ZLb4.out; have := ZLc4.out; have := ZLd4.out; have := ZLe4.out; have := ZL5.out; have := ZC.out; have := ZW.out; omega))
 have nHO4 := Aside0.mk hr
 have nBX0 := Aside0.mk (blk_kept BX0.out KP (fun h2 => by have := ZLa1.out; have := ZLb1.out; have := ZLc1.out; have := ZLd1.out; have := ZLe1.out; have := ZL2.out; have := ZL3.out; have := ZLa4.out; have := ZLb4.out; have := ZLc4.out; have := ZLd4.out; have := ZLe4.out; have := ZL5.out; have := ZC.out; have := ZW.out; omega))
 have nBX1 := Aside0.mk (blk_kept BX1.out KP (fun h2 => by have := ZLa1.out; have := ZLb1.out; have := ZLc1.out; have := ZLd1.out; have := ZLe1.out; have := ZL2.out; have := ZL3.out; have := ZLa4.out; have := ZLb4.out; have := ZLc4.out; have := ZLd4.out; have := ZLe4.out; have := ZL5.out; have := ZC.out; have := ZW.out; omega))
 have nBX2 := Aside0.mk (blk_kept BX2.out KP (fun h2 => by have := ZLa1.out; have := ZLb1.out; have := ZLc1.out; have := ZLd1.out; have := ZLe1.out; have := ZL2.out; have := ZL3.out; have := ZLa4.out; have := ZLb4.out; have := ZLc4.out; have := ZLd4.out; have := ZLe4.out; have := ZL5.out; have := ZC.out; have := ZW.out; omega))
 have nBX3 := Aside0.mk (blk_kept BX3.out KP (fun h2 => by have := ZLa1.out; have := ZLb1.out; have := ZLc1.out; have := ZLd1.out; have := ZLe1.out; have := ZL2.out; have := ZL3.out; have := ZLa4.out; have := ZLb4.out; have := ZLc4.out; have := ZLd4.out; have := ZLe4.out; have := ZL5.out; have := ZC.out; have := ZW.out; omega))
 have nBX4 := Aside0.mk (blk_kept BX4.out KP (fun h2 => by have := ZLa1.out; have := ZLb1.out; have := ZLc1.out; have := ZLd1.out; have := ZLe1.out; have := ZL2.out; have := ZL3.out; have := ZLa4.out; have := ZLb4.out; have := ZLc4.out; have := ZLd4.out; have := ZLe4.out; have := ZL5.out; have := ZC.out; have := ZW.out; omega))
 clear HB ZC HO1 HO4 BX0 BX1 BX2 BX3 BX4 KP hb hr hk
 have HB := nHB
 clear nHB
 have ZC := nZC
 clear nZC
 have HO1 := nHO1
 clear nHO1
 have HO4 := nHO4
 clear nHO4
 have BX0 := nBX0
 clear nBX0
 have BX1 := nBX1
 clear nBX1
 have BX2 := nBX2
 clear nBX2
 have BX3 := nBX3
 clear nBX3
 have BX4 := nBX4
 clear nBX4
 have zc0_0 : w36.cell? ⟨w.heap.size, 0, none⟩ = some (.int .i64 a0_0) := (blk_cell BX0.out 0).trans rfl
 have zc0_1 : w36.cell? ⟨w.heap.size, 1, none⟩ = some (.slice A0_1 l0_1.length c0_1) := (blk_cell BX0.out 1).trans rfl
 have zc1_0 : w36.cell? ⟨(w.heap.size + 1), 0, none⟩ = some (.int .i64 a1_0) := (blk_cell BX1.out 0).trans rfl
 have zc1_1 : w36.cell? ⟨(w.heap.size + 1), 1, none⟩ = some (.int .i64 a1_1) := (blk_cell BX1.out 1).trans rfl
 have zc2_0 : w36.cell? ⟨gq1, 0, none⟩ = some (.int .i64 s1) := (blk_cell BX2.out 0).trans rfl
 have zc2_1 : w36.cell? ⟨gq1, 1, none⟩ = some (.slice A1_ s2.length c1_) := (blk_cell BX2.out 1).trans rfl
 have zc3_0 : w36.cell? ⟨w18.heap.size, 0, none⟩ = some (.int .i64 x1) := (blk_cell BX3.out 0).trans rfl
 have zc3_1 : w36.cell? ⟨w18.heap.size, 1, none⟩ = some (.slice A2_ x2.length c2_) := (blk_cell BX3.out 1).trans rfl
 have zc4_0 : w36.cell? ⟨gq4, 0, none⟩ = some (.int .i64 s1) := (blk_cell BX4.out 0).trans rfl
 have zc4_1 : w36.cell? ⟨gq4, 1, none⟩ = some (.slice A4_ s2.length c4_) := (blk_cell BX4.out 1).trans rfl
 go_wp2_with fail
 refine (lawHeldWheel.calls k s1 _ _ s2.length mk2 1 _ _ (Kd.R_reads' (Kd.S_R HO4.out)).1 (law_C0 (Kd.S_R HO4.out) (by repeat (first | exact Below.refl _ _ | apply below_alloc | apply pw_below_drewN | apply below_drew1))) (law_c0 (Kd.S_R HO4.out)) HQ.out).mono ?_
 rintro e w37 ⟨rfl, hb⟩
 clear zc0_0 zc0_1 zc1_0 zc1_1 zc2_0 zc2_1 zc3_0 zc3_1 zc4_0 zc4_1
 have ST : Below w36.heap.size w36 w37 := bel_then (by repeat (first | exact Below.refl _ _ | apply below_alloc | apply pw_below_drewN | apply below_drew1)) hb
 have nZC := Aside0.mk (Nat.le_trans ZC.out ST.size)
 have nHB : Aside0 (Below w.heap.size w w37) := ⟨bel_then HB.out ST⟩
 have nHO1 := Aside0.mk (Kd.S_below HO1.out ST)
 have nHO4 := Aside0.mk (Kd.S_below HO4.out ST)
 have nBX0 := Aside0.mk (blk_below BX0.out ST)
 have nBX1 := Aside0.mk (blk_below BX1.out ST)
 have nBX2 := Aside0.mk (blk_below BX2.out ST)
 have nBX3 := Aside0.mk (blk_below BX3.out ST)
 have nBX4 := Aside0.mk (blk_below BX4.out ST)
 clear HB ZC HO1 HO4 BX0 BX1 BX2 BX3 BX4 ST hb
 have HB := nHB
 clear nHB
 have ZC := nZC
 clear nZC
 have HO1 := nHO1
 clear nHO1
 have HO4 := nHO4
 clear nHO4
 have BX0 := nBX0
 clear nBX0
 have BX1 := nBX1
 clear nBX1
 have BX2 := nBX2
 clear nBX2
 have BX3 := nBX3
 clear nBX3
 have BX4 := nBX4
 clear nBX4
 have zc0_0 : w37.cell? ⟨w.heap.size, 0, none⟩ = some (.int .i64 a0_0) := (blk_cell BX0.out 0).trans rfl
 have zc0_1 : w37.cell? ⟨w.heap.size, 1, none⟩ = some (.slice A0_1 l0_1.length c0_1) := (blk_cell BX0.out 1).trans rfl
 have zc1_0 : w37.cell? ⟨(w.heap.size + 1), 0, none⟩ = some (.int .i64 a1_0) := (blk_cell BX1.out 0).trans rfl
 have zc1_1 : w37.cell? ⟨(w.heap.size + 1), 1, none⟩ = some (.int .i64 a1_1) := (blk_cell BX1.out 1).trans rfl
 have zc2_0 : w37.cell? ⟨gq1, 0, none⟩ = some (.int .i64 s1) := (blk_cell BX2.out 0).trans rfl
 have zc2_1 : w37.cell? ⟨gq1, 1, none⟩ = some (.slice A1_ s2.length c1_) := (blk_cell BX2.out 1).trans rfl
 have zc3_0 : w37.cell? ⟨w18.heap.size, 0, none⟩ = some (.int .i64 x1) := (blk_cell BX3.out 0).trans rfl
 have zc3_1 : w37.cell? ⟨w18.heap.size, 1, none⟩ = some (.slice A2_ x2.length c2_) := (blk_cell BX3.out 1).trans rfl
 have zc4_0 : w37.cell? ⟨gq4, 0, none⟩ = some (.int .i64 s1) := (blk_cell BX4.out 0).trans rfl
 have zc4_1 : w37.cell? ⟨gq4, 1, none⟩ = some (.slice A4_ s2.length c4_) := (blk_cell BX4.out 1).trans rfl
 try go_wp2
 clear zc0_0 zc0_1 zc1_0 zc1_1 zc2_0 zc2_1 zc3_0 zc3_1 zc4_0 zc4_1
 refine start_ (n := 11) (S := fun w' => w'.cell? ⟨w.heap.size, 0, none⟩ = some (.int .i64 a0_0) ∧ w'.cell? ⟨w.heap.size, 1, none⟩ = some (.slice A0_1 l0_1.length c0_1) ∧ w'.cell? ⟨(w.heap.size + 1), 0, none⟩ = some (.int .i64 a1_0) ∧ w'.cell? ⟨(w.heap.size + 1), 1, none⟩ = some (.int .i64 a1_1) ∧ w'.cell? ⟨gq1, 0, none⟩ = some (.int .i64 s1) ∧ w'.cell? ⟨gq1, 1, none⟩ = some (.slice A1_ s2.length c1_) ∧ w'.cell? ⟨w18.heap.size, 0, none⟩ = some (.int .i64 x1) ∧ w'.cell? ⟨w18.heap.size, 1, none⟩ = some (.slice A2_ x2.length c2_) ∧ w'.cell? ⟨gq4, 0, none⟩ = some (.int .i64 s1) ∧ w'.cell? ⟨gq4, 1, none⟩ = some (.slice A4_ s2.length c4_)) (ds := []) #[false, false, false, false, false, false, false, false, false, false, false] (by kernel_rfl) rfl rfl ⟨(blk_cell BX0.out 0).trans rfl, (blk_cell BX0.out 1).trans rfl, (blk_cell BX1.out 0).trans rfl, (blk_cell BX1.out 1).trans rfl, (blk_cell BX2.out 0).trans rfl, (blk_cell BX2.out 1).trans rfl, (blk_cell BX3.out 0).trans rfl, (blk_cell BX3.out 1).trans rfl, (blk_cell BX4.out 0).trans rfl, (blk_cell BX4.out 1).trans rfl⟩ (fun hHeld => ?_)
 have ST : Below w37.heap.size w37 w37.drew := below_drew1 (Below.refl _ _)
 have nHB : Aside0 (Below w.heap.size w w37.drew) := ⟨bel_then HB.out ST⟩
 have nZC : Aside0 (hi5 ≤ w37.drew.heap.size) := ⟨Nat.le_trans ZC.out ST.size⟩
 have nHO1 := Aside0.mk (Kd.S_below HO1.out ST)
 have nHO4 := Aside0.mk (Kd.S_below HO4.out ST)
 have nBX0 := Aside0.mk (blk_below BX0.out ST)
 have nBX1 := Aside0.mk (blk_below BX1.out ST)
 have nBX2 := Aside0.mk (blk_below BX2.out ST)
 have nBX3 := Aside0.mk (blk_below BX3.out ST)
 have nBX4 := Aside0.mk (blk_below BX4.out ST)
 clear HB ZC HO1 HO4 BX0 BX1 BX2 BX3 BX4 ST
 generalize w37.drew = w38 at hHeld nHB nZC nHO1 nHO4 nBX0 nBX1 nBX2 nBX3 nBX4 ⊢
 have HB := nHB
 clear nHB
 have ZC := nZC
 clear nZC
 have HO1 := nHO1
 clear nHO1
 have HO4 := nHO4
 clear nHO4
 have BX0 := nBX0
 clear nBX0
 have BX1 := nBX1
 clear nBX1
 have BX2 := nBX2
 clear nBX2
 have BX3 := nBX3
 clear nBX3
 have BX4 := nBX4
 clear nBX4
 refine take_ (i := 0) (N := some 80) (v := ?_) (a' := ?_) #[true, false, false, false, false, false, false, false, false, false, false] rfl rfl (by kernel_rfl) (fun _ _ _ h => h) (Or.inl ⟨by rfl, ?_⟩) hHeld ?_ ?_
 rotate_left
 ·rintro w' ⟨s0, s1, s2, s3, s4, s5, s6, s7, s8, s9⟩
  go_simp
  with_reducible rfl
 rotate_left
 ·simp only [Act.put, List.setIfInBounds_toArray, List.set_cons_zero, List.set_cons_succ, i64_w, i32_w]
  rfl
 refine take_ (i := 2) (N := some 82) (v := ?_) (a' := ?_) #[true, false, true, false, false, false, false, false, false, false, false] rfl rfl (by kernel_rfl) (fun _ _ _ h => h) (Or.inl ⟨by rfl, ?_⟩) hHeld ?_ ?_
 rotate_left
 ·rintro w' ⟨s0, s1, s2, s3, s4, s5, s6, s7, s8, s9⟩
  go_simp
  with_reducible rfl
 rotate_left
 ·simp only [Act.put, List.setIfInBounds_toArray, List.set_cons_zero, List.set_cons_succ, i64_w, i32_w]
  rfl
 refine join_ (σ := Value × Value × Nat) 2 #[true, true, true, true, true, true, true, true, true, false, false] (fun s_ => [(81, .agg #[.int .i64 x1, s_.1]), (83, .agg #[.int .i64 y1, .int .i64 y2]), (84, .tuple #[.agg #[.int .i64 s1, s_.2.1], .bool s5]), (14, .pointer (some ⟨s_.2.2, 0, none⟩)), (79, .tuple #[.agg #[.int .i64 s1, s_.2.1], .bool s5]), (85, .agg #[.int .i64 s1, s_.2.1]), (86, .bool s5)]) (fun s_ w' => (w'.cell? ⟨w.heap.size, 0, none⟩ = some (.int .i64 a0_0) ∧ w'.cell? ⟨w.heap.size, 1, none⟩ = some (.slice A0_1 l0_1.length c0_1) ∧ w'.cell? ⟨(w.heap.size + 1), 0, none⟩ = some (.int .i64 a1_0) ∧ w'.cell? ⟨(w.heap.size + 1), 1, none⟩ = some (.int .i64 a1_1) ∧ w'.cell? ⟨gq1, 0, none⟩ = some (.int .i64 s1) ∧ w'.cell? ⟨gq1, 1, none⟩ = some (.slice A1_ s2.length c1_) ∧ w'.cell? ⟨w18.heap.size, 0, none⟩ = some (.int .i64 x1) ∧ w'.cell? ⟨w18.heap.size, 1, none⟩ = some (.slice A2_ x2.length c2_) ∧ w'.cell? ⟨gq4, 0, none⟩ = some (.int .i64 s1) ∧ w'.cell? ⟨gq4, 1, none⟩ = some (.slice A4_ s2.length c4_)) ∧ Below w38.heap.size w38 w' ∧ ∃ lo hi, (w38.heap.size ≤ lo ∧ lo ≤ hi) ∧ hi ≤ w'.heap.size ∧ Kd.S (Kd.slice 45 k45) 48 w' lo (fun k => lo ≤ k ∧ k < hi) s_.2.1 s2 ∧ (w38.heap.size ≤ s_.2.2 ∧ (s_.2.2 < lo ∨ hi ≤ s_.2.2)) ∧ w'.heap[s_.2.2]? = some (.cells #[.int .i64 0, .slice none 0 0] 27 (0, 0))) ?_ ?_
 rotate_left
 ·intro hCont
  have ST := Aside0.mk (Below.refl w38.heap.size w38)
  refine two_ (i := 1) (j := 8) (Ni := some 81) (Nj := some 14) #[true, true, true, false, false, false, false, false, false, false, false] #[true, false, true, false, false, false, false, false, true, false, false] rfl rfl rfl rfl (by kernel_rfl) (by decide) (by decide) (fun K hK => ?_) (fun K hK => ?_)
  ·skip
   refine goes_ Try.func20 (by kernel_rfl) rfl #[.agg #[.int .i64 a0_0, .slice A0_1 l0_1.length c0_1]] (by rfl) rfl rfl (by (try simp only [List.map_toArray, List.map_cons, List.map_nil]); first | done | rfl | (simp only [List.length_drop, List.length_take]; rfl)) ?_
   refine (laws_toWheel.calls k a0_0 _ _ l0_1 x1 x2 _ (Kd.C_below HR0_1.out (bel_then HB.out ST.out)) HC0_1.out HX.out).mono ?_
   rintro e w39 ⟨v, rfl, hr, hb⟩
   refine ⟨_, rfl, ?_⟩
   have nST : Aside0 (Below w38.heap.size w38 w39) := ⟨bel_then ST.out hb⟩
   clear ST
   have ST := nST
   clear nST
   have HT := Aside0.mk hr
   obtain ⟨AT, cT, rfl⟩ := Kd.S_slice hr
   clear hb hr
   refine hK.out _ _ ⟨(blk_cell (blk_below BX0.out ST.out) 0).trans rfl, (blk_cell (blk_below BX0.out ST.out) 1).trans rfl, (blk_cell (blk_below BX1.out ST.out) 0).trans rfl, (blk_cell (blk_below BX1.out ST.out) 1).trans rfl, (blk_cell (blk_below BX2.out ST.out) 0).trans rfl, (blk_cell (blk_below BX2.out ST.out) 1).trans rfl, (blk_cell (blk_below BX3.out ST.out) 0).trans rfl, (blk_cell (blk_below BX3.out ST.out) 1).trans rfl, (blk_cell (blk_below BX4.out ST.out) 0).trans rfl, (blk_cell (blk_below BX4.out ST.out) 1).trans rfl⟩ (fun hHeld => ?_)
   clear hK K
   refine norm_ (a' := ?_) ?_ ?_
   rotate_left
   ·show Act.put _ (some 81) _ = _
    simp only [Act.put, List.setIfInBounds_toArray, List.set_cons_zero, List.set_cons_succ, i64_w, i32_w]
    rfl
   refine two_ (i := 3) (j := 8) (Ni := some 83) (Nj := some 14) #[true, true, true, true, false, false, false, false, false, false, false] #[true, true, true, false, false, false, false, false, true, false, false] rfl rfl rfl rfl (by kernel_rfl) (by decide) (by decide) (fun K hK => ?_) (fun K hK => ?_)
   ·skip
    refine goes_ Try.func25 (by kernel_rfl) rfl #[.agg #[.int .i64 a1_0, .int .i64 a1_1]] (by rfl) rfl rfl (by (try simp only [List.map_toArray, List.map_cons, List.map_nil]); first | done | rfl | (simp only [List.length_drop, List.length_take]; rfl)) ?_
    refine (laws_toTimer.calls a1_0 a1_1 y1 y2 _ HY.out).mono ?_
    rintro e w40 ⟨rfl, hb⟩
    refine ⟨_, rfl, ?_⟩
    have nST : Aside0 (Below w38.heap.size w38 w40) := ⟨bel_then ST.out hb⟩
    have nHT := Aside0.mk (Kd.S_below HT.out hb)
    clear ST HT
    have ST := nST
    clear nST
    have HT := nHT
    clear nHT
    clear hb
    refine hK.out _ _ ⟨(blk_cell (blk_below BX0.out ST.out) 0).trans rfl, (blk_cell (blk_below BX0.out ST.out) 1).trans rfl, (blk_cell (blk_below BX1.out ST.out) 0).trans rfl, (blk_cell (blk_below BX1.out ST.out) 1).trans rfl, (blk_cell (blk_below BX2.out ST.out) 0).trans rfl, (blk_cell (blk_below BX2.out ST.out) 1).trans rfl, (blk_cell (blk_below BX3.out ST.out) 0).trans rfl, (blk_cell (blk_below BX3.out ST.out) 1).trans rfl, (blk_cell (blk_below BX4.out ST.out) 0).trans rfl, (blk_cell (blk_below BX4.out ST.out) 1).trans rfl⟩ (fun hHeld => ?_)
    clear hK K
    refine norm_ (a' := ?_) ?_ ?_
    rotate_left
    ·show Act.put _ (some 83) _ = _
     simp only [Act.put, List.setIfInBounds_toArray, List.set_cons_zero, List.set_cons_succ, i64_w, i32_w]
     rfl
    refine two_ (i := 4) (j := 8) (Ni := some 84) (Nj := some 14) #[true, true, true, true, true, false, false, false, false, false, false] #[true, true, true, true, false, false, false, false, true, false, false] rfl rfl rfl rfl (by kernel_rfl) (by decide) (by decide) (fun K hK => ?_) (fun K hK => ?_)
    ·skip
     refine goes_ Try.func26 (by kernel_rfl) rfl #[.agg #[.int .i64 x1, .slice AT x2.length cT], .agg #[.int .i64 y1, .int .i64 y2]] (by rfl) rfl rfl (by (try simp only [List.map_toArray, List.map_cons, List.map_nil]); first | done | rfl | (simp only [List.length_drop, List.length_take]; rfl)) ?_
     refine (impl_SetTimer.calls k x1 _ _ x2 y1 y2 s1 s2 s5 _ (law_C (Kd.S_R HT.out) (Below.refl _ _)) (law_c (Kd.S_R HT.out)) HG.out).mono ?_
     rintro e w41 ⟨v, rfl, hr, hb⟩
     refine ⟨_, rfl, ?_⟩
     have HLO := Aside0.mk ST.out.size
     have HLH := Aside0.mk hb.size
     have nST : Aside0 (Below w38.heap.size w38 w41) := ⟨bel_then ST.out hb⟩
     have nHT := Aside0.mk (Kd.S_below HT.out hb)
     clear ST HT
     have ST := nST
     clear nST
     have HT := nHT
     clear nHT
     have HM := Aside0.mk (Kd.S_mono (Kd.S_bound hr) (fun k hk => (⟨hk.2.1, hk.2.2.1⟩ : w40.heap.size ≤ k ∧ k < w41.heap.size)))
     have HL : Aside0 (w41.heap.size ≤ w41.heap.size) := ⟨Nat.le_refl _⟩
     clear hb hr
     refine hK.out _ _ ⟨(blk_cell (blk_below BX0.out ST.out) 0).trans rfl, (blk_cell (blk_below BX0.out ST.out) 1).trans rfl, (blk_cell (blk_below BX1.out ST.out) 0).trans rfl, (blk_cell (blk_below BX1.out ST.out) 1).trans rfl, (blk_cell (blk_below BX2.out ST.out) 0).trans rfl, (blk_cell (blk_below BX2.out ST.out) 1).trans rfl, (blk_cell (blk_below BX3.out ST.out) 0).trans rfl, (blk_cell (blk_below BX3.out ST.out) 1).trans rfl, (blk_cell (blk_below BX4.out ST.out) 0).trans rfl, (blk_cell (blk_below BX4.out ST.out) 1).trans rfl⟩ (fun hHeld => ?_)
     clear hK K
     refine norm_ (a' := ?_) ?_ ?_
     rotate_left
     ·show Act.put _ (some 84) _ = _
      simp only [Act.put, List.setIfInBounds_toArray, List.set_cons_zero, List.set_cons_succ, i64_w, i32_w]
      rfl
     refine pure_ (i := 5) (N := some 79) (v := ?_) (a' := ?_) #[true, true, true, true, true, true, false, false, false, false, false] rfl rfl (by kernel_rfl) (fun _ _ _ h => h) (Or.inl ⟨by rfl, ?_⟩) ?_ ?_
     rotate_left
     ·intro w'
      go_simp
      with_reducible rfl
     rotate_left
     ·simp only [Act.put, List.setIfInBounds_toArray, List.set_cons_zero, List.set_cons_succ, i64_w, i32_w]
      rfl
     refine pure_ (i := 6) (N := some 85) (v := ?_) (a' := ?_) #[true, true, true, true, true, true, true, false, false, false, false] rfl rfl (by kernel_rfl) (fun _ _ _ h => h) (Or.inl ⟨by rfl, ?_⟩) ?_ ?_
     rotate_left
     ·intro w'
      go_simp
      with_reducible rfl
     rotate_left
     ·simp only [Act.put, List.setIfInBounds_toArray, List.set_cons_zero, List.set_cons_succ, i64_w, i32_w]
      rfl
     refine pure_ (i := 7) (N := some 86) (v := ?_) (a' := ?_) #[true, true, true, true, true, true, true, true, false, false, false] rfl rfl (by kernel_rfl) (fun _ _ _ h => h) (Or.inl ⟨by rfl, ?_⟩) ?_ ?_
     rotate_left
     ·intro w'
      go_simp
      with_reducible rfl
     rotate_left
     ·simp only [Act.put, List.setIfInBounds_toArray, List.set_cons_zero, List.set_cons_succ, i64_w, i32_w]
      rfl
     refine one_ (i := 8) (N := some 14) #[true, true, true, true, true, true, true, true, true, false, false] rfl rfl (by kernel_rfl) (by decide) (fun K hK => ?_)
     refine box_step ?hg (N := 14) ?hd (cs := #[.int .i64 0, .slice none 0 0]) (t := 27) ?hr ?_; (case hd => rfl); (case hg => rfl); (case hr => first | (go_simp; done) | (go_simp; rfl))
     intro gA hg w42 hbox hb
     have HGE : Aside0 (w38.heap.size ≤ gA) := ⟨by rw [hg]; exact ST.out.size⟩
     have HD : Aside0 (gA < w40.heap.size ∨ w41.heap.size ≤ gA) := ⟨.inr (by rw [hg]; exact HL.out)⟩
     have nST : Aside0 (Below w38.heap.size w38 w42) := ⟨bel_then ST.out hb⟩
     have nHT := Aside0.mk (Kd.S_below HT.out hb)
     have nHM := Aside0.mk (Kd.S_below HM.out hb)
     have nHL := Aside0.mk (Nat.le_trans HL.out hb.size)
     clear ST HT HM HL
     have ST := nST
     clear nST
     have HT := nHT
     clear nHT
     have HM := nHM
     clear nHM
     have HL := nHL
     clear nHL
     have HGB := Aside0.mk hbox
     clear hb hbox hg
     refine hK.out _ _ ⟨(blk_cell (blk_below BX0.out ST.out) 0).trans rfl, (blk_cell (blk_below BX0.out ST.out) 1).trans rfl, (blk_cell (blk_below BX1.out ST.out) 0).trans rfl, (blk_cell (blk_below BX1.out ST.out) 1).trans rfl, (blk_cell (blk_below BX2.out ST.out) 0).trans rfl, (blk_cell (blk_below BX2.out ST.out) 1).trans rfl, (blk_cell (blk_below BX3.out ST.out) 0).trans rfl, (blk_cell (blk_below BX3.out ST.out) 1).trans rfl, (blk_cell (blk_below BX4.out ST.out) 0).trans rfl, (blk_cell (blk_below BX4.out ST.out) 1).trans rfl⟩ (fun hHeld => ?_)
     clear hK K
     refine norm_ (a' := ?_) ?_ ?_
     rotate_left
     ·show Act.put _ (some 14) _ = _
      simp only [Act.put, List.setIfInBounds_toArray, List.set_cons_zero, List.set_cons_succ, i64_w, i32_w]
      rfl
     exact norm_ (by simp only [putAll, Act.put, List.setIfInBounds_toArray, List.set_cons_zero, List.set_cons_succ]) (hCont (.slice AT x2.length cT, v, gA) _ ⟨hHeld, ST.out, _, _, ⟨HLO.out, HLH.out⟩, HL.out, HM.out, ⟨HGE.out, HD.out⟩, HGB.out⟩)
    ·skip
     refine box_step ?hg (N := 14) ?hd (cs := #[.int .i64 0, .slice none 0 0]) (t := 27) ?hr ?_; (case hd => rfl); (case hg => rfl); (case hr => first | (go_simp; done) | (go_simp; rfl))
     intro gA hg w43 hbox hb
     have HGE : Aside0 (w38.heap.size ≤ gA) := ⟨by rw [hg]; exact ST.out.size⟩
     have nST : Aside0 (Below w38.heap.size w38 w43) := ⟨bel_then ST.out hb⟩
     have nHT := Aside0.mk (Kd.S_below HT.out hb)
     clear ST HT
     have ST := nST
     clear nST
     have HT := nHT
     clear nHT
     have HGB := Aside0.mk hbox
     clear hb hbox hg
     refine hK.out _ _ ⟨(blk_cell (blk_below BX0.out ST.out) 0).trans rfl, (blk_cell (blk_below BX0.out ST.out) 1).trans rfl, (blk_cell (blk_below BX1.out ST.out) 0).trans rfl, (blk_cell (blk_below BX1.out ST.out) 1).trans rfl, (blk_cell (blk_below BX2.out ST.out) 0).trans rfl, (blk_cell (blk_below BX2.out ST.out) 1).trans rfl, (blk_cell (blk_below BX3.out ST.out) 0).trans rfl, (blk_cell (blk_below BX3.out ST.out) 1).trans rfl, (blk_cell (blk_below BX4.out ST.out) 0).trans rfl, (blk_cell (blk_below BX4.out ST.out) 1).trans rfl⟩ (fun hHeld => ?_)
     clear hK K
     refine norm_ (a' := ?_) ?_ ?_
     rotate_left
     ·show Act.put _ (some 14) _ = _
      simp only [Act.put, List.setIfInBounds_toArray, List.set_cons_zero, List.set_cons_succ, i64_w, i32_w]
      rfl
     refine one_ (i := 4) (N := some 84) #[true, true, true, true, true, false, false, false, true, false, false] rfl rfl (by kernel_rfl) (by decide) (fun K hK => ?_)
     refine goes_ Try.func26 (by kernel_rfl) rfl #[.agg #[.int .i64 x1, .slice AT x2.length cT], .agg #[.int .i64 y1, .int .i64 y2]] (by rfl) rfl rfl (by (try simp only [List.map_toArray, List.map_cons, List.map_nil]); first | done | rfl | (simp only [List.length_drop, List.length_take]; rfl)) ?_
     refine (impl_SetTimer.calls k x1 _ _ x2 y1 y2 s1 s2 s5 _ (law_C (Kd.S_R HT.out) (Below.refl _ _)) (law_c (Kd.S_R HT.out)) HG.out).mono ?_
     rintro e w44 ⟨v, rfl, hr, hb⟩
     refine ⟨_, rfl, ?_⟩
     have HD : Aside0 (gA < w43.heap.size ∨ w44.heap.size ≤ gA) := ⟨.inl (blk_lt HGB.out)⟩
     have HLO := Aside0.mk ST.out.size
     have HLH := Aside0.mk hb.size
     have nST : Aside0 (Below w38.heap.size w38 w44) := ⟨bel_then ST.out hb⟩
     have nHT := Aside0.mk (Kd.S_below HT.out hb)
     have nHGB := Aside0.mk (blk_below HGB.out hb)
     clear ST HT HGB
     have ST := nST
     clear nST
     have HT := nHT
     clear nHT
     have HGB := nHGB
     clear nHGB
     have HM := Aside0.mk (Kd.S_mono (Kd.S_bound hr) (fun k hk => (⟨hk.2.1, hk.2.2.1⟩ : w43.heap.size ≤ k ∧ k < w44.heap.size)))
     have HL : Aside0 (w44.heap.size ≤ w44.heap.size) := ⟨Nat.le_refl _⟩
     clear hb hr
     refine hK.out _ _ ⟨(blk_cell (blk_below BX0.out ST.out) 0).trans rfl, (blk_cell (blk_below BX0.out ST.out) 1).trans rfl, (blk_cell (blk_below BX1.out ST.out) 0).trans rfl, (blk_cell (blk_below BX1.out ST.out) 1).trans rfl, (blk_cell (blk_below BX2.out ST.out) 0).trans rfl, (blk_cell (blk_below BX2.out ST.out) 1).trans rfl, (blk_cell (blk_below BX3.out ST.out) 0).trans rfl, (blk_cell (blk_below BX3.out ST.out) 1).trans rfl, (blk_cell (blk_below BX4.out ST.out) 0).trans rfl, (blk_cell (blk_below BX4.out ST.out) 1).trans rfl⟩ (fun hHeld => ?_)
     clear hK K
     refine norm_ (a' := ?_) ?_ ?_
     rotate_left
     ·show Act.put _ (some 84) _ = _
      simp only [Act.put, List.setIfInBounds_toArray, List.set_cons_zero, List.set_cons_succ, i64_w, i32_w]
      rfl
     refine pure_ (i := 5) (N := some 79) (v := ?_) (a' := ?_) #[true, true, true, true, true, true, false, false, true, false, false] rfl rfl (by kernel_rfl) (fun _ _ _ h => h) (Or.inl ⟨by rfl, ?_⟩) ?_ ?_
     rotate_left
     ·intro w'
      go_simp
      with_reducible rfl
     rotate_left
     ·simp only [Act.put, List.setIfInBounds_toArray, List.set_cons_zero, List.set_cons_succ, i64_w, i32_w]
      rfl
     refine pure_ (i := 6) (N := some 85) (v := ?_) (a' := ?_) #[true, true, true, true, true, true, true, false, true, false, false] rfl rfl (by kernel_rfl) (fun _ _ _ h => h) (Or.inl ⟨by rfl, ?_⟩) ?_ ?_
     rotate_left
     ·intro w'
      go_simp
      with_reducible rfl
     rotate_left
     ·simp only [Act.put, List.setIfInBounds_toArray, List.set_cons_zero, List.set_cons_succ, i64_w, i32_w]
      rfl
     refine pure_ (i := 7) (N := some 86) (v := ?_) (a' := ?_) #[true, true, true, true, true, true, true, true, true, false, false] rfl rfl (by kernel_rfl) (fun _ _ _ h => h) (Or.inl ⟨by rfl, ?_⟩) ?_ ?_
     rotate_left
     ·intro w'
      go_simp
      with_reducible rfl
     rotate_left
     ·simp only [Act.put, List.setIfInBounds_toArray, List.set_cons_zero, List.set_cons_succ, i64_w, i32_w]
      rfl
     exact norm_ (by simp only [putAll, Act.put, List.setIfInBounds_toArray, List.set_cons_zero, List.set_cons_succ]) (hCont (.slice AT x2.length cT, v, gA) _ ⟨hHeld, ST.out, _, _, ⟨HLO.out, HLH.out⟩, HL.out, HM.out, ⟨HGE.out, HD.out⟩, HGB.out⟩)
   ·skip
    refine box_step ?hg (N := 14) ?hd (cs := #[.int .i64 0, .slice none 0 0]) (t := 27) ?hr ?_; (case hd => rfl); (case hg => rfl); (case hr => first | (go_simp; done) | (go_simp; rfl))
    intro gA hg w45 hbox hb
    have HGE : Aside0 (w38.heap.size ≤ gA) := ⟨by rw [hg]; exact ST.out.size⟩
    have nST : Aside0 (Below w38.heap.size w38 w45) := ⟨bel_then ST.out hb⟩
    have nHT := Aside0.mk (Kd.S_below HT.out hb)
    clear ST HT
    have ST := nST
    clear nST
    have HT := nHT
    clear nHT
    have HGB := Aside0.mk hbox
    clear hb hbox hg
    refine hK.out _ _ ⟨(blk_cell (blk_below BX0.out ST.out) 0).trans rfl, (blk_cell (blk_below BX0.out ST.out) 1).trans rfl, (blk_cell (blk_below BX1.out ST.out) 0).trans rfl, (blk_cell (blk_below BX1.out ST.out) 1).trans rfl, (blk_cell (blk_below BX2.out ST.out) 0).trans rfl, (blk_cell (blk_below BX2.out ST.out) 1).trans rfl, (blk_cell (blk_below BX3.out ST.out) 0).trans rfl, (blk_cell (blk_below BX3.out ST.out) 1).trans rfl, (blk_cell (blk_below BX4.out ST.out) 0).trans rfl, (blk_cell (blk_below BX4.out ST.out) 1).trans rfl⟩ (fun hHeld => ?_)
    clear hK K
    refine norm_ (a' := ?_) ?_ ?_
    rotate_left
    ·show Act.put _ (some 14) _ = _
     simp only [Act.put, List.setIfInBounds_toArray, List.set_cons_zero, List.set_cons_succ, i64_w, i32_w]
     rfl
    refine one_ (i := 3) (N := some 83) #[true, true, true, true, false, false, false, false, true, false, false] rfl rfl (by kernel_rfl) (by decide) (fun K hK => ?_)
    refine goes_ Try.func25 (by kernel_rfl) rfl #[.agg #[.int .i64 a1_0, .int .i64 a1_1]] (by rfl) rfl rfl (by (try simp only [List.map_toArray, List.map_cons, List.map_nil]); first | done | rfl | (simp only [List.length_drop, List.length_take]; rfl)) ?_
    refine (laws_toTimer.calls a1_0 a1_1 y1 y2 _ HY.out).mono ?_
    rintro e w46 ⟨rfl, hb⟩
    refine ⟨_, rfl, ?_⟩
    have nST : Aside0 (Below w38.heap.size w38 w46) := ⟨bel_then ST.out hb⟩
    have nHT := Aside0.mk (Kd.S_below HT.out hb)
    have nHGB := Aside0.mk (blk_below HGB.out hb)
    clear ST HT HGB
    have ST := nST
    clear nST
    have HT := nHT
    clear nHT
    have HGB := nHGB
    clear nHGB
    clear hb
    refine hK.out _ _ ⟨(blk_cell (blk_below BX0.out ST.out) 0).trans rfl, (blk_cell (blk_below BX0.out ST.out) 1).trans rfl, (blk_cell (blk_below BX1.out ST.out) 0).trans rfl, (blk_cell (blk_below BX1.out ST.out) 1).trans rfl, (blk_cell (blk_below BX2.out ST.out) 0).trans rfl, (blk_cell (blk_below BX2.out ST.out) 1).trans rfl, (blk_cell (blk_below BX3.out ST.out) 0).trans rfl, (blk_cell (blk_below BX3.out ST.out) 1).trans rfl, (blk_cell (blk_below BX4.out ST.out) 0).trans rfl, (blk_cell (blk_below BX4.out ST.out) 1).trans rfl⟩ (fun hHeld => ?_)
    clear hK K
    refine norm_ (a' := ?_) ?_ ?_
    rotate_left
    ·show Act.put _ (some 83) _ = _
     simp only [Act.put, List.setIfInBounds_toArray, List.set_cons_zero, List.set_cons_succ, i64_w, i32_w]
     rfl
    refine one_ (i := 4) (N := some 84) #[true, true, true, true, true, false, false, false, true, false, false] rfl rfl (by kernel_rfl) (by decide) (fun K hK => ?_)
    refine goes_ Try.func26 (by kernel_rfl) rfl #[.agg #[.int .i64 x1, .slice AT x2.length cT], .agg #[.int .i64 y1, .int .i64 y2]] (by rfl) rfl rfl (by (try simp only [List.map_toArray, List.map_cons, List.map_nil]); first | done | rfl | (simp only [List.length_drop, List.length_take]; rfl)) ?_
    refine (impl_SetTimer.calls k x1 _ _ x2 y1 y2 s1 s2 s5 _ (law_C (Kd.S_R HT.out) (Below.refl _ _)) (law_c (Kd.S_R HT.out)) HG.out).mono ?_
    rintro e w47 ⟨v, rfl, hr, hb⟩
    refine ⟨_, rfl, ?_⟩
    have HD : Aside0 (gA < w46.heap.size ∨ w47.heap.size ≤ gA) := ⟨.inl (blk_lt HGB.out)⟩
    have HLO := Aside0.mk ST.out.size
    have HLH := Aside0.mk hb.size
    have nST : Aside0 (Below w38.heap.size w38 w47) := ⟨bel_then ST.out hb⟩
    have nHT := Aside0.mk (Kd.S_below HT.out hb)
    have nHGB := Aside0.mk (blk_below HGB.out hb)
    clear ST HT HGB
    have ST := nST
    clear nST
    have HT := nHT
    clear nHT
    have HGB := nHGB
    clear nHGB
    have HM := Aside0.mk (Kd.S_mono (Kd.S_bound hr) (fun k hk => (⟨hk.2.1, hk.2.2.1⟩ : w46.heap.size ≤ k ∧ k < w47.heap.size)))
    have HL : Aside0 (w47.heap.size ≤ w47.heap.size) := ⟨Nat.le_refl _⟩
    clear hb hr
    refine hK.out _ _ ⟨(blk_cell (blk_below BX0.out ST.out) 0).trans rfl, (blk_cell (blk_below BX0.out ST.out) 1).trans rfl, (blk_cell (blk_below BX1.out ST.out) 0).trans rfl, (blk_cell (blk_below BX1.out ST.out) 1).trans rfl, (blk_cell (blk_below BX2.out ST.out) 0).trans rfl, (blk_cell (blk_below BX2.out ST.out) 1).trans rfl, (blk_cell (blk_below BX3.out ST.out) 0).trans rfl, (blk_cell (blk_below BX3.out ST.out) 1).trans rfl, (blk_cell (blk_below BX4.out ST.out) 0).trans rfl, (blk_cell (blk_below BX4.out ST.out) 1).trans rfl⟩ (fun hHeld => ?_)
    clear hK K
    refine norm_ (a' := ?_) ?_ ?_
    rotate_left
    ·show Act.put _ (some 84) _ = _
     simp only [Act.put, List.setIfInBounds_toArray, List.set_cons_zero, List.set_cons_succ, i64_w, i32_w]
     rfl
    refine pure_ (i := 5) (N := some 79) (v := ?_) (a' := ?_) #[true, true, true, true, true, true, false, false, true, false, false] rfl rfl (by kernel_rfl) (fun _ _ _ h => h) (Or.inl ⟨by rfl, ?_⟩) ?_ ?_
    rotate_left
    ·intro w'
     go_simp
     with_reducible rfl
    rotate_left
    ·simp only [Act.put, List.setIfInBounds_toArray, List.set_cons_zero, List.set_cons_succ, i64_w, i32_w]
     rfl
    refine pure_ (i := 6) (N := some 85) (v := ?_) (a' := ?_) #[true, true, true, true, true, true, true, false, true, false, false] rfl rfl (by kernel_rfl) (fun _ _ _ h => h) (Or.inl ⟨by rfl, ?_⟩) ?_ ?_
    rotate_left
    ·intro w'
     go_simp
     with_reducible rfl
    rotate_left
    ·simp only [Act.put, List.setIfInBounds_toArray, List.set_cons_zero, List.set_cons_succ, i64_w, i32_w]
     rfl
    refine pure_ (i := 7) (N := some 86) (v := ?_) (a' := ?_) #[true, true, true, true, true, true, true, true, true, false, false] rfl rfl (by kernel_rfl) (fun _ _ _ h => h) (Or.inl ⟨by rfl, ?_⟩) ?_ ?_
    rotate_left
    ·intro w'
     go_simp
     with_reducible rfl
    rotate_left
    ·simp only [Act.put, List.setIfInBounds_toArray, List.set_cons_zero, List.set_cons_succ, i64_w, i32_w]
     rfl
    exact norm_ (by simp only [putAll, Act.put, List.setIfInBounds_toArray, List.set_cons_zero, List.set_cons_succ]) (hCont (.slice AT x2.length cT, v, gA) _ ⟨hHeld, ST.out, _, _, ⟨HLO.out, HLH.out⟩, HL.out, HM.out, ⟨HGE.out, HD.out⟩, HGB.out⟩)
  ·skip
   refine box_step ?hg (N := 14) ?hd (cs := #[.int .i64 0, .slice none 0 0]) (t := 27) ?hr ?_; (case hd => rfl); (case hg => rfl); (case hr => first | (go_simp; done) | (go_simp; rfl))
   intro gA hg w48 hbox hb
   have HGE : Aside0 (w38.heap.size ≤ gA) := ⟨by rw [hg]; exact ST.out.size⟩
   have nST : Aside0 (Below w38.heap.size w38 w48) := ⟨bel_then ST.out hb⟩
   clear ST
   have ST := nST
   clear nST
   have HGB := Aside0.mk hbox
   clear hb hbox hg
   refine hK.out _ _ ⟨(blk_cell (blk_below BX0.out ST.out) 0).trans rfl, (blk_cell (blk_below BX0.out ST.out) 1).trans rfl, (blk_cell (blk_below BX1.out ST.out) 0).trans rfl, (blk_cell (blk_below BX1.out ST.out) 1).trans rfl, (blk_cell (blk_below BX2.out ST.out) 0).trans rfl, (blk_cell (blk_below BX2.out ST.out) 1).trans rfl, (blk_cell (blk_below BX3.out ST.out) 0).trans rfl, (blk_cell (blk_below BX3.out ST.out) 1).trans rfl, (blk_cell (blk_below BX4.out ST.out) 0).trans rfl, (blk_cell (blk_below BX4.out ST.out) 1).trans rfl⟩ (fun hHeld => ?_)
   clear hK K
   refine norm_ (a' := ?_) ?_ ?_
   rotate_left
   ·show Act.put _ (some 14) _ = _
    simp only [Act.put, List.setIfInBounds_toArray, List.set_cons_zero, List.set_cons_succ, i64_w, i32_w]
    rfl
   refine one_ (i := 1) (N := some 81) #[true, true, true, false, false, false, false, false, true, false, false] rfl rfl (by kernel_rfl) (by decide) (fun K hK => ?_)
   refine goes_ Try.func20 (by kernel_rfl) rfl #[.agg #[.int .i64 a0_0, .slice A0_1 l0_1.length c0_1]] (by rfl) rfl rfl (by (try simp only [List.map_toArray, List.map_cons, List.map_nil]); first | done | rfl | (simp only [List.length_drop, List.length_take]; rfl)) ?_
   refine (laws_toWheel.calls k a0_0 _ _ l0_1 x1 x2 _ (Kd.C_below HR0_1.out (bel_then HB.out ST.out)) HC0_1.out HX.out).mono ?_
   rintro e w49 ⟨v, rfl, hr, hb⟩
   refine ⟨_, rfl, ?_⟩
   have nST : Aside0 (Below w38.heap.size w38 w49) := ⟨bel_then ST.out hb⟩
   have nHGB := Aside0.mk (blk_below HGB.out hb)
   clear ST HGB
   have ST := nST
   clear nST
   have HGB := nHGB
   clear nHGB
   have HT := Aside0.mk hr
   obtain ⟨AT, cT, rfl⟩ := Kd.S_slice hr
   clear hb hr
   refine hK.out _ _ ⟨(blk_cell (blk_below BX0.out ST.out) 0).trans rfl, (blk_cell (blk_below BX0.out ST.out) 1).trans rfl, (blk_cell (blk_below BX1.out ST.out) 0).trans rfl, (blk_cell (blk_below BX1.out ST.out) 1).trans rfl, (blk_cell (blk_below BX2.out ST.out) 0).trans rfl, (blk_cell (blk_below BX2.out ST.out) 1).trans rfl, (blk_cell (blk_below BX3.out ST.out) 0).trans rfl, (blk_cell (blk_below BX3.out ST.out) 1).trans rfl, (blk_cell (blk_below BX4.out ST.out) 0).trans rfl, (blk_cell (blk_below BX4.out ST.out) 1).trans rfl⟩ (fun hHeld => ?_)
   clear hK K
   refine norm_ (a' := ?_) ?_ ?_
   rotate_left
   ·show Act.put _ (some 81) _ = _
    simp only [Act.put, List.setIfInBounds_toArray, List.set_cons_zero, List.set_cons_succ, i64_w, i32_w]
    rfl
   refine one_ (i := 3) (N := some 83) #[true, true, true, true, false, false, false, false, true, false, false] rfl rfl (by kernel_rfl) (by decide) (fun K hK => ?_)
   refine goes_ Try.func25 (by kernel_rfl) rfl #[.agg #[.int .i64 a1_0, .int .i64 a1_1]] (by rfl) rfl rfl (by (try simp only [List.map_toArray, List.map_cons, List.map_nil]); first | done | rfl | (simp only [List.length_drop, List.length_take]; rfl)) ?_
   refine (laws_toTimer.calls a1_0 a1_1 y1 y2 _ HY.out).mono ?_
   rintro e w50 ⟨rfl, hb⟩
   refine ⟨_, rfl, ?_⟩
   have nST : Aside0 (Below w38.heap.size w38 w50) := ⟨bel_then ST.out hb⟩
   have nHT := Aside0.mk (Kd.S_below HT.out hb)
   have nHGB := Aside0.mk (blk_below HGB.out hb)
   clear ST HT HGB
   have ST := nST
   clear nST
   have HT := nHT
   clear nHT
   have HGB := nHGB
   clear nHGB
   clear hb
   refine hK.out _ _ ⟨(blk_cell (blk_below BX0.out ST.out) 0).trans rfl, (blk_cell (blk_below BX0.out ST.out) 1).trans rfl, (blk_cell (blk_below BX1.out ST.out) 0).trans rfl, (blk_cell (blk_below BX1.out ST.out) 1).trans rfl, (blk_cell (blk_below BX2.out ST.out) 0).trans rfl, (blk_cell (blk_below BX2.out ST.out) 1).trans rfl, (blk_cell (blk_below BX3.out ST.out) 0).trans rfl, (blk_cell (blk_below BX3.out ST.out) 1).trans rfl, (blk_cell (blk_below BX4.out ST.out) 0).trans rfl, (blk_cell (blk_below BX4.out ST.out) 1).trans rfl⟩ (fun hHeld => ?_)
   clear hK K
   refine norm_ (a' := ?_) ?_ ?_
   rotate_left
   ·show Act.put _ (some 83) _ = _
    simp only [Act.put, List.setIfInBounds_toArray, List.set_cons_zero, List.set_cons_succ, i64_w, i32_w]
    rfl
   refine one_ (i := 4) (N := some 84) #[true, true, true, true, true, false, false, false, true, false, false] rfl rfl (by kernel_rfl) (by decide) (fun K hK => ?_)
   refine goes_ Try.func26 (by kernel_rfl) rfl #[.agg #[.int .i64 x1, .slice AT x2.length cT], .agg #[.int .i64 y1, .int .i64 y2]] (by rfl) rfl rfl (by (try simp only [List.map_toArray, List.map_cons, List.map_nil]); first | done | rfl | (simp only [List.length_drop, List.length_take]; rfl)) ?_
   refine (impl_SetTimer.calls k x1 _ _ x2 y1 y2 s1 s2 s5 _ (law_C (Kd.S_R HT.out) (Below.refl _ _)) (law_c (Kd.S_R HT.out)) HG.out).mono ?_
   rintro e w51 ⟨v, rfl, hr, hb⟩
   refine ⟨_, rfl, ?_⟩
   have HD : Aside0 (gA < w50.heap.size ∨ w51.heap.size ≤ gA) := ⟨.inl (blk_lt HGB.out)⟩
   have HLO := Aside0.mk ST.out.size
   have HLH := Aside0.mk hb.size
   have nST : Aside0 (Below w38.heap.size w38 w51) := ⟨bel_then ST.out hb⟩
   have nHT := Aside0.mk (Kd.S_below HT.out hb)
   have nHGB := Aside0.mk (blk_below HGB.out hb)
   clear ST HT HGB
   have ST := nST
   clear nST
   have HT := nHT
   clear nHT
   have HGB := nHGB
   clear nHGB
   have HM := Aside0.mk (Kd.S_mono (Kd.S_bound hr) (fun k hk => (⟨hk.2.1, hk.2.2.1⟩ : w50.heap.size ≤ k ∧ k < w51.heap.size)))
   have HL : Aside0 (w51.heap.size ≤ w51.heap.size) := ⟨Nat.le_refl _⟩
   clear hb hr
   refine hK.out _ _ ⟨(blk_cell (blk_below BX0.out ST.out) 0).trans rfl, (blk_cell (blk_below BX0.out ST.out) 1).trans rfl, (blk_cell (blk_below BX1.out ST.out) 0).trans rfl, (blk_cell (blk_below BX1.out ST.out) 1).trans rfl, (blk_cell (blk_below BX2.out ST.out) 0).trans rfl, (blk_cell (blk_below BX2.out ST.out) 1).trans rfl, (blk_cell (blk_below BX3.out ST.out) 0).trans rfl, (blk_cell (blk_below BX3.out ST.out) 1).trans rfl, (blk_cell (blk_below BX4.out ST.out) 0).trans rfl, (blk_cell (blk_below BX4.out ST.out) 1).trans rfl⟩ (fun hHeld => ?_)
   clear hK K
   refine norm_ (a' := ?_) ?_ ?_
   rotate_left
   ·show Act.put _ (some 84) _ = _
    simp only [Act.put, List.setIfInBounds_toArray, List.set_cons_zero, List.set_cons_succ, i64_w, i32_w]
    rfl
   refine pure_ (i := 5) (N := some 79) (v := ?_) (a' := ?_) #[true, true, true, true, true, true, false, false, true, false, false] rfl rfl (by kernel_rfl) (fun _ _ _ h => h) (Or.inl ⟨by rfl, ?_⟩) ?_ ?_
   rotate_left
   ·intro w'
    go_simp
    with_reducible rfl
   rotate_left
   ·simp only [Act.put, List.setIfInBounds_toArray, List.set_cons_zero, List.set_cons_succ, i64_w, i32_w]
    rfl
   refine pure_ (i := 6) (N := some 85) (v := ?_) (a' := ?_) #[true, true, true, true, true, true, true, false, true, false, false] rfl rfl (by kernel_rfl) (fun _ _ _ h => h) (Or.inl ⟨by rfl, ?_⟩) ?_ ?_
   rotate_left
   ·intro w'
    go_simp
    with_reducible rfl
   rotate_left
   ·simp only [Act.put, List.setIfInBounds_toArray, List.set_cons_zero, List.set_cons_succ, i64_w, i32_w]
    rfl
   refine pure_ (i := 7) (N := some 86) (v := ?_) (a' := ?_) #[true, true, true, true, true, true, true, true, true, false, false] rfl rfl (by kernel_rfl) (fun _ _ _ h => h) (Or.inl ⟨by rfl, ?_⟩) ?_ ?_
   rotate_left
   ·intro w'
    go_simp
    with_reducible rfl
   rotate_left
   ·simp only [Act.put, List.setIfInBounds_toArray, List.set_cons_zero, List.set_cons_succ, i64_w, i32_w]
    rfl
   exact norm_ (by simp only [putAll, Act.put, List.setIfInBounds_toArray, List.set_cons_zero, List.set_cons_succ]) (hCont (.slice AT x2.length cT, v, gA) _ ⟨hHeld, ST.out, _, _, ⟨HLO.out, HLH.out⟩, HL.out, HM.out, ⟨HGE.out, HD.out⟩, HGB.out⟩)
 rintro ⟨vT, v, gq6⟩ w52 ⟨hHeld, hst, lo6, hi6, hz6, hy6, ho6, hg6, hbx6⟩
 have ST := Aside0.mk hst
 have ZLa6 := Aside0.mk hz6
 have ZLb6 : Aside0 (w38.heap.size ≤ gq6 ∧ (gq6 < lo6 ∨ hi6 ≤ gq6)) := ⟨hg6⟩
 have ZLc6 := Aside0.mk ZC.out
 have ZLd6 := Aside0.mk hy6
 have BXN : Aside0 (w52.heap[gq6]? = some (.cells #[.int .i64 0, .slice none 0 0] 27 (0, 0))) := ⟨hbx6⟩
 have ZLe6 : Aside0 (gq6 < w52.heap.size) := ⟨blk_lt BXN.out⟩
 have HO6 : Aside0 (Kd.S (Kd.slice 45 k45) 48 w52 lo6 (fun k => lo6 ≤ k ∧ k < hi6) v s2) := ⟨ho6⟩
 clear hst hz6 hg6 hy6 ho6 hbx6
 obtain ⟨A6_, c6_, rfl⟩ := Kd.S_slice HO6.out
 have nHB : Aside0 (Below w.heap.size w w52) := ⟨bel_then HB.out ST.out⟩
 have nHO1 := Aside0.mk (Kd.S_below HO1.out ST.out)
 have nHO4 := Aside0.mk (Kd.S_below HO4.out ST.out)
 have nBX0 := Aside0.mk (blk_below BX0.out ST.out)
 have nBX1 := Aside0.mk (blk_below BX1.out ST.out)
 have nBX2 := Aside0.mk (blk_below BX2.out ST.out)
 have nBX3 := Aside0.mk (blk_below BX3.out ST.out)
 have nBX4 := Aside0.mk (blk_below BX4.out ST.out)
 clear HB HO1 HO4 BX0 BX1 BX2 BX3 BX4 ST ZC
 have HB := nHB
 clear nHB
 have HO1 := nHO1
 clear nHO1
 have HO4 := nHO4
 clear nHO4
 have BX0 := nBX0
 clear nBX0
 have BX1 := nBX1
 clear nBX1
 have BX2 := nBX2
 clear nBX2
 have BX3 := nBX3
 clear nBX3
 have BX4 := nBX4
 clear nBX4
 refine norm_ (a' := ?_) ?_ ?_
 rotate_left
 ·simp only [putAll, Act.put, List.setIfInBounds_toArray, List.set_cons_zero, List.set_cons_succ]
  rfl
 refine one_ (i := 9) (N := none) #[true, true, true, true, true, true, true, true, true, true, false] rfl rfl (by kernel_rfl) (by decide) (fun K hK => ?_)
 have hs0_ : w52.cell? ⟨gq6, 0, none⟩ = some (.int .i64 0) := (blk_cell BXN.out 0).trans rfl
 have hs1_ : w52.cell? ⟨gq6, 1, none⟩ = some (.slice none 0 0) := (blk_cell BXN.out 1).trans rfl
 have hf0_ := blk_frozen BXN.out 0
 have hf1_ := blk_frozen BXN.out 1
 refine skip_ (w1 := ?_) (by rfl) rfl ?_ ?_
 rotate_left
 ·go_simp
  rfl
 clear hs0_ hs1_ hf0_ hf1_ hHeld
 have KP : Kept w52 ((w52.setCell ⟨gq6, 0, none⟩ (.int .i64 s1)).setCell ⟨gq6, 1, none⟩ (.slice A6_ s2.length c6_)) (fun k => k = gq6) := Kept.setCell (p := ⟨gq6, 1, none⟩) (Kept.setCell (p := ⟨gq6, 0, none⟩) (Kept.refl w52 (fun k => k = gq6)) (Or.inl rfl) (.int .i64 s1)) (Or.inl rfl) (.slice A6_ s2.length c6_)
 have hge : w.heap.size ≤ gq6 := by have := ZLa1.out; have := ZLb1.out; have := ZLc1.out; have := ZLd1.out; have := ZLe1.out; have := ZL2.out; have := ZL3.out; have := ZLa4.out; have := ZLb4.out; have := ZLc4.out; have := ZLd4.out; have := ZLe4.out; have := ZL5.out; have := ZLa6.out; have := ZLb6.out; have := ZLc6.out; have := ZLd6.out; have := ZLe6.out; have := HB.out.size; have := ZW.out; omega
 have nHB : Aside0 (Below w.heap.size w ((w52.setCell ⟨gq6, 0, none⟩ (.int .i64 s1)).setCell ⟨gq6, 1, none⟩ (.slice A6_ s2.length c6_))) := ⟨(HB.out.setCell (p := ⟨gq6, 0, none⟩) hge (.int .i64 s1)).setCell (p := ⟨gq6, 1, none⟩) hge (.slice A6_ s2.length c6_)⟩
 have nHO1 := Aside0.mk (Kd.S_kept HO1.out KP (fun k h1 h2 => by have := ZLa1.out; have := ZLb1.out; have := ZLc1.out; have := ZLd1.out; have := ZLe1.out; have := ZL2.out; have := ZL3.out; have := ZLa4.out; have := ZLb4.out; have := ZLc4.out; have := ZLd4.out; have := ZLe4.out; have := ZL5.out; have := ZLa6.out; have := ZLb6.out; have := ZLc6.out; have := ZLd6.out; have := ZLe6.out; have := ZW.out; omega))
 have nHO4 := Aside0.mk (Kd.S_kept HO4.out KP (fun k h1 h2 => by have := ZLa1.out; have := ZLb1.out; have := ZLc1.out; have := ZLd1.out; have := ZLe1.out; have := ZL2.out; have := ZL3.out; have := ZLa4.out; have := ZLb4.out; have := ZLc4.out; have := ZLd4.out; have := ZLe4.out; have := ZL5.out; have := ZLa6.out; have := ZLb6.out; have := ZLc6.out; have := ZLd6.out; have := ZLe6.out; have := ZW.out; omega))
 have nHO6 := Aside0.mk (Kd.S_kept HO6.out KP (fun k h1 h2 => by have := ZLa1.out; have := ZLb1.out; have := ZLc1.out; have := ZLd1.out; have := ZLe1.out; have := ZL2.out; have := ZL3.out; have := ZLa4.out; have := ZLb4.out; have := ZLc4.out; have := ZLd4.out; have := ZLe4.out; have := ZL5.out; have := ZLa6.out; have := ZLb6.out; have := ZLc6.out; have := ZLd6.out; have := ZLe6.out; have := ZW.out; omega))
 have nBX0 := Aside0.mk (blk_kept BX0.out KP (fun h2 => by have := ZLa1.out; have := ZLb1.out; have := ZLc1.out; have := ZLd1.out; have := ZLe1.out; have := ZL2.out; have := ZL3.out; have := ZLa4.out; have := ZLb4.out; have := ZLc4.out; have := ZLd4.out; have := ZLe4.out; have := ZL5.out; have := ZLa6.out; have := ZLb6.out; have := ZLc6.out; have := ZLd6.out; have := ZLe6.out; have := ZW.out; omega))
 have nBX1 := Aside0.mk (blk_kept BX1.out KP (fun h2 => by have := ZLa1.out; have := ZLb1.out; have := ZLc1.out; have := ZLd1.out; have := ZLe1.out; have := ZL2.out; have := ZL3.out; have := ZLa4.out; have := ZLb4.out; have := ZLc4.out; have := ZLd4.out; have := ZLe4.out; have := ZL5.out; have := ZLa6.out; have := ZLb6.out; have := ZLc6.out; have := ZLd6.out; have := ZLe6.out; have := ZW.out; omega))
 have nBX2 := Aside0.mk (blk_kept BX2.out KP (fun h2 => by have := ZLa1.out; have := ZLb1.out; have := ZLc1.out; have := ZLd1.out; have := ZLe1.out; have := ZL2.out; have := ZL3.out; have := ZLa4.out; have := ZLb4.out; have := ZLc4.out; have := ZLd4.out; have := ZLe4.out; have := ZL5.out; have := ZLa6.out; have := ZLb6.out; have := ZLc6.out; have := ZLd6.out; have := ZLe6.out; have := ZW.out; omega))
 have nBX3 := Aside0.mk (blk_kept BX3.out KP (fun h2 => by have := ZLa1.out; have := ZLb1.out; have := ZLc1.out; have := ZLd1.out; have := ZLe1.out; have := ZL2.out; have := ZL3.out; have := ZLa4.out; have := ZLb4.out; have := ZLc4.out; have := ZLd4.out; have := ZLe4.out; have := ZL5.out; have := ZLa6.out; have := ZLb6.out; have := ZLc6.out; have := ZLd6.out; have := ZLe6.out; have := ZW.out; omega))
 have nBX4 := Aside0.mk (blk_kept BX4.out KP (fun h2 => by have := ZLa1.out; have := ZLb1.out; have := ZLc1.out; have := ZLd1.out; have := ZLe1.out; have := ZL2.out; have := ZL3.out; have := ZLa4.out; have := ZLb4.out; have := ZLc4.out; have := ZLd4.out; have := ZLe4.out; have := ZL5.out; have := ZLa6.out; have := ZLb6.out; have := ZLc6.out; have := ZLd6.out; have := ZLe6.out; have := ZW.out; omega))
 have nBXN : Aside0 (((w52.setCell ⟨gq6, 0, none⟩ (.int .i64 s1)).setCell ⟨gq6, 1, none⟩ (.slice A6_ s2.length c6_)).heap[gq6]? = some (.cells #[.int .i64 s1, .slice A6_ s2.length c6_] 27 (0, 0))) := ⟨by refine blk_put (cs := #[.int .i64 s1, .slice none 0 0]) ?_ 1 _ rfl; refine blk_put (cs := #[.int .i64 0, .slice none 0 0]) ?_ 0 _ rfl; exact BXN.out⟩
 have nZC := Aside0.mk KP.1
 clear HB HO6 BXN HO1 HO4 BX0 BX1 BX2 BX3 BX4 KP hge
 generalize ((w52.setCell ⟨gq6, 0, none⟩ (.int .i64 s1)).setCell ⟨gq6, 1, none⟩ (.slice A6_ s2.length c6_)) = w53 at nHB nHO6 nBXN nHO1 nHO4 nBX0 nBX1 nBX2 nBX3 nBX4 nZC ⊢
 have HB := nHB
 clear nHB
 have HO6 := nHO6
 clear nHO6
 have BXN := nBXN
 clear nBXN
 have HO1 := nHO1
 clear nHO1
 have HO4 := nHO4
 clear nHO4
 have BX0 := nBX0
 clear nBX0
 have BX1 := nBX1
 clear nBX1
 have BX2 := nBX2
 clear nBX2
 have BX3 := nBX3
 clear nBX3
 have BX4 := nBX4
 clear nBX4
 have ZC := nZC
 clear nZC
 have BX5 := BXN
 clear BXN
 refine hK.out _ _ ⟨(blk_cell BX0.out 0).trans rfl, (blk_cell BX0.out 1).trans rfl, (blk_cell BX1.out 0).trans rfl, (blk_cell BX1.out 1).trans rfl, (blk_cell BX2.out 0).trans rfl, (blk_cell BX2.out 1).trans rfl, (blk_cell BX3.out 0).trans rfl, (blk_cell BX3.out 1).trans rfl, (blk_cell BX4.out 0).trans rfl, (blk_cell BX4.out 1).trans rfl⟩ (fun hHeld => ?_)
 clear hK K
 refine pure_ (i := 10) (N := some 15) (v := ?_) (a' := ?_) #[true, true, true, true, true, true, true, true, true, true, true] rfl rfl (by kernel_rfl) (fun _ _ _ h => h) (Or.inl ⟨by rfl, ?_⟩) ?_ ?_
 rotate_left
 ·intro w'
  go_simp
  with_reducible rfl
 rotate_left
 ·simp only [Act.put, List.setIfInBounds_toArray, List.set_cons_zero, List.set_cons_succ, i64_w, i32_w]
  rfl
 refine done_ (by kernel_rfl) ?_
 clear hHeld
 have zc0_0 : w53.cell? ⟨w.heap.size, 0, none⟩ = some (.int .i64 a0_0) := (blk_cell BX0.out 0).trans rfl
 have zc0_1 : w53.cell? ⟨w.heap.size, 1, none⟩ = some (.slice A0_1 l0_1.length c0_1) := (blk_cell BX0.out 1).trans rfl
 have zc1_0 : w53.cell? ⟨(w.heap.size + 1), 0, none⟩ = some (.int .i64 a1_0) := (blk_cell BX1.out 0).trans rfl
 have zc1_1 : w53.cell? ⟨(w.heap.size + 1), 1, none⟩ = some (.int .i64 a1_1) := (blk_cell BX1.out 1).trans rfl
 have zc2_0 : w53.cell? ⟨gq1, 0, none⟩ = some (.int .i64 s1) := (blk_cell BX2.out 0).trans rfl
 have zc2_1 : w53.cell? ⟨gq1, 1, none⟩ = some (.slice A1_ s2.length c1_) := (blk_cell BX2.out 1).trans rfl
 have zc3_0 : w53.cell? ⟨w18.heap.size, 0, none⟩ = some (.int .i64 x1) := (blk_cell BX3.out 0).trans rfl
 have zc3_1 : w53.cell? ⟨w18.heap.size, 1, none⟩ = some (.slice A2_ x2.length c2_) := (blk_cell BX3.out 1).trans rfl
 have zc4_0 : w53.cell? ⟨gq4, 0, none⟩ = some (.int .i64 s1) := (blk_cell BX4.out 0).trans rfl
 have zc4_1 : w53.cell? ⟨gq4, 1, none⟩ = some (.slice A4_ s2.length c4_) := (blk_cell BX4.out 1).trans rfl
 have zc5_0 : w53.cell? ⟨gq6, 0, none⟩ = some (.int .i64 s1) := (blk_cell BX5.out 0).trans rfl
 have zc5_1 : w53.cell? ⟨gq6, 1, none⟩ = some (.slice A6_ s2.length c6_) := (blk_cell BX5.out 1).trans rfl
 go_wp2_with fail
 refine (laws_eqWheel.calls k s1 _ _ s2 s1 _ _ s2 true _ (law_C (Kd.S_R HO6.out) (by repeat (first | exact Below.refl _ _ | apply below_alloc | apply pw_below_drewN | apply below_drew1))) (law_c (Kd.S_R HO6.out)) (law_C (Kd.S_R HO1.out) (by repeat (first | exact Below.refl _ _ | apply below_alloc | apply pw_below_drewN | apply below_drew1))) (law_c (Kd.S_R HO1.out)) HE0.out).mono ?_
 rintro e w54 ⟨rfl, hb⟩
 clear zc0_0 zc0_1 zc1_0 zc1_1 zc2_0 zc2_1 zc3_0 zc3_1 zc4_0 zc4_1 zc5_0 zc5_1
 have ST : Below w53.heap.size w53 w54 := bel_then (by repeat (first | exact Below.refl _ _ | apply below_alloc | apply pw_below_drewN | apply below_drew1)) hb
 have nZC := Aside0.mk (Nat.le_trans ZC.out ST.size)
 have nHB : Aside0 (Below w.heap.size w w54) := ⟨bel_then HB.out ST⟩
 have nHO1 := Aside0.mk (Kd.S_below HO1.out ST)
 have nHO4 := Aside0.mk (Kd.S_below HO4.out ST)
 have nHO6 := Aside0.mk (Kd.S_below HO6.out ST)
 have nBX0 := Aside0.mk (blk_below BX0.out ST)
 have nBX1 := Aside0.mk (blk_below BX1.out ST)
 have nBX2 := Aside0.mk (blk_below BX2.out ST)
 have nBX3 := Aside0.mk (blk_below BX3.out ST)
 have nBX4 := Aside0.mk (blk_below BX4.out ST)
 have nBX5 := Aside0.mk (blk_below BX5.out ST)
 clear HB ZC HO1 HO4 HO6 BX0 BX1 BX2 BX3 BX4 BX5 ST hb
 have HB := nHB
 clear nHB
 have ZC := nZC
 clear nZC
 have HO1 := nHO1
 clear nHO1
 have HO4 := nHO4
 clear nHO4
 have HO6 := nHO6
 clear nHO6
 have BX0 := nBX0
 clear nBX0
 have BX1 := nBX1
 clear nBX1
 have BX2 := nBX2
 clear nBX2
 have BX3 := nBX3
 clear nBX3
 have BX4 := nBX4
 clear nBX4
 have BX5 := nBX5
 clear nBX5
 have zc0_0 : w54.cell? ⟨w.heap.size, 0, none⟩ = some (.int .i64 a0_0) := (blk_cell BX0.out 0).trans rfl
 have zc0_1 : w54.cell? ⟨w.heap.size, 1, none⟩ = some (.slice A0_1 l0_1.length c0_1) := (blk_cell BX0.out 1).trans rfl
 have zc1_0 : w54.cell? ⟨(w.heap.size + 1), 0, none⟩ = some (.int .i64 a1_0) := (blk_cell BX1.out 0).trans rfl
 have zc1_1 : w54.cell? ⟨(w.heap.size + 1), 1, none⟩ = some (.int .i64 a1_1) := (blk_cell BX1.out 1).trans rfl
 have zc2_0 : w54.cell? ⟨gq1, 0, none⟩ = some (.int .i64 s1) := (blk_cell BX2.out 0).trans rfl
 have zc2_1 : w54.cell? ⟨gq1, 1, none⟩ = some (.slice A1_ s2.length c1_) := (blk_cell BX2.out 1).trans rfl
 have zc3_0 : w54.cell? ⟨w18.heap.size, 0, none⟩ = some (.int .i64 x1) := (blk_cell BX3.out 0).trans rfl
 have zc3_1 : w54.cell? ⟨w18.heap.size, 1, none⟩ = some (.slice A2_ x2.length c2_) := (blk_cell BX3.out 1).trans rfl
 have zc4_0 : w54.cell? ⟨gq4, 0, none⟩ = some (.int .i64 s1) := (blk_cell BX4.out 0).trans rfl
 have zc4_1 : w54.cell? ⟨gq4, 1, none⟩ = some (.slice A4_ s2.length c4_) := (blk_cell BX4.out 1).trans rfl
 have zc5_0 : w54.cell? ⟨gq6, 0, none⟩ = some (.int .i64 s1) := (blk_cell BX5.out 0).trans rfl
 have zc5_1 : w54.cell? ⟨gq6, 1, none⟩ = some (.slice A6_ s2.length c6_) := (blk_cell BX5.out 1).trans rfl
 go_wp2_with fail
 refine (lawHeldWheel.calls k s1 _ _ s2.length mk2 1 _ _ (Kd.R_reads' (Kd.S_R HO4.out)).1 (law_C0 (Kd.S_R HO4.out) (by repeat (first | exact Below.refl _ _ | apply below_alloc | apply pw_below_drewN | apply below_drew1))) (law_c0 (Kd.S_R HO4.out)) HQ.out).mono ?_
 rintro e w55 ⟨rfl, hb⟩
 clear zc0_0 zc0_1 zc1_0 zc1_1 zc2_0 zc2_1 zc3_0 zc3_1 zc4_0 zc4_1 zc5_0 zc5_1
 have ST : Below w54.heap.size w54 w55 := bel_then (by repeat (first | exact Below.refl _ _ | apply below_alloc | apply pw_below_drewN | apply below_drew1)) hb
 have nZC := Aside0.mk (Nat.le_trans ZC.out ST.size)
 have nHB : Aside0 (Below w.heap.size w w55) := ⟨bel_then HB.out ST⟩
 have nHO1 := Aside0.mk (Kd.S_below HO1.out ST)
 have nHO4 := Aside0.mk (Kd.S_below HO4.out ST)
 have nHO6 := Aside0.mk (Kd.S_below HO6.out ST)
 have nBX0 := Aside0.mk (blk_below BX0.out ST)
 have nBX1 := Aside0.mk (blk_below BX1.out ST)
 have nBX2 := Aside0.mk (blk_below BX2.out ST)
 have nBX3 := Aside0.mk (blk_below BX3.out ST)
 have nBX4 := Aside0.mk (blk_below BX4.out ST)
 have nBX5 := Aside0.mk (blk_below BX5.out ST)
 clear HB ZC HO1 HO4 HO6 BX0 BX1 BX2 BX3 BX4 BX5 ST hb
 have HB := nHB
 clear nHB
 have ZC := nZC
 clear nZC
 have HO1 := nHO1
 clear nHO1
 have HO4 := nHO4
 clear nHO4
 have HO6 := nHO6
 clear nHO6
 have BX0 := nBX0
 clear nBX0
 have BX1 := nBX1
 clear nBX1
 have BX2 := nBX2
 clear nBX2
 have BX3 := nBX3
 clear nBX3
 have BX4 := nBX4
 clear nBX4
 have BX5 := nBX5
 clear nBX5
 go_wp2
 go_ret
 exact ⟨rfl, by repeat (first | exact HB.out | apply below_alloc | apply pw_below_drewN | apply below_drew1)⟩

end Go.Proofs.Ytgmjfdehladelaa.PFnExactSetTimer
