-- written by xprint.py (a program of this session's, over the kit's print): printed functions, and some by hand
import Derived.Test.YtnfafdlglhbijaaPFnExactIsSoundx0
import Derived.Test.YtnfafdlglhbijaaPFnExactIsSoundx6
import Derived.Test.YtnfafdlglhbijaaPFnExactIsSoundx8
namespace Go.Proofs.Ytnfafdlglhbijaa.PFnExactIsSound
open Go.RowKit Go.Proofs.YtnfafdlglhbijaaW.PrintWords Go.Proofs.YtnfafdlglhbijaaW.PrintLast Go.Proofs.YtnfafdlglhbijaaW.PrintMore
attribute [local go_sem] max2_int min2_int max_two min_two max_three min_three max_four min_four   -- for this text's walks alone
set_option linter.unusedVariables false
set_option linter.unusedSimpArgs false

/-! ### slices_Equal_int_int: function 75 -/
def slices_Equal_int_int.l0 : Nat → List Int → List Int → Int → Int → Option (Bool)
  | 0, _, _, _, _ => none
  | k + 1, x0, x1, x12, x13 => if x13 < x12 then (if 0 ≤ x13 then (if x13 < (x0.length : Int) then (if x13 < (x1.length : Int) then (if (rd x0 x13) = (rd x1 x13) then (slices_Equal_int_int.l0 k x0 x1 x12 (wrap64 (x13 + 1))) else (some false)) else (none)) else (none)) else (none)) else (some true)
def slices_Equal_int_int.f (k : Nat) (l0 : List Int) (l1 : List Int) : Option (Bool) := if (l0.length : Int) = (l1.length : Int) then (slices_Equal_int_int.l0 k l0 l1 (l0.length : Int) 0) else (some false)
theorem slices_Equal_int_int.mono_l : ∀ k, (∀ y0 y1 y2 y3, LeO (slices_Equal_int_int.l0 k y0 y1 y2 y3) (slices_Equal_int_int.l0 (k + 1) y0 y1 y2 y3))
  | 0 => fun _ _ _ _ r h => by simp [slices_Equal_int_int.l0] at h
  | k + 1 => by
    have ih0 := slices_Equal_int_int.mono_l k
    · intro y0 y1 y2 y3
      unfold slices_Equal_int_int.l0
      repeat' first
      | (with_reducible exact ih0 _ _ _ _)
      | (with_reducible exact LeO.refl _)
      | (with_reducible exact LeO.none _)
      | (with_reducible refine LeO.ite ?_ ?_)
      | (with_reducible refine LeO.bind ?_ (fun _ => ?_))
      | exact ih0 _ _ _ _
      | exact LeO.none _
      | refine LeO.ite ?_ ?_
      | refine LeO.bind ?_ (fun _ => ?_)
theorem slices_Equal_int_int.mono : ∀ a0 a1 k, LeO (slices_Equal_int_int.f k a0 a1) (slices_Equal_int_int.f (k + 1) a0 a1) := by
  intro a0 a1 k
  have ih0 := slices_Equal_int_int.mono_l k
  unfold slices_Equal_int_int.f
  repeat' first
      | (with_reducible exact ih0 _ _ _ _)
      | (with_reducible exact LeO.refl _)
      | (with_reducible exact LeO.none _)
      | (with_reducible refine LeO.ite ?_ ?_)
      | (with_reducible refine LeO.bind ?_ (fun _ => ?_))
      | exact ih0 _ _ _ _
      | exact LeO.none _
      | refine LeO.ite ?_ ?_
      | refine LeO.bind ?_ (fun _ => ?_)
set_option maxHeartbeats 8000000 in
set_option maxRecDepth 100000 in
theorem slices_Equal_int_int.calls (k : Nat) (A0 : Option Addr) (c0 : Nat) (l0 : List Int) (A1 : Option Addr) (c1 : Nat) (l1 : List Int) (r : Bool) (w : World) (hr0 : Kd.C (Kd.int .i64) w A0 l0.length l0) (hc0 : l0.length ≤ c0) (hr1 : Kd.C (Kd.int .i64) w A1 l1.length l1) (hc1 : l1.length ≤ c1) (h : slices_Equal_int_int.f k l0 l1 = some r) :
    Calls Try.prog 75 #[.slice A0 l0.length c0, .slice A1 l1.length c1] w fun e w' => e = .returned (.bool r) ∧ Drawn0 w w' := by
  have HR0 := Aside0.mk hr0
  have HC0 := Aside0.mk hc0
  clear hr0 hc0
  have HR1 := Aside0.mk hr1
  have HC1 := Aside0.mk hc1
  clear hr1 hc1
  have H : (if (l0.length : Int) = (l1.length : Int) then (slices_Equal_int_int.l0 k l0 l1 (l0.length : Int) 0) else (some false)) = some r := h
  clear h
  by_cases c3 : (l0.length : Int) = (l1.length : Int)
  · rw [if_pos c3] at H
    have c3b0 : ((l0.length : Int) == (l1.length : Int)) = true := beq_iff_eq.mpr c3
    have c3b1 : ((l0.length : Int) != (l1.length : Int)) = false := bne_eq_false_iff_eq.mpr c3
    have c3b2 : (l0.length == l1.length) = true := by first | simpa using c3 | (simp at c3 ⊢; omega)
    clear c3
    have H' := Aside0.mk H
    clear H
    go_enter Try.func75, Try.ntmps75
    go_wp2
    repeat (go_quiet (fail); try go_wp2)
    go_loopg [13] k (fun kq v13 w' => ∃ (x13_1 : Int), v13 = .int .i64 x13_1 ∧ Aside0 (slices_Equal_int_int.l0 kq l0 l1 (l0.length : Int) x13_1 = some r) ∧ Aside0 (kq ≤ k) ∧ Drawn0 w w')
    case atStart => exact ⟨(0), (by first | rfl | (simp; done) | (simp [*]; done) | (simp; exact (fun l : List UInt8 => (by cases l <;> rfl : l.isEmpty = !(l != []))) _)), H', ⟨Nat.le_refl _⟩, by repeat (first | exact Drawn0.refl _ | apply Drawn0.step)⟩
    case round =>
      clear H'
      try clear c1
      try clear p2
      try clear c3
      try clear c3b0
      try clear c3b1
      try clear c3b2
      obtain ⟨x13_1, rfl, HA, HK1, ⟨m1, rfl⟩⟩ := hrel
      cases gk with
      | zero => exact absurd HA.out (by simp [slices_Equal_int_int.l0])
      | succ k1 =>
        have H := HA.out
        clear HA
        simp only [slices_Equal_int_int.l0] at H
        by_cases c4 : x13_1 < (l0.length : Int)
        · rw [if_pos c4] at H
          have c4b0 : decide (x13_1 < (l0.length : Int)) = true := decide_eq_true c4
          clear c4
          by_cases c5 : 0 ≤ x13_1
          · rw [if_pos c5] at H
            have c5b0 : decide (0 ≤ x13_1) = true := decide_eq_true c5
            clear c5
            by_cases c6 : x13_1 < (l0.length : Int)
            · rw [if_pos c6] at H
              have c6b0 : decide (x13_1 < (l0.length : Int)) = true := decide_eq_true c6
              clear c6
              by_cases c7 : x13_1 < (l1.length : Int)
              · rw [if_pos c7] at H
                have c7b0 : decide (x13_1 < (l1.length : Int)) = true := decide_eq_true c7
                clear c7
                by_cases c8 : (rd l0 x13_1) = (rd l1 x13_1)
                · rw [if_pos c8] at H
                  have c8b0 : ((rd l0 x13_1) == (rd l1 x13_1)) = true := beq_iff_eq.mpr c8
                  have c8b1 : ((rd l0 x13_1) != (rd l1 x13_1)) = false := bne_eq_false_iff_eq.mpr c8
                  clear c8
                  have H' := Aside0.mk H
                  clear H
                  have p227 : 0 ≤ (x13_1 : Int) := of_decide_eq_true (by first | (with_reducible assumption) | assumption)
                  have q227 : x13_1 < (l0.length : Int) := of_decide_eq_true (by first | (with_reducible assumption) | assumption)
                  obtain ⟨ad227, e227, hx227_0⟩ := Kd.at_int HR0.out x13_1 p227 q227
                  cases e227
                  replace p227 := eq_true p227
                  replace q227 := eq_true q227
                  have p228 : 0 ≤ (x13_1 : Int) := of_decide_eq_true (by first | (with_reducible assumption) | assumption)
                  have q228 : x13_1 < (l1.length : Int) := of_decide_eq_true (by first | (with_reducible assumption) | assumption)
                  obtain ⟨ad228, e228, hx228_0⟩ := Kd.at_int HR1.out x13_1 p228 q228
                  cases e228
                  replace p228 := eq_true p228
                  replace q228 := eq_true q228
                  go_wp2
                  repeat (go_quiet (fail); try go_wp2)
                  go_roundg k1
                  case measure => have := HK1.out; omega
                  case rel => exact ⟨(wrap64 (x13_1 + 1)), (by first | rfl | (simp; done) | (simp [*]; done) | (simp; exact (fun l : List UInt8 => (by cases l <;> rfl : l.isEmpty = !(l != []))) _)), H', ⟨by have := HK1.out; omega⟩, by repeat (first | exact Drawn0.refl _ | apply Drawn0.step)⟩
                · rw [if_neg c8] at H
                  have c8b0 : ((rd l0 x13_1) == (rd l1 x13_1)) = false := beq_eq_false_iff_ne.mpr c8
                  have c8b1 : ((rd l0 x13_1) != (rd l1 x13_1)) = true := bne_iff_ne.mpr c8
                  obtain rfl := Option.some.inj H
                  have p227 : 0 ≤ (x13_1 : Int) := of_decide_eq_true (by first | (with_reducible assumption) | assumption)
                  have q227 : x13_1 < (l0.length : Int) := of_decide_eq_true (by first | (with_reducible assumption) | assumption)
                  obtain ⟨ad227, e227, hx227_0⟩ := Kd.at_int HR0.out x13_1 p227 q227
                  cases e227
                  replace p227 := eq_true p227
                  replace q227 := eq_true q227
                  have p228 : 0 ≤ (x13_1 : Int) := of_decide_eq_true (by first | (with_reducible assumption) | assumption)
                  have q228 : x13_1 < (l1.length : Int) := of_decide_eq_true (by first | (with_reducible assumption) | assumption)
                  obtain ⟨ad228, e228, hx228_0⟩ := Kd.at_int HR1.out x13_1 p228 q228
                  cases e228
                  replace p228 := eq_true p228
                  replace q228 := eq_true q228
                  go_wp2
                  repeat (go_quiet (fail); try go_wp2)
                  go_ret
                  exact ⟨by first | rfl | (simp; done) | (simp [*]; done), by repeat (first | exact Drawn0.refl _ | apply Drawn0.step)⟩
              · rw [if_neg c7] at H
                exact absurd H (by simp)
            · rw [if_neg c6] at H
              exact absurd H (by simp)
          · rw [if_neg c5] at H
            exact absurd H (by simp)
        · rw [if_neg c4] at H
          have c4b0 : decide (x13_1 < (l0.length : Int)) = false := decide_eq_false c4
          clear c4
          obtain rfl := Option.some.inj H
          go_wp2
          repeat (go_quiet (fail); try go_wp2)
          go_ret
          exact ⟨by first | rfl | (simp; done) | (simp [*]; done), by repeat (first | exact Drawn0.refl _ | apply Drawn0.step)⟩
  · rw [if_neg c3] at H
    have c3b0 : ((l0.length : Int) == (l1.length : Int)) = false := beq_eq_false_iff_ne.mpr c3
    have c3b1 : ((l0.length : Int) != (l1.length : Int)) = true := bne_iff_ne.mpr c3
    have c3b2 : (l0.length == l1.length) = false := by first | simpa using c3 | (simp at c3 ⊢; omega)
    obtain rfl := Option.some.inj H
    go_enter Try.func75, Try.ntmps75
    go_wp2
    repeat (go_quiet (fail); try go_wp2)
    go_ret
    exact ⟨by first | rfl | (simp; done) | (simp [*]; done), by repeat (first | exact Drawn0.refl _ | apply Drawn0.step)⟩

/-! ### slices_IndexFunc_int_int: function 73, by hand; a text alone -/
/-- the first row of which it is so; -1: none -/
def idxO (p : List Int → Option Bool) : List (List Int) → Int → Option Int
  | [], _ => some (-1)
  | x :: l, j => (p x).bind fun b => (if b = true then (some j) else (idxO p l (j + 1)))
theorem idxO_mono {p q : List Int → Option Bool} (h : ∀ x, LeO (p x) (q x)) : ∀ l j, LeO (idxO p l j) (idxO q l j)
  | [], _ => LeO.refl _
  | x :: l, j => LeO.bind (h x) (fun b => LeO.ite (LeO.refl _) (idxO_mono h l (j + 1)))
set_option maxHeartbeats 8000000 in
set_option maxRecDepth 100000 in
theorem slices_IndexFunc_row.at (g : Nat) (eg : ∀ args W, (callFunc g args).run Try.prog W = .ok (.enter g args) W) (lb : Array Value) (p : List Int → Option Bool) (A0 : Option Addr) (c0 : Nat) (l0 : List (List Int)) (r : Int) (w : World) (hr0 : Kd.C (Kd.slice 3 (Kd.int .i64)) w A0 l0.length l0)
    (hp : ∀ (W : World) (x : List Int) (B0 : Option Addr) (d0 : Nat) (b : Bool), Below w.heap.size w W → Kd.C (Kd.int .i64) W B0 x.length x → x.length ≤ d0 → p x = some b → Calls Try.prog g (#[.slice B0 x.length d0] ++ lb) W fun e w' => e = .returned (.bool b) ∧ Below W.heap.size W w')
    (h : idxO p l0 0 = some r) :
    Calls Try.prog 73 #[.slice A0 l0.length c0, .func (.func g) #[] lb] w fun e w' => e = .returned (.int .i64 r) ∧ Below w.heap.size w w' := by
  have HR0 := Aside0.mk hr0
  have hl := hr0.2.1
  have HP := Aside0.mk hp
  have H := Aside0.mk h
  clear hr0 hp h
  go_enter Try.func73, Try.ntmps73
  go_wp2_with fail
  go_loopg [8] l0.length (fun kq v8 w' => ∃ x8 : Int, v8 = .int .i64 x8 ∧ Aside0 (0 ≤ x8 ∧ x8.toNat + kq = l0.length) ∧ Aside0 (idxO p (l0.drop x8.toNat) x8 = some r) ∧ Aside0 (Below w.heap.size w w'))
  case atStart => exact ⟨0, rfl, ⟨by omega, by simp⟩, ⟨H.out⟩, ⟨Below.refl _ _⟩⟩
  case round =>
    clear H
    obtain ⟨x8, rfl, HJ, HA, HB⟩ := hrel
    by_cases hlt : x8 < (l0.length : Int)
    · have p8 : 0 ≤ x8 := HJ.out.1
      obtain ⟨ad, B0, d0, e0, hx0, hl0, hi0⟩ := at_L1 (Kd.C_below HR0.out HB.out) x8 p8 hlt
      cases e0
      have HD := Aside0.mk (show l0.drop x8.toNat = rd_L1 l0 x8 :: l0.drop (x8.toNat + 1) by
        unfold rd_L1
        have hlt2 : x8.toNat < l0.length := by omega
        rw [List.drop_eq_getElem_cons hlt2, List.getD_eq_getElem?_getD, List.getElem?_eq_getElem hlt2]; rfl)
      have H2 := HA.out
      rw [HD.out] at H2
      obtain ⟨b, hb, H2⟩ := Option.bind_eq_some_iff.mp H2
      have HC := Aside0.mk (HP.out wr (rd_L1 l0 x8) B0 d0 b HB.out hi0 hl0 hb)
      have H3 := Aside0.mk H2
      clear hi0 hl0 hb H2 HA HD
      have hltb : decide (x8 < (l0.length : Int)) = true := decide_eq_true hlt
      have HJ2 := Aside0.mk hlt
      replace p8 := eq_true p8
      have q8 := eq_true hlt
      clear hlt
      go_wp2_with fail
      refine HC.out.mono ?_
      rintro e w1 ⟨rfl, hb1⟩
      have HB1 := Aside0.mk (below_then HB.out HB.out.size hb1)
      clear hb1 HC
      cases b with
      | true =>
        have H4 := H3.out
        rw [if_pos rfl] at H4
        obtain rfl := Option.some.inj H4
        go_wp2
        go_ret
        exact ⟨rfl, HB1.out⟩
      | false =>
        have H4 := H3.out
        rw [if_neg (by decide)] at H4
        have H5 := Aside0.mk H4
        clear H3 H4
        cases gk with
        | zero => exact absurd HJ.out.2 (by have := HJ2.out; have := HJ.out.1; omega)
        | succ k1 =>
          have HW := Aside0.mk (show wrap64 (x8 + 1) = x8 + 1 by unfold wrap64; have := HJ2.out; have := HJ.out.1; omega)
          go_wp2
          go_roundg k1
          case measure => omega
          case rel =>
            refine ⟨wrap64 (x8 + 1), rfl, ⟨?_, ?_⟩, ⟨?_⟩, ⟨HB1.out⟩⟩
            · rw [HW.out]; have := HJ.out.1; omega
            · rw [HW.out]; have := HJ.out; omega
            · rw [HW.out, show (x8 + 1).toNat = x8.toNat + 1 by have := HJ.out.1; omega]; exact H5.out
    · have e0 : l0.drop x8.toNat = [] := List.drop_of_length_le (by have := HJ.out; omega)
      have H2 := HA.out
      rw [e0] at H2
      obtain rfl := Option.some.inj H2
      have hltb : decide (x8 < (l0.length : Int)) = false := decide_eq_false hlt
      clear hlt e0 H2 HA
      go_wp2
      go_ret
      exact ⟨rfl, HB.out⟩

/-! ### slices_ContainsFunc_int_int_86: function 86, by hand; a text alone -/
set_option maxHeartbeats 8000000 in
theorem slices_ContainsFunc_row.at (g : Nat) (eg : ∀ args W, (callFunc g args).run Try.prog W = .ok (.enter g args) W) (lb : Array Value) (p : List Int → Option Bool) (A0 : Option Addr) (c0 : Nat) (l0 : List (List Int)) (r : Int) (w : World) (hr0 : Kd.C (Kd.slice 3 (Kd.int .i64)) w A0 l0.length l0)
    (hp : ∀ (W : World) (x : List Int) (B0 : Option Addr) (d0 : Nat) (b : Bool), Below w.heap.size w W → Kd.C (Kd.int .i64) W B0 x.length x → x.length ≤ d0 → p x = some b → Calls Try.prog g (#[.slice B0 x.length d0] ++ lb) W fun e w' => e = .returned (.bool b) ∧ Below W.heap.size W w')
    (h : idxO p l0 0 = some r) :
    Calls Try.prog 86 #[.slice A0 l0.length c0, .func (.func g) #[] lb] w fun e w' => e = .returned (.bool (decide (0 ≤ r))) ∧ Below w.heap.size w w' := by
  have H := Aside0.mk (slices_IndexFunc_row.at g eg lb p A0 c0 l0 r w hr0 hp h)
  clear hp hr0 eg h
  go_enter Try.func86, Try.ntmps86
  go_wp2_with fail
  refine H.out.mono ?_
  rintro e w1 ⟨rfl, hb⟩
  have HB := Aside0.mk hb
  clear hb
  go_wp2
  go_ret
  exact ⟨rfl, HB.out⟩

/-! ### impl_Net_soundIn: function 72, by hand; a text alone -/
set_option maxHeartbeats 8000000 in
set_option maxRecDepth 100000 in
theorem sound_eq.at (k ge : Nat) (Be : Option Addr) (de : Nat) (e x : List Int) (B0 : Option Addr) (d0 : Nat) (b : Bool) (w : World) (hb : w.heap[ge]? = some (.cells #[.slice Be e.length de] 33 (0, 0))) (he : Kd.C (Kd.int .i64) w Be e.length e) (hde : e.length ≤ de) (hx : Kd.C (Kd.int .i64) w B0 x.length x) (hd0 : x.length ≤ d0) (h : slices_Equal_int_int.f k x e = some b) :
    Calls Try.prog 87 (#[.slice B0 x.length d0] ++ #[.pointer (some ⟨ge, 0, none⟩)]) w fun e' w' => e' = .returned (.bool b) ∧ Below w.heap.size w w' := by
  have HC := Aside0.mk (slices_Equal_int_int.calls k B0 d0 x Be de e b w hx hd0 he hde h)
  have hz : w.cell? ⟨ge, 0, none⟩ = some (.slice Be e.length de) := (blk_cell hb 0).trans rfl
  clear hb he hde hx hd0 h
  go_enter Try.func87, Try.ntmps87
  go_wp2_with fail
  refine HC.out.mono ?_
  rintro e w1 ⟨rfl, hd⟩
  have HB := Aside0.mk hd.below
  clear hd
  go_wp2
  go_ret
  exact ⟨rfl, HB.out⟩
def sndRows (k : Nat) (n : Int) (st : List S60) (e : List Int) : List (List Int) → Option Bool
  | [] => some true
  | m :: r => if 0 ≤ wrap64 (n - 1) ∧ wrap64 (n - 1) < (m.length : Int) then ((if 0 < rd m (wrap64 (n - 1)) then (slices_Equal_int_int.f k m e) else some true).bind fun b => if b = true then (impl_marksFrom.f n st m).bind fun x => match x with | none => none | some q => (idxO (fun y => slices_Equal_int_int.f k y e) q.1 0).bind fun j => if 0 ≤ j then sndRows k n st e r else some false else some false) else none
def sndSt (n : Int) (st : List S60) (L : List (List Int)) : Nat → Option Bool
  | 0 => some true
  | d + 1 => (idxO (fun m => (net_fired.f n st m ((st.length - (d + 1) : Nat) : Int)).bind fun q => some q.2) L 0).bind fun i => if 0 ≤ i then sndSt n st L d else some false
def impl_soundIn.f (k : Nat) (n : Int) (st : List S60) (L : List (List Int)) : Option Bool := if st.length ≤ 1000000 ∧ L.length ≤ 1000000 then (impl_single.f n (wrap64 (n - 1))).bind fun e => (sndRows k n st e L).bind fun b => if b = true then sndSt n st L st.length else some false else none
set_option maxHeartbeats 8000000 in
set_option maxRecDepth 100000 in
theorem sound_fired.at (gb gn gj : Nat) (A : Option Addr) (cc : Nat) (a0 : Int) (st : List S60) (j : Int) (x : List Int) (B0 : Option Addr) (d0 : Nat) (b : Bool) (w : World) (hbk : w.heap[gb]? = some (.cells #[.int .i64 a0, .slice A st.length cc] 29 (0, 0))) (hst : Kd.C k60 w A st.length st) (hn : w.heap[gn]? = some (.cells #[.pointer (some ⟨gb, 0, none⟩)] 79 (0, 0))) (hj : w.heap[gj]? = some (.cells #[.int .i64 j] 3 (0, 0))) (hx : Kd.C (Kd.int .i64) w B0 x.length x) (hd0 : x.length ≤ d0) (h : ((net_fired.f a0 st x j).bind fun q => some q.2) = some b) :
    Calls Try.prog 88 (#[.slice B0 x.length d0] ++ #[.pointer (some ⟨gn, 0, none⟩), .pointer (some ⟨gj, 0, none⟩)]) w fun e' w' => e' = .returned (.bool b) ∧ Below w.heap.size w w' := by
  obtain ⟨⟨z, b'⟩, hz, h⟩ := Option.bind_eq_some_iff.1 h
  obtain rfl := Option.some.inj h
  have HC := Aside0.mk (net_fired.calls gb A cc a0 st B0 d0 x j z b' w hbk hst hx hd0 hz)
  have hz1 : w.cell? ⟨gn, 0, none⟩ = some (.pointer (some ⟨gb, 0, none⟩)) := (blk_cell hn 0).trans rfl
  have hz2 : w.cell? ⟨gj, 0, none⟩ = some (.int .i64 j) := (blk_cell hj 0).trans rfl
  clear hbk hst hn hj hx hd0 hz h
  go_enter Try.func88, Try.ntmps88
  go_wp2_with (go_at_call 59; refine HC.out.mono ?_; rintro e w1 ⟨v1, rfl, -, hb⟩; have HB := Aside0.mk hb; clear hb)
  go_ret
  exact ⟨rfl, HB.out⟩
/-- a row of a list of rows, as it is owned -/
theorem at_rowR {W : World} {base : Nat} {ok : Nat → Prop} {A : Option Addr} {n c : Nat} {xs : List (List Int)} (h : Kd.S (Kd.slice 3 (Kd.int .i64)) 33 W base ok (.slice A n c) xs) (i : Nat) (hi : i < xs.length) :
    ∃ (ad : Addr) (B : Option Addr) (d : Nat) (okr : Nat → Prop), A = some ad ∧ W.cell? (ad.add i) = some (.slice B (xs.getD i []).length d) ∧ Kd.R (Kd.int .i64) 3 W base okr (.slice B (xs.getD i []).length d) (xs.getD i []) := by
  have hn : n = xs.length := (Kd.S_reads' h).1
  obtain ⟨g, cap, hv, -⟩ := Kd.S_form h (by omega)
  injection hv with hA _ _
  subst hA
  obtain ⟨cs, -, hM, hcc⟩ := Kd.S_get h [] (i : Int) (by omega) (by omega)
  rw [Int.toNat_natCast] at hM hcc
  obtain ⟨v, rfl, hR⟩ := hM
  obtain ⟨B, d, rfl⟩ := Kd.R_slice hR
  have h1 := hcc 0 _ rfl
  exact ⟨_, B, d, _, rfl, by simpa [Kd.slice] using h1, hR⟩
set_option maxHeartbeats 8000000 in
set_option maxRecDepth 100000 in
theorem impl_soundIn.calls (k gb : Nat) (A : Option Addr) (cc : Nat) (a0_0 : Int) (st : List S60) (AL : Option Addr) (cL : Nat) (L : List (List Int)) {base : Nat} {okL : Nat → Prop} (r : Bool) (w : World) (hbk : w.heap[gb]? = some (.cells #[.int .i64 a0_0, .slice A st.length cc] 29 (0, 0))) (hst : Kd.C k60 w A st.length st) (hL : Kd.S (Kd.slice 3 (Kd.int .i64)) 33 w base okL (.slice AL L.length cL) L) (hbase : base ≤ w.heap.size) (h : impl_soundIn.f k a0_0 st L = some r) :
    Calls Try.prog 72 #[.pointer (some ⟨gb, 0, none⟩), .slice AL L.length cL] w fun e w' => e = .returned (.bool r) ∧ Below w.heap.size w w' := by
  have hu29 := Try.underlying29
  have hu81 := Try.underlying81
  unfold impl_soundIn.f at h
  by_cases hg : st.length ≤ 1000000 ∧ L.length ≤ 1000000
  case neg => rw [if_neg hg] at h; cases h
  rw [if_pos hg] at h
  obtain ⟨e7, hs, h⟩ := Option.bind_eq_some_iff.1 h
  obtain ⟨b1, hb1, h⟩ := Option.bind_eq_some_iff.1 h
  have HG := Aside0.mk hg
  have HSG := Aside0.mk hs
  have HR := Aside0.mk hb1
  have HF := Aside0.mk h
  have HBK := Aside0.mk hbk
  have HST := Aside0.mk hst
  have HL := Aside0.mk hL
  have HBA := Aside0.mk hbase
  clear hg hs hb1 h hbk hst hL hbase
  go_enter Try.func72, Try.ntmps72
  go_wp2_with ((with_reducible refine gate_dst (N := 2) rfl ?_); refine box_event ?hg (N := 2) ?hd (cs := #[.pointer (some ⟨gb, 0, none⟩)]) (t := 79) ?hr ?_; (case hd => rfl); (case hg => rfl); (case hr => first | (go_simp; done) | (go_simp; rfl)); intro gn hgn w2 hbox hb; have HN2 := Aside0.mk hbox; have HB2 := Aside0.mk hb; have HBK2 := Aside0.mk (blk_below HBK.out hb); clear hbox hb hgn)
  refine start_ (n := 12) (S := (fun w' => w'.cell? ⟨gn, 0, none⟩ = some (.pointer (some ⟨gb, 0, none⟩)) ∧ w'.cell? ⟨gb, 0, none⟩ = some (.int .i64 a0_0))) (ds := [11]) #[false, false, false, false, false, false, false, false, false, false, false, false] (by kernel_rfl) rfl rfl ⟨(blk_cell (blk_below HN2.out (below_drew1 (Below.refl _ _))) 0).trans rfl, (blk_cell (blk_below HBK2.out (below_drew1 (Below.refl _ _))) 0).trans rfl⟩ (fun hHeld => ?_)
  have hB := below_drew1 (Below.refl w2.heap.size w2)
  generalize World.drew w2 = W at hB hHeld ⊢
  refine take_ (i := 0) (N := some 11) (v := ?_) (a' := ?_) #[true, false, false, false, false, false, false, false, false, false, false, false] rfl rfl (by kernel_rfl) (fun _ _ _ h => h) (Or.inl ⟨by rfl, ?_⟩) hHeld ?_ ?_
  rotate_left
  · rintro w' ⟨s0, s1⟩
    go_simp
    with_reducible rfl
  rotate_left
  · simp only [Act.put, List.setIfInBounds_toArray, List.set_cons_zero, List.set_cons_succ, i64_w, i32_w]
    rfl
  refine pure_ (i := 1) (N := some 12) (v := ?_) (a' := ?_) #[true, true, false, false, false, false, false, false, false, false, false, false] rfl rfl (by kernel_rfl) (fun _ _ _ h => h) (Or.inl ⟨by rfl, ?_⟩) ?_ ?_
  rotate_left
  · intro w'
    go_simp
    with_reducible rfl
  rotate_left
  · simp only [Act.put, List.setIfInBounds_toArray, List.set_cons_zero, List.set_cons_succ, i64_w, i32_w]
    rfl
  refine pure_ (i := 2) (N := some 13) (v := ?_) (a' := ?_) #[true, true, true, false, false, false, false, false, false, false, false, false] rfl rfl (by kernel_rfl) (fun _ _ _ h => h) (Or.inl ⟨by rfl, ?_⟩) ?_ ?_
  rotate_left
  · intro w'
    go_simp
    with_reducible rfl
  rotate_left
  · simp only [Act.put, List.setIfInBounds_toArray, List.set_cons_zero, List.set_cons_succ, i64_w, i32_w]
    rfl
  refine take_ (i := 3) (N := some 14) (v := ?_) (a' := ?_) #[true, true, true, true, false, false, false, false, false, false, false, false] rfl rfl (by kernel_rfl) (fun _ _ _ h => h) (Or.inl ⟨by rfl, ?_⟩) hHeld ?_ ?_
  rotate_left
  · rintro w' ⟨s0, s1⟩
    go_simp
    with_reducible rfl
  rotate_left
  · simp only [Act.put, List.setIfInBounds_toArray, List.set_cons_zero, List.set_cons_succ, i64_w, i32_w]
    rfl
  refine take_ (i := 4) (N := some 15) (v := ?_) (a' := ?_) #[true, true, true, true, true, false, false, false, false, false, false, false] rfl rfl (by kernel_rfl) (fun _ _ _ h => h) (Or.inl ⟨by rfl, ?_⟩) hHeld ?_ ?_
  rotate_left
  · rintro w' ⟨s0, s1⟩
    go_simp
    with_reducible rfl
  rotate_left
  · simp only [Act.put, List.setIfInBounds_toArray, List.set_cons_zero, List.set_cons_succ, i64_w, i32_w]
    rfl
  refine pure_ (i := 5) (N := some 16) (v := ?_) (a' := ?_) #[true, true, true, true, true, true, false, false, false, false, false, false] rfl rfl (by kernel_rfl) (fun _ _ _ h => h) (Or.inl ⟨by rfl, ?_⟩) ?_ ?_
  rotate_left
  · intro w'
    go_simp
    with_reducible rfl
  rotate_left
  · simp only [Act.put, List.setIfInBounds_toArray, List.set_cons_zero, List.set_cons_succ, i64_w, i32_w]
    rfl
  refine pure_ (i := 6) (N := some 17) (v := ?_) (a' := ?_) #[true, true, true, true, true, true, true, false, false, false, false, false] rfl rfl (by kernel_rfl) (fun _ _ _ h => h) (Or.inl ⟨by rfl, ?_⟩) ?_ ?_
  rotate_left
  · intro w'
    go_simp
    with_reducible rfl
  rotate_left
  · simp only [Act.put, List.setIfInBounds_toArray, List.set_cons_zero, List.set_cons_succ, i64_w, i32_w]
    rfl
  refine take_ (i := 7) (N := some 18) (v := ?_) (a' := ?_) #[true, true, true, true, true, true, true, true, false, false, false, false] rfl rfl (by kernel_rfl) (fun _ _ _ h => h) (Or.inl ⟨by rfl, ?_⟩) hHeld ?_ ?_
  rotate_left
  · rintro w' ⟨s0, s1⟩
    go_simp
    with_reducible rfl
  rotate_left
  · simp only [Act.put, List.setIfInBounds_toArray, List.set_cons_zero, List.set_cons_succ, i64_w, i32_w]
    rfl
  refine pure_ (i := 8) (N := some 19) (v := ?_) (a' := ?_) #[true, true, true, true, true, true, true, true, true, false, false, false] rfl rfl (by kernel_rfl) (fun _ _ _ h => h) (Or.inl ⟨by rfl, ?_⟩) ?_ ?_
  rotate_left
  · intro w'
    go_simp
    with_reducible rfl
  rotate_left
  · simp only [Act.put, List.setIfInBounds_toArray, List.set_cons_zero, List.set_cons_succ, i64_w, i32_w]
    rfl
  clear hHeld
  refine join_ (σ := Nat × Value) 1 #[true, true, true, true, true, true, true, true, true, true, true, false] (fun s => [(20, s.2), (5, .pointer (some ⟨s.1, 0, none⟩))]) (fun s w' => Below w2.heap.size w2 w' ∧ Kd.R (Kd.int .i64) 3 w' w.heap.size (fun _ => True) s.2 e7 ∧ (w'.heap[s.1]? = some (.cells #[.slice none 0 0] 33 (0, 0)) ∧ w.heap.size ≤ s.1)) ?j11 (fun J11 => ?_)
  rotate_left
  simp only [putAll, Act.put, List.setIfInBounds_toArray, List.set_cons_zero, List.set_cons_succ] at J11
  rotate_left
  case j11 =>
    clear hB
    rintro ⟨g, v⟩ W ⟨hB, hR, hG⟩
    dsimp only at hB hR hG
    refine norm_ (a' := ?_) (by simp only [putAll, Act.put, List.setIfInBounds_toArray, List.set_cons_zero, List.set_cons_succ]; rfl) ?_
    obtain ⟨A7, n7, c7, hv7⟩ : ∃ A n c, v = Value.slice A n c := by obtain ⟨A, c, h⟩ := Kd.R_slice hR; exact ⟨A, _, c, h⟩
    subst hv7
    refine last_ (i := 11) (N := none) #[true, true, true, true, true, true, true, true, true, true, true, true] rfl rfl (by kernel_rfl) (by decide) (fun K hK => ?_)
    have hs_ : World.cell? W ⟨g, 0, none⟩ = some (.slice none 0 0) := (blk_cell hG.1 0).trans rfl
    have hf_ : World.frozen? W ⟨g, 0, none⟩ = false := blk_frozen hG.1 0
    refine skip_ (w1 := World.setCell W ⟨g, 0, none⟩ (.slice A7 n7 c7)) (by rfl) rfl (by first | (go_simp; done) | (go_simp; rfl)) ?_
    clear hs_ hf_
    have HG3 := Aside0.mk (blk_put hG.1 0 (.slice A7 n7 c7) (cs' := #[.slice A7 n7 c7]) rfl)
    have HE3 := Aside0.mk (Kd.R_set hR hG.1 (by decide) 0 (.slice A7 n7 c7))
    have HB3 := Aside0.mk (below_set (j := 0) (v := .slice A7 n7 c7) (below_then HB2.out HB2.out.size hB) hG.2)
    have HN3 := Aside0.mk ((Below.heap_setCell W ⟨g, 0, none⟩ (.slice A7 n7 c7) gn (fun he => by have h1 := blk_below HN2.out hB; rw [he, hG.1] at h1; injection h1 with h1; injection h1 with _ h1; exact absurd h1 (by decide))).trans (blk_below HN2.out hB))
    generalize World.setCell W ⟨g, 0, none⟩ (.slice A7 n7 c7) = w3 at HG3 HE3 HB3 HN3 ⊢
    refine hK.out _ _ ?_
    clear hK K hG hR hB
    refine done_ (by kernel_rfl) ?_
    obtain ⟨hn7, hc7, hC7⟩ := Kd.R_reads' HE3.out
    subst hn7
    have HC7 := Aside0.mk hC7
    have HL7 := Aside0.mk hc7
    clear hc7 hC7 HN2 HBK2 HB2
    have HBK3 := Aside0.mk (blk_below HBK.out HB3.out)
    go_wp2
    go_loopg [23] L.length (fun kq v23 w' => ∃ (y : Int) (j : Nat), v23 = .int .i64 y ∧ Aside0 (y = (j : Int)) ∧ Aside0 (j + kq = L.length) ∧ Aside0 (sndRows k a0_0 st e7 (L.drop j) = some b1) ∧ Aside0 (Below w3.heap.size w3 w'))
    case atStart => exact ⟨0, 0, rfl, ⟨rfl⟩, ⟨by simp⟩, ⟨by simpa using HR.out⟩, ⟨Below.refl _ _⟩⟩
    case round =>
      clear HR
      obtain ⟨y, j, rfl, HY, HJ, HR, HB⟩ := hrel
      have hxn : wr.cell? ⟨gn, 0, none⟩ = some (.pointer (some ⟨gb, 0, none⟩)) := (blk_cell (blk_below HN3.out HB.out) 0).trans rfl
      have hxb0 : wr.cell? ⟨gb, 0, none⟩ = some (.int .i64 a0_0) := (blk_cell (blk_below HBK3.out HB.out) 0).trans rfl
      have hxb1 : wr.cell? ⟨gb, 1, none⟩ = some (.slice A st.length cc) := (blk_cell (blk_below HBK3.out HB.out) 1).trans rfl
      have hxe : wr.cell? ⟨g, 0, none⟩ = some (.slice A7 e7.length c7) := (blk_cell (blk_below HG3.out HB.out) 0).trans rfl
      cases gk with
      | zero =>
        have hjb : decide (y < (L.length : Int)) = false := decide_eq_false (by have := HJ.out; have := HY.out; omega)
        have hR := HR.out
        rw [List.drop_of_length_le (by have := HJ.out; omega)] at hR
        simp only [sndRows] at hR
        obtain rfl := Option.some.inj hR
        have hF := HF.out
        rw [if_pos rfl] at hF
        have HF2 := Aside0.mk hF
        clear hR hF
        go_wp2
        go_loopg [61] st.length (fun kq v61 w' => ∃ (y2 : Int) (i : Nat), v61 = .int .i64 y2 ∧ Aside0 (y2 = (i : Int)) ∧ Aside0 (i + kq = st.length) ∧ Aside0 (sndSt a0_0 st L kq = some r) ∧ Aside0 (Below w3.heap.size w3 w'))
        case atStart => exact ⟨0, 0, rfl, ⟨rfl⟩, ⟨by simp⟩, HF2, HB⟩
        case round =>
          clear HF2 hxn hxb0 hxb1 hxe hjb HB
          obtain ⟨y2, i, rfl, HY2, HI, HF2, HB⟩ := hrel
          cases gk with
          | zero =>
            have hjb : decide (y2 < (st.length : Int)) = false := decide_eq_false (by have := HI.out; have := HY2.out; omega)
            have hF := HF2.out
            simp only [sndSt] at hF
            obtain rfl := Option.some.inj hF
            clear hF
            go_wp2
            go_ret
            exact ⟨rfl, below_then HB3.out HB3.out.size HB.out⟩
          | succ d =>
            have hjb : decide (y2 < (st.length : Int)) = true := decide_eq_true (by have := HI.out; have := HY2.out; omega)
            have hF := HF2.out
            simp only [sndSt] at hF
            rw [show st.length - (d + 1) = i by have := HI.out; omega, ← HY2.out] at hF
            obtain ⟨ix, hix, hF⟩ := Option.bind_eq_some_iff.1 hF
            have HIX := Aside0.mk hix
            have HA := Aside0.mk (below_alloc (Below.refl wr.heap.size wr) (.cells #[.int .i64 y2] 3))
            have HX2 := Aside0.mk (heap_alloc_new wr (.cells #[.int .i64 y2] 3))
            have HW := Aside0.mk (show wrap64 (y2 + 1) = ((i + 1 : Nat) : Int) by unfold wrap64; have := HI.out; have := HG.out; have := HY2.out; omega)
            clear hix
            by_cases hi : 0 ≤ ix
            · rw [if_pos hi] at hF
              have HFN := Aside0.mk hF
              have hib : decide (0 ≤ ix) = true := decide_eq_true hi
              clear hi hF
              go_wp2_with (go_at_call 86; refine (slices_ContainsFunc_row.at 88 (enters_ Try.func88 (by kernel_rfl) rfl) #[.pointer (some ⟨gn, 0, none⟩), .pointer (some ⟨wr.heap.size, 0, none⟩)] (fun m => (net_fired.f a0_0 st m y2).bind fun q => some q.2) AL cL L ix _ (Kd.C_below (Kd.S_reads' HL.out).2.2 (below_then (below_then HB3.out HB3.out.size HB.out) (Nat.le_trans HB3.out.size HB.out.size) HA.out)) (fun W x B0 d0 b hW hx hd hp => sound_fired.at gb gn wr.heap.size A cc a0_0 st y2 x B0 d0 b W (blk_below (blk_below (blk_below HBK3.out HB.out) HA.out) hW) (Kd.C_below (Kd.C_below HST.out (below_then (below_then HB3.out HB3.out.size HB.out) (Nat.le_trans HB3.out.size HB.out.size) HA.out)) hW) (blk_below (blk_below (blk_below HN3.out HB.out) HA.out) hW) (blk_below HX2.out hW) hx hd hp) HIX.out).mono ?_; rintro e w7 ⟨rfl, hb7⟩; have HB7 := Aside0.mk (below_then (below_then HB.out HB.out.size HA.out) (Nat.le_trans HB.out.size HA.out.size) hb7); clear hb7)
              go_roundg d
              case measure => omega
              case rel => exact ⟨wrap64 (y2 + 1), i + 1, rfl, ⟨HW.out⟩, ⟨by have := HI.out; omega⟩, HFN, HB7⟩
            · rw [if_neg hi] at hF
              obtain rfl := Option.some.inj hF
              have hib : decide (0 ≤ ix) = false := decide_eq_false hi
              clear hi hF
              go_wp2_with (go_at_call 86; refine (slices_ContainsFunc_row.at 88 (enters_ Try.func88 (by kernel_rfl) rfl) #[.pointer (some ⟨gn, 0, none⟩), .pointer (some ⟨wr.heap.size, 0, none⟩)] (fun m => (net_fired.f a0_0 st m y2).bind fun q => some q.2) AL cL L ix _ (Kd.C_below (Kd.S_reads' HL.out).2.2 (below_then (below_then HB3.out HB3.out.size HB.out) (Nat.le_trans HB3.out.size HB.out.size) HA.out)) (fun W x B0 d0 b hW hx hd hp => sound_fired.at gb gn wr.heap.size A cc a0_0 st y2 x B0 d0 b W (blk_below (blk_below (blk_below HBK3.out HB.out) HA.out) hW) (Kd.C_below (Kd.C_below HST.out (below_then (below_then HB3.out HB3.out.size HB.out) (Nat.le_trans HB3.out.size HB.out.size) HA.out)) hW) (blk_below (blk_below (blk_below HN3.out HB.out) HA.out) hW) (blk_below HX2.out hW) hx hd hp) HIX.out).mono ?_; rintro e w7 ⟨rfl, hb7⟩; have HB7 := Aside0.mk (below_then (below_then HB.out HB.out.size HA.out) (Nat.le_trans HB.out.size HA.out.size) hb7); clear hb7)
              go_ret
              exact ⟨rfl, below_then HB3.out HB3.out.size HB7.out⟩
      | succ d =>
        have hjl : j < L.length := by have := HJ.out; omega
        have hjb : decide (y < (L.length : Int)) = true := decide_eq_true (by have := HJ.out; have := HY.out; omega)
        have p0 : (0 ≤ y) = True := eq_true (by have := HY.out; omega)
        have q0 : (y < (L.length : Int)) = True := eq_true (by have := HY.out; omega)
        have hR := HR.out
        rw [show L.drop j = L.getD j [] :: L.drop (j + 1) by rw [List.drop_eq_getElem_cons hjl, List.getD_eq_getElem?_getD, List.getElem?_eq_getElem hjl]; rfl] at hR
        obtain ⟨ad, B, dd, okr, eA, hxr, hRr⟩ := at_rowR (Kd.S_below HL.out (below_then HB3.out HB3.out.size HB.out)) j hjl
        subst eA
        obtain ⟨row, hrow⟩ : ∃ row, row = L.getD j [] := ⟨_, rfl⟩
        rw [← hrow] at hR hxr hRr
        rw [show j = y.toNat by rw [HY.out, Int.toNat_natCast]] at hxr
        have HRr := Aside0.mk hRr
        have HW := Aside0.mk (show wrap64 (y + 1) = ((j + 1 : Nat) : Int) by unfold wrap64; have := HJ.out; have := HG.out; have := HY.out; omega)
        simp only [sndRows] at hR
        by_cases hp : 0 ≤ wrap64 (a0_0 - 1) ∧ wrap64 (a0_0 - 1) < (row.length : Int)
        case neg => rw [if_neg hp] at hR; cases hR
        rw [if_pos hp] at hR
        obtain ⟨aB, eB, hxB⟩ := Kd.at_int (Kd.R_reads' HRr.out).2.2 (wrap64 (a0_0 - 1)) hp.1 hp.2
        subst eB
        have pp := eq_true hp.1
        have qp := eq_true hp.2
        clear hp hrow hRr hjl
        by_cases c : 0 < rd row (wrap64 (a0_0 - 1))
        · rw [if_pos c] at hR
          have cb : decide (rd row (wrap64 (a0_0 - 1)) > 0) = true := decide_eq_true c
          clear c
          obtain ⟨b, hb, hR⟩ := Option.bind_eq_some_iff.1 hR
          have HEQ := Aside0.mk hb
          clear hb
          cases b with
          | false =>
            rw [if_neg (by decide)] at hR
            obtain rfl := Option.some.inj hR
            have hF := HF.out
            rw [if_neg (by decide)] at hF
            obtain rfl := Option.some.inj hF
            clear hR hF
            go_wp2_with (go_at_call 75; refine (slices_Equal_int_int.calls k (some aB) dd row A7 c7 e7 false _ (Kd.R_reads' HRr.out).2.2 (Kd.R_reads' HRr.out).2.1 (Kd.C_below HC7.out HB.out) HL7.out HEQ.out).mono ?_; rintro e w5 ⟨rfl, hd5⟩; have HB5 := Aside0.mk (below_then HB.out HB.out.size hd5.below); clear hd5)
            go_ret
            exact ⟨rfl, below_then HB3.out HB3.out.size HB5.out⟩
          | true =>
            rw [if_pos rfl] at hR
            obtain ⟨x, hx, hR⟩ := Option.bind_eq_some_iff.1 hR
            cases x with
            | none => simp only at hR; cases hR
            | some q =>
              simp only at hR
              obtain ⟨ix, hix, hR⟩ := Option.bind_eq_some_iff.1 hR
              have HM := Aside0.mk hx
              have HIX := Aside0.mk hix
              clear hx hix
              by_cases hi : 0 ≤ ix
              · rw [if_pos hi] at hR
                have HRN := Aside0.mk hR
                have hib : decide (0 ≤ ix) = true := decide_eq_true hi
                clear hi hR
                go_wp2_with (first | (go_at_call 75; refine (slices_Equal_int_int.calls k (some aB) dd row A7 c7 e7 true _ (Kd.R_reads' HRr.out).2.2 (Kd.R_reads' HRr.out).2.1 (Kd.C_below HC7.out HB.out) HL7.out HEQ.out).mono ?_; rintro e w5 ⟨rfl, hd5⟩; have HD5 := Aside0.mk hd5.below; have HB5 := Aside0.mk (below_then HB.out HB.out.size hd5.below); clear hd5 hxn hxb0 hxb1 hxe; have hxn : w5.cell? ⟨gn, 0, none⟩ = some (.pointer (some ⟨gb, 0, none⟩)) := (blk_cell (blk_below HN3.out HB5.out) 0).trans rfl) | (go_at_call 67; refine (impl_marksFrom.calls gb A cc a0_0 st (some aB) dd row (some q) _ (blk_below HBK3.out HB5.out) (Kd.C_below HST.out (below_then HB3.out HB3.out.size HB5.out)) (Kd.R_below HRr.out HD5.out) (Nat.le_trans HBA.out (Nat.le_trans HB3.out.size HB5.out.size)) HM.out).mono ?_; rintro e w6 hpost; rcases hpost with ⟨hq, -⟩ | ⟨q', gx, gm, vL, vF, vS, ML, hq, rfl, hmk⟩; (cases hq); obtain rfl := Option.some.inj hq; obtain ⟨AX, cX, hvL⟩ := Kd.S_slice hmk.L; subst hvL; have HMK := Aside0.mk hmk; have HB6 := Aside0.mk (below_then HB5.out HB5.out.size hmk.B); clear hmk; have hx6 : w6.cell? ⟨gx, 0, none⟩ = some (.slice AX q.1.length cX) := (blk_cell HMK.out.X 0).trans rfl) | (go_at_call 86; refine (slices_ContainsFunc_row.at 87 (enters_ Try.func87 (by kernel_rfl) rfl) #[.pointer (some ⟨g, 0, none⟩)] (fun y => slices_Equal_int_int.f k y e7) AX cX q.1 ix _ (Kd.S_reads' HMK.out.L).2.2 (fun W x B0 d0 b hW hx hd hp => sound_eq.at k g A7 c7 e7 x B0 d0 b W (blk_below (blk_below HG3.out HB6.out) hW) (Kd.C_below (Kd.C_below HC7.out HB6.out) hW) HL7.out hx hd hp) HIX.out).mono ?_; rintro e w7 ⟨rfl, hb7⟩; have HB7 := Aside0.mk (below_then HB6.out HB6.out.size hb7); clear hb7 hx6))
                go_roundg d
                case measure => omega
                case rel => exact ⟨wrap64 (y + 1), j + 1, rfl, ⟨HW.out⟩, ⟨by have := HJ.out; omega⟩, HRN, HB7⟩
              · rw [if_neg hi] at hR
                obtain rfl := Option.some.inj hR
                have hF := HF.out
                rw [if_neg (by decide)] at hF
                obtain rfl := Option.some.inj hF
                have hib : decide (0 ≤ ix) = false := decide_eq_false hi
                clear hi hR hF
                go_wp2_with (first | (go_at_call 75; refine (slices_Equal_int_int.calls k (some aB) dd row A7 c7 e7 true _ (Kd.R_reads' HRr.out).2.2 (Kd.R_reads' HRr.out).2.1 (Kd.C_below HC7.out HB.out) HL7.out HEQ.out).mono ?_; rintro e w5 ⟨rfl, hd5⟩; have HD5 := Aside0.mk hd5.below; have HB5 := Aside0.mk (below_then HB.out HB.out.size hd5.below); clear hd5 hxn hxb0 hxb1 hxe; have hxn : w5.cell? ⟨gn, 0, none⟩ = some (.pointer (some ⟨gb, 0, none⟩)) := (blk_cell (blk_below HN3.out HB5.out) 0).trans rfl) | (go_at_call 67; refine (impl_marksFrom.calls gb A cc a0_0 st (some aB) dd row (some q) _ (blk_below HBK3.out HB5.out) (Kd.C_below HST.out (below_then HB3.out HB3.out.size HB5.out)) (Kd.R_below HRr.out HD5.out) (Nat.le_trans HBA.out (Nat.le_trans HB3.out.size HB5.out.size)) HM.out).mono ?_; rintro e w6 hpost; rcases hpost with ⟨hq, -⟩ | ⟨q', gx, gm, vL, vF, vS, ML, hq, rfl, hmk⟩; (cases hq); obtain rfl := Option.some.inj hq; obtain ⟨AX, cX, hvL⟩ := Kd.S_slice hmk.L; subst hvL; have HMK := Aside0.mk hmk; have HB6 := Aside0.mk (below_then HB5.out HB5.out.size hmk.B); clear hmk; have hx6 : w6.cell? ⟨gx, 0, none⟩ = some (.slice AX q.1.length cX) := (blk_cell HMK.out.X 0).trans rfl) | (go_at_call 86; refine (slices_ContainsFunc_row.at 87 (enters_ Try.func87 (by kernel_rfl) rfl) #[.pointer (some ⟨g, 0, none⟩)] (fun y => slices_Equal_int_int.f k y e7) AX cX q.1 ix _ (Kd.S_reads' HMK.out.L).2.2 (fun W x B0 d0 b hW hx hd hp => sound_eq.at k g A7 c7 e7 x B0 d0 b W (blk_below (blk_below HG3.out HB6.out) hW) (Kd.C_below (Kd.C_below HC7.out HB6.out) hW) HL7.out hx hd hp) HIX.out).mono ?_; rintro e w7 ⟨rfl, hb7⟩; have HB7 := Aside0.mk (below_then HB6.out HB6.out.size hb7); clear hb7 hx6))
                go_ret
                exact ⟨rfl, below_then HB3.out HB3.out.size HB7.out⟩
        · rw [if_neg c] at hR
          have cb : decide (rd row (wrap64 (a0_0 - 1)) > 0) = false := decide_eq_false c
          clear c
          simp only [Option.bind_some, if_true] at hR
          obtain ⟨x, hx, hR⟩ := Option.bind_eq_some_iff.1 hR
          cases x with
          | none => simp only at hR; cases hR
          | some q =>
            simp only at hR
            obtain ⟨ix, hix, hR⟩ := Option.bind_eq_some_iff.1 hR
            have HM := Aside0.mk hx
            have HIX := Aside0.mk hix
            clear hx hix
            by_cases hi : 0 ≤ ix
            · rw [if_pos hi] at hR
              have HRN := Aside0.mk hR
              have hib : decide (0 ≤ ix) = true := decide_eq_true hi
              clear hi hR
              go_wp2_with (first | (go_at_call 67; refine (impl_marksFrom.calls gb A cc a0_0 st (some aB) dd row (some q) _ (blk_below HBK3.out HB.out) (Kd.C_below HST.out (below_then HB3.out HB3.out.size HB.out)) HRr.out (Nat.le_trans HBA.out (Nat.le_trans HB3.out.size HB.out.size)) HM.out).mono ?_; rintro e w6 hpost; rcases hpost with ⟨hq, -⟩ | ⟨q', gx, gm, vL, vF, vS, ML, hq, rfl, hmk⟩; (cases hq); obtain rfl := Option.some.inj hq; obtain ⟨AX, cX, hvL⟩ := Kd.S_slice hmk.L; subst hvL; have HMK := Aside0.mk hmk; have HB6 := Aside0.mk (below_then HB.out HB.out.size hmk.B); clear hmk; have hx6 : w6.cell? ⟨gx, 0, none⟩ = some (.slice AX q.1.length cX) := (blk_cell HMK.out.X 0).trans rfl) | (go_at_call 86; refine (slices_ContainsFunc_row.at 87 (enters_ Try.func87 (by kernel_rfl) rfl) #[.pointer (some ⟨g, 0, none⟩)] (fun y => slices_Equal_int_int.f k y e7) AX cX q.1 ix _ (Kd.S_reads' HMK.out.L).2.2 (fun W x B0 d0 b hW hx hd hp => sound_eq.at k g A7 c7 e7 x B0 d0 b W (blk_below (blk_below HG3.out HB6.out) hW) (Kd.C_below (Kd.C_below HC7.out HB6.out) hW) HL7.out hx hd hp) HIX.out).mono ?_; rintro e w7 ⟨rfl, hb7⟩; have HB7 := Aside0.mk (below_then HB6.out HB6.out.size hb7); clear hb7 hx6))
              go_roundg d
              case measure => omega
              case rel => exact ⟨wrap64 (y + 1), j + 1, rfl, ⟨HW.out⟩, ⟨by have := HJ.out; omega⟩, HRN, HB7⟩
            · rw [if_neg hi] at hR
              obtain rfl := Option.some.inj hR
              have hF := HF.out
              rw [if_neg (by decide)] at hF
              obtain rfl := Option.some.inj hF
              have hib : decide (0 ≤ ix) = false := decide_eq_false hi
              clear hi hR hF
              go_wp2_with (first | (go_at_call 67; refine (impl_marksFrom.calls gb A cc a0_0 st (some aB) dd row (some q) _ (blk_below HBK3.out HB.out) (Kd.C_below HST.out (below_then HB3.out HB3.out.size HB.out)) HRr.out (Nat.le_trans HBA.out (Nat.le_trans HB3.out.size HB.out.size)) HM.out).mono ?_; rintro e w6 hpost; rcases hpost with ⟨hq, -⟩ | ⟨q', gx, gm, vL, vF, vS, ML, hq, rfl, hmk⟩; (cases hq); obtain rfl := Option.some.inj hq; obtain ⟨AX, cX, hvL⟩ := Kd.S_slice hmk.L; subst hvL; have HMK := Aside0.mk hmk; have HB6 := Aside0.mk (below_then HB.out HB.out.size hmk.B); clear hmk; have hx6 : w6.cell? ⟨gx, 0, none⟩ = some (.slice AX q.1.length cX) := (blk_cell HMK.out.X 0).trans rfl) | (go_at_call 86; refine (slices_ContainsFunc_row.at 87 (enters_ Try.func87 (by kernel_rfl) rfl) #[.pointer (some ⟨g, 0, none⟩)] (fun y => slices_Equal_int_int.f k y e7) AX cX q.1 ix _ (Kd.S_reads' HMK.out.L).2.2 (fun W x B0 d0 b hW hx hd hp => sound_eq.at k g A7 c7 e7 x B0 d0 b W (blk_below (blk_below HG3.out HB6.out) hW) (Kd.C_below (Kd.C_below HC7.out HB6.out) hW) HL7.out hx hd hp) HIX.out).mono ?_; rintro e w7 ⟨rfl, hb7⟩; have HB7 := Aside0.mk (below_then HB6.out HB6.out.size hb7); clear hb7 hx6))
              go_ret
              exact ⟨rfl, below_then HB3.out HB3.out.size HB7.out⟩
  refine join_ (σ := Nat × Value) 2 #[true, true, true, true, true, true, true, true, true, true, false, false] (fun s => [(20, s.2)]) (fun s w' => Below w2.heap.size w2 w' ∧ Kd.R (Kd.int .i64) 3 w' w.heap.size (fun _ => True) s.2 e7 ∧ True) ?j10 (fun J10 => ?_)
  rotate_left
  simp only [putAll, Act.put, List.setIfInBounds_toArray, List.set_cons_zero, List.set_cons_succ] at J10
  rotate_left
  case j10 =>
    clear hB
    rintro ⟨g, v⟩ W ⟨hB, hR, -⟩
    dsimp only at hB hR 
    refine norm_ (a' := ?_) (by simp only [putAll, Act.put, List.setIfInBounds_toArray, List.set_cons_zero, List.set_cons_succ]; rfl) ?_
    refine one_ (i := 10) (N := some 5) #[true, true, true, true, true, true, true, true, true, true, true, false] rfl rfl (by kernel_rfl) (by decide) (fun K hK => ?_)
    have hb' := below_alloc (Below.refl W.heap.size W) (.cells #[.slice none 0 0] 33)
    have hB' := below_then hB hB.size hb'
    refine value_ (w1 := W.alloc (.cells #[.slice none 0 0] 33)) (v := .pointer (some ⟨W.heap.size, 0, none⟩)) (by rfl) rfl (by first | (go_simp; done) | (go_simp; rfl)) ?_
    refine hK.out _ _ ⟨(blk_cell (blk_below HN2.out hB') 0).trans rfl, (blk_cell (blk_below HBK2.out hB') 0).trans rfl⟩ (fun _ => ?_)
    clear hK K
    refine norm_ (a' := ?_) (by simp only [Act.put, List.setIfInBounds_toArray, List.set_cons_zero, List.set_cons_succ]; rfl) ?_
    exact J11 (W.heap.size, v) _ ⟨hB', Kd.R_below hR hb', ⟨heap_alloc_new _ _, Nat.le_trans HB2.out.size hB.size⟩⟩
  refine join_ (σ := Nat × Value) 2 #[true, true, true, true, true, true, true, true, true, false, true, false] (fun s => [(5, .pointer (some ⟨s.1, 0, none⟩))]) (fun s w' => Below w2.heap.size w2 w' ∧ True ∧ (w'.heap[s.1]? = some (.cells #[.slice none 0 0] 33 (0, 0)) ∧ w.heap.size ≤ s.1)) ?j01 (fun J01 => ?_)
  rotate_left
  simp only [putAll, Act.put, List.setIfInBounds_toArray, List.set_cons_zero, List.set_cons_succ] at J01
  rotate_left
  case j01 =>
    clear hB
    rintro ⟨g, v⟩ W ⟨hB, -, hG⟩
    dsimp only at hB  hG
    refine norm_ (a' := ?_) (by simp only [putAll, Act.put, List.setIfInBounds_toArray, List.set_cons_zero, List.set_cons_succ]; rfl) ?_
    refine one_ (i := 9) (N := some 20) #[true, true, true, true, true, true, true, true, true, true, true, false] rfl rfl (by kernel_rfl) (by decide) (fun K hK => ?_)
    refine goes_ Try.func71 (by kernel_rfl) rfl #[.int .i64 a0_0, .int .i64 (wrap64 (a0_0 - 1))] (by rfl) rfl rfl (by (try simp only [List.map_toArray, List.map_cons, List.map_nil]); first | done | rfl) ?_
    refine (impl_single.calls a0_0 (wrap64 (a0_0 - 1)) e7 W HSG.out).mono ?_
    rintro e w' ⟨v', rfl, hr', hb'⟩
    have hB' := below_then hB hB.size hb'
    refine ⟨_, rfl, hK.out _ _ ⟨(blk_cell (blk_below HN2.out hB') 0).trans rfl, (blk_cell (blk_below HBK2.out hB') 0).trans rfl⟩ (fun _ => ?_)⟩
    clear hK K
    refine norm_ (a' := ?_) (by simp only [Act.put, List.setIfInBounds_toArray, List.set_cons_zero, List.set_cons_succ]; rfl) ?_
    exact J11 (g, v') _ ⟨hB', Kd.R_lower hr' (Nat.le_trans HB2.out.size hB.size), ⟨blk_below hG.1 hb', hG.2⟩⟩
  obtain ⟨g, v⟩ : Nat × Value := (0, undef)
  refine two_ (i := 9) (j := 10) (Ni := some 20) (Nj := some 5) #[true, true, true, true, true, true, true, true, true, true, false, false] #[true, true, true, true, true, true, true, true, true, false, true, false] rfl rfl rfl rfl (by kernel_rfl) (by decide) (by decide) (fun K hK => ?_) (fun K hK => ?_)
  · refine goes_ Try.func71 (by kernel_rfl) rfl #[.int .i64 a0_0, .int .i64 (wrap64 (a0_0 - 1))] (by rfl) rfl rfl (by (try simp only [List.map_toArray, List.map_cons, List.map_nil]); first | done | rfl) ?_
    refine (impl_single.calls a0_0 (wrap64 (a0_0 - 1)) e7 W HSG.out).mono ?_
    rintro e w' ⟨v', rfl, hr', hb'⟩
    have hB' := below_then hB hB.size hb'
    refine ⟨_, rfl, hK.out _ _ ⟨(blk_cell (blk_below HN2.out hB') 0).trans rfl, (blk_cell (blk_below HBK2.out hB') 0).trans rfl⟩ (fun _ => ?_)⟩
    clear hK K
    refine norm_ (a' := ?_) (by simp only [Act.put, List.setIfInBounds_toArray, List.set_cons_zero, List.set_cons_succ]; rfl) ?_
    exact J10 (g, v') _ ⟨hB', Kd.R_lower hr' (Nat.le_trans HB2.out.size hB.size), trivial⟩
  · have hb' := below_alloc (Below.refl W.heap.size W) (.cells #[.slice none 0 0] 33)
    have hB' := below_then hB hB.size hb'
    refine value_ (w1 := W.alloc (.cells #[.slice none 0 0] 33)) (v := .pointer (some ⟨W.heap.size, 0, none⟩)) (by rfl) rfl (by first | (go_simp; done) | (go_simp; rfl)) ?_
    refine hK.out _ _ ⟨(blk_cell (blk_below HN2.out hB') 0).trans rfl, (blk_cell (blk_below HBK2.out hB') 0).trans rfl⟩ (fun _ => ?_)
    clear hK K
    refine norm_ (a' := ?_) (by simp only [Act.put, List.setIfInBounds_toArray, List.set_cons_zero, List.set_cons_succ]; rfl) ?_
    exact J01 (W.heap.size, v) _ ⟨hB', trivial, ⟨heap_alloc_new _ _, Nat.le_trans HB2.out.size hB.size⟩⟩

/-! ### impl_IsSound: function 41, by hand; a text alone -/
def impl_IsSound.f (k : Nat) (n : Int) (st : List S60) : Option (Bool × Bool) := (impl_GoodNet.f k n st).bind fun t => if t = true then (if n < 2 then some (false, false) else (impl_single.f n 0).bind fun e => (impl_marksFrom.f n st e).bind fun r => match r with | none => some (false, false) | some q => (impl_soundIn.f k n st q.1).bind fun b => some (b, true)) else some (false, false)
set_option maxHeartbeats 8000000 in
set_option maxRecDepth 100000 in
theorem impl_IsSound.calls (k : Nat) (a0_0 : Int) (A0_1 : Option Addr) (c0_1 : Nat) (l0_1 : List (S60)) (r1 r2 : Bool) (w : World) (hr0_1 : Kd.C k60 w A0_1 l0_1.length l0_1) (hc0_1 : l0_1.length ≤ c0_1) (h : impl_IsSound.f k a0_0 l0_1 = some (r1, r2)) :
    Calls Try.prog 41 #[.agg #[.int .i64 a0_0, .slice A0_1 l0_1.length c0_1]] w fun e w' => e = .returned (.tuple #[.bool r1, .bool r2]) ∧ Below w.heap.size w w' := by
  have hu29 := Try.underlying29
  have hu81 := Try.underlying81
  have HR0_1 := Aside0.mk hr0_1
  have HC0_1 := Aside0.mk hc0_1
  clear hr0_1 hc0_1
  have HB := Aside0.mk (Below.refl w.heap.size w)
  unfold impl_IsSound.f at h
  obtain ⟨t, T, h⟩ := Option.bind_eq_some_iff.1 h
  have HT := Aside0.mk T
  clear T
  cases t with
  | false =>
    rw [if_neg (by decide)] at h
    simp only [Option.some.injEq, Prod.mk.injEq] at h
    obtain ⟨rfl, rfl⟩ := h
    go_enter Try.func41, Try.ntmps41
    go_wp2_with (first | ((with_reducible refine gate_dst (N := 1) rfl ?_); refine box_event ?hg (N := 1) ?hd (cs := #[.int .i64 a0_0, .slice A0_1 l0_1.length c0_1]) (t := 29) ?hr ?_; (case hd => rfl); (case hg => rfl); (case hr => first | (go_simp; done) | (go_simp; rfl)); intro gb hg w3 hbox hb; have n0_ := Aside0.mk (below_step (by repeat (first | exact HB.out | apply below_alloc | apply pw_below_drewN | apply below_drew1)) hb); have n1_ := Aside0.mk hbox; clear HB; have HB := n0_; have BK := n1_; clear n0_ n1_; clear hb hbox hg; have hcz_0 : w3.cell? ⟨gb, 0, none⟩ = some (.int .i64 a0_0) := (blk_cell BK.out 0).trans rfl; have hcz_1 : w3.cell? ⟨gb, 1, none⟩ = some (.slice A0_1 l0_1.length c0_1) := (blk_cell BK.out 1).trans rfl; have hfz_0 := blk_frozen BK.out 0; have hfz_1 := blk_frozen BK.out 1) | (go_at_call 16; refine (impl_GoodNet.calls k a0_0 A0_1 c0_1 l0_1 false _ (Kd.C_below HR0_1.out HB.out) HC0_1.out HT.out).mono ?_; rintro e w4 ⟨rfl, hb4⟩; have HB4 := Aside0.mk (below_then HB.out HB.out.size hb4); have BK4 := Aside0.mk (blk_below BK.out hb4); clear hb4 hcz_0 hcz_1 hfz_0 hfz_1 HB BK; have hn0 : w4.cell? ⟨gb, 0, none⟩ = some (.int .i64 a0_0) := (blk_cell BK4.out 0).trans rfl))
    go_ret2
    exact ⟨rfl, HB4.out⟩
  | true =>
    rw [if_pos rfl] at h
    by_cases h2 : a0_0 < 2
    · rw [if_pos h2] at h
      simp only [Option.some.injEq, Prod.mk.injEq] at h
      obtain ⟨rfl, rfl⟩ := h
      have h2b : decide (a0_0 < 2) = true := decide_eq_true h2
      clear h2
      go_enter Try.func41, Try.ntmps41
      go_wp2_with (first | ((with_reducible refine gate_dst (N := 1) rfl ?_); refine box_event ?hg (N := 1) ?hd (cs := #[.int .i64 a0_0, .slice A0_1 l0_1.length c0_1]) (t := 29) ?hr ?_; (case hd => rfl); (case hg => rfl); (case hr => first | (go_simp; done) | (go_simp; rfl)); intro gb hg w3 hbox hb; have n0_ := Aside0.mk (below_step (by repeat (first | exact HB.out | apply below_alloc | apply pw_below_drewN | apply below_drew1)) hb); have n1_ := Aside0.mk hbox; clear HB; have HB := n0_; have BK := n1_; clear n0_ n1_; clear hb hbox hg; have hcz_0 : w3.cell? ⟨gb, 0, none⟩ = some (.int .i64 a0_0) := (blk_cell BK.out 0).trans rfl; have hcz_1 : w3.cell? ⟨gb, 1, none⟩ = some (.slice A0_1 l0_1.length c0_1) := (blk_cell BK.out 1).trans rfl; have hfz_0 := blk_frozen BK.out 0; have hfz_1 := blk_frozen BK.out 1) | (go_at_call 16; refine (impl_GoodNet.calls k a0_0 A0_1 c0_1 l0_1 true _ (Kd.C_below HR0_1.out HB.out) HC0_1.out HT.out).mono ?_; rintro e w4 ⟨rfl, hb4⟩; have HB4 := Aside0.mk (below_then HB.out HB.out.size hb4); have BK4 := Aside0.mk (blk_below BK.out hb4); clear hb4 hcz_0 hcz_1 hfz_0 hfz_1 HB BK; have hn0 : w4.cell? ⟨gb, 0, none⟩ = some (.int .i64 a0_0) := (blk_cell BK4.out 0).trans rfl))
      go_ret2
      exact ⟨rfl, HB4.out⟩
    · rw [if_neg h2] at h
      have h2b : decide (a0_0 < 2) = false := decide_eq_false h2
      clear h2
      obtain ⟨e7, S, h⟩ := Option.bind_eq_some_iff.1 h
      obtain ⟨r, M, h⟩ := Option.bind_eq_some_iff.1 h
      have HSG := Aside0.mk S
      have HM := Aside0.mk M
      clear S M
      cases r with
      | none =>
        simp only [Option.some.injEq, Prod.mk.injEq] at h
        obtain ⟨rfl, rfl⟩ := h
        go_enter Try.func41, Try.ntmps41
        go_wp2_with (first | ((with_reducible refine gate_dst (N := 1) rfl ?_); refine box_event ?hg (N := 1) ?hd (cs := #[.int .i64 a0_0, .slice A0_1 l0_1.length c0_1]) (t := 29) ?hr ?_; (case hd => rfl); (case hg => rfl); (case hr => first | (go_simp; done) | (go_simp; rfl)); intro gb hg w3 hbox hb; have n0_ := Aside0.mk (below_step (by repeat (first | exact HB.out | apply below_alloc | apply pw_below_drewN | apply below_drew1)) hb); have n1_ := Aside0.mk hbox; clear HB; have HB := n0_; have BK := n1_; clear n0_ n1_; clear hb hbox hg; have hcz_0 : w3.cell? ⟨gb, 0, none⟩ = some (.int .i64 a0_0) := (blk_cell BK.out 0).trans rfl; have hcz_1 : w3.cell? ⟨gb, 1, none⟩ = some (.slice A0_1 l0_1.length c0_1) := (blk_cell BK.out 1).trans rfl; have hfz_0 := blk_frozen BK.out 0; have hfz_1 := blk_frozen BK.out 1) | (go_at_call 16; refine (impl_GoodNet.calls k a0_0 A0_1 c0_1 l0_1 true _ (Kd.C_below HR0_1.out HB.out) HC0_1.out HT.out).mono ?_; rintro e w4 ⟨rfl, hb4⟩; have HB4 := Aside0.mk (below_then HB.out HB.out.size hb4); have BK4 := Aside0.mk (blk_below BK.out hb4); clear hb4 hcz_0 hcz_1 hfz_0 hfz_1 HB BK; have hn0 : w4.cell? ⟨gb, 0, none⟩ = some (.int .i64 a0_0) := (blk_cell BK4.out 0).trans rfl) | (go_at_call 71; refine (impl_single.calls a0_0 0 e7 _ HSG.out).mono ?_; rintro e w7 ⟨v7, rfl, hr7, hb7⟩; obtain ⟨A7, c7, hv7⟩ := Kd.R_slice hr7; subst hv7; have HB7 := Aside0.mk (below_then HB4.out HB4.out.size hb7); have BK7 := Aside0.mk (blk_below BK4.out hb7); have HR7 := Aside0.mk (Kd.R_lower hr7 HB4.out.size); clear hr7 hb7 hn0 HB4 BK4) | (go_at_call 67; refine (impl_marksFrom.calls gb A0_1 c0_1 a0_0 l0_1 A7 c7 e7 none _ BK7.out (Kd.C_below HR0_1.out HB7.out) HR7.out HB7.out.size HM.out).mono ?_; rintro e w6 hpost; rcases hpost with ⟨-, rfl, hb6⟩ | ⟨q, gx, gm, vL, vF, vS, ML, hq, -⟩; rotate_left; (cases hq); have HB6 := Aside0.mk (below_then HB7.out HB7.out.size hb6); clear hb6))
        go_ret2
        exact ⟨rfl, HB6.out⟩
      | some q =>
        simp only at h
        obtain ⟨b, S, h⟩ := Option.bind_eq_some_iff.1 h
        simp only [Option.some.injEq, Prod.mk.injEq] at h
        obtain ⟨rfl, rfl⟩ := h
        have HS := Aside0.mk S
        clear S
        go_enter Try.func41, Try.ntmps41
        go_wp2_with (first | ((with_reducible refine gate_dst (N := 1) rfl ?_); refine box_event ?hg (N := 1) ?hd (cs := #[.int .i64 a0_0, .slice A0_1 l0_1.length c0_1]) (t := 29) ?hr ?_; (case hd => rfl); (case hg => rfl); (case hr => first | (go_simp; done) | (go_simp; rfl)); intro gb hg w3 hbox hb; have n0_ := Aside0.mk (below_step (by repeat (first | exact HB.out | apply below_alloc | apply pw_below_drewN | apply below_drew1)) hb); have n1_ := Aside0.mk hbox; clear HB; have HB := n0_; have BK := n1_; clear n0_ n1_; clear hb hbox hg; have hcz_0 : w3.cell? ⟨gb, 0, none⟩ = some (.int .i64 a0_0) := (blk_cell BK.out 0).trans rfl; have hcz_1 : w3.cell? ⟨gb, 1, none⟩ = some (.slice A0_1 l0_1.length c0_1) := (blk_cell BK.out 1).trans rfl; have hfz_0 := blk_frozen BK.out 0; have hfz_1 := blk_frozen BK.out 1) | (go_at_call 16; refine (impl_GoodNet.calls k a0_0 A0_1 c0_1 l0_1 true _ (Kd.C_below HR0_1.out HB.out) HC0_1.out HT.out).mono ?_; rintro e w4 ⟨rfl, hb4⟩; have HB4 := Aside0.mk (below_then HB.out HB.out.size hb4); have BK4 := Aside0.mk (blk_below BK.out hb4); clear hb4 hcz_0 hcz_1 hfz_0 hfz_1 HB BK; have hn0 : w4.cell? ⟨gb, 0, none⟩ = some (.int .i64 a0_0) := (blk_cell BK4.out 0).trans rfl) | (go_at_call 71; refine (impl_single.calls a0_0 0 e7 _ HSG.out).mono ?_; rintro e w7 ⟨v7, rfl, hr7, hb7⟩; obtain ⟨A7, c7, hv7⟩ := Kd.R_slice hr7; subst hv7; have HB7 := Aside0.mk (below_then HB4.out HB4.out.size hb7); have BK7 := Aside0.mk (blk_below BK4.out hb7); have HR7 := Aside0.mk (Kd.R_lower hr7 HB4.out.size); clear hr7 hb7 hn0 HB4 BK4) | (go_at_call 67; refine (impl_marksFrom.calls gb A0_1 c0_1 a0_0 l0_1 A7 c7 e7 (some q) _ BK7.out (Kd.C_below HR0_1.out HB7.out) HR7.out HB7.out.size HM.out).mono ?_; rintro e w6 hpost; rcases hpost with ⟨hq, -⟩ | ⟨q', gx, gm, vL, vF, vS, ML, hq, rfl, hmk⟩; (cases hq); obtain rfl := Option.some.inj hq; obtain ⟨AL, cL, hvL⟩ := Kd.S_slice hmk.L; subst hvL; have HMK := Aside0.mk hmk; have HB6 := Aside0.mk (below_then HB7.out HB7.out.size hmk.B); have BK6 := Aside0.mk (blk_below BK7.out hmk.B); clear hmk HB7 BK7; have hx6 : w6.cell? ⟨gx, 0, none⟩ = some (.slice AL q.1.length cL) := (blk_cell HMK.out.X 0).trans rfl) | (go_at_call 72; refine (impl_soundIn.calls k gb A0_1 c0_1 a0_0 l0_1 AL cL q.1 b _ BK6.out (Kd.C_below HR0_1.out HB6.out) HMK.out.L HB6.out.size HS.out).mono ?_; rintro e w8 ⟨rfl, hb8⟩; have HB8 := Aside0.mk (below_then HB6.out HB6.out.size hb8); clear hb8 hx6))
        go_ret2
        exact ⟨rfl, HB8.out⟩

end Go.Proofs.Ytnfafdlglhbijaa.PFnExactIsSound
