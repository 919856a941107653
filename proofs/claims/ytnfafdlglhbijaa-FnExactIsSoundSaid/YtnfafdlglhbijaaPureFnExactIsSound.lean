/- The program finds a net sound where the reference does: the law answers true. No conditions but the reach of a slice. -/
import Derived.Test.YtnfafdlglhbijaaPFnExactIsSoundx10
namespace Go.Proofs.Ytnfafdlglhbijaa.Pure
open Go.RowKit Go.Proofs.Ytnfafdlglhbijaa.PFnExactIsSound Go.Proofs.YtnfafdlglhbijaaW.PrintWords Go.Proofs.YtnfafdlglhbijaaW.PrintLast
set_option linter.unusedVariables false
set_option linter.unusedSimpArgs false

theorem wrap_small {x : Int} (h0 : -9223372036854775808 ≤ x) (h1 : x ≤ 9223372036854775807) : wrap64 x = x := by
  unfold wrap64
  omega

theorem wrap_next {j n : Nat} (h : j < n) (hn : n ≤ 140737488351232) : wrap64 ((j : Int) + 1) = ((j + 1 : Nat) : Int) := by
  rw [wrap_small (by omega) (by omega)]; rfl

theorem rd_at (l : List Int) (j : Nat) : rd l (j : Int) = l.getD j 0 := by
  unfold rd; rw [Int.toNat_natCast]

theorem drop_at (l : List Int) (j : Nat) (h : j < l.length) : l.drop j = l.getD j 0 :: l.drop (j + 1) := by
  rw [List.drop_eq_getElem_cons h, List.getD_eq_getElem?_getD, List.getElem?_eq_getElem h]; rfl

theorem take_at (l : List Int) (j : Nat) (h : j < l.length) : l.take (j + 1) = l.take j ++ [l.getD j 0] := by
  rw [List.take_succ_eq_append_getElem h, List.getD_eq_getElem?_getD, List.getElem?_eq_getElem h]; rfl

theorem toIntS_loop (l : List Int) (hn : l.length ≤ 140737488351232) (d : Nat) : ∀ (k j : Nat) (x : List Int), x.length = l.length → x.take j = l.take j → j ≤ l.length → l.length - j = d → d < k →
    laws_toIntS.l0 k l x j = some l := by
  induction d with
  | zero =>
    intro k j x hx ht hj hd hk
    obtain ⟨k, rfl⟩ : ∃ m, k = m + 1 := ⟨k - 1, by omega⟩
    simp only [laws_toIntS.l0]; rw [if_neg (by omega)]
    rw [List.take_of_length_le (by omega), List.take_of_length_le (by omega)] at ht; rw [ht]
  | succ d ih =>
    intro k j x hx ht hj hd hk
    obtain ⟨k, rfl⟩ : ∃ m, k = m + 1 := ⟨k - 1, by omega⟩
    simp only [laws_toIntS.l0]; rw [if_pos (by omega), if_pos (by omega), if_pos (by omega), wrap_next (n := l.length) (by omega) hn, rd_at, Int.toNat_natCast]
    refine ih k (j + 1) _ (by rw [List.length_set]; exact hx) ?_ (by omega) (by omega) (by omega)
    rw [take_at l j (by omega), List.take_succ_eq_append_getElem (by rw [List.length_set]; omega), List.getElem_set_self, List.take_set_of_le (by omega), ht]

theorem toIntS_eq (l : List Int) (hn : l.length ≤ 17592186044416) (k : Nat) (hk : l.length < k) : laws_toIntS.f k l = some l := by
  unfold laws_toIntS.f
  rw [if_pos (by omega), Int.toNat_natCast, if_pos (by omega)]
  exact toIntS_loop l (by omega) l.length k 0 _ (by simp) (by simp) (by omega) (by omega) hk

theorem eqIntS_loop (a b : List Int) (hn : a.length ≤ 140737488351232) (hab : a.length = b.length) (d : Nat) : ∀ (k j : Nat), j ≤ a.length → a.length - j = d → d < k →
    laws_eqIntS.l0 k a b j = some (decide (a.drop j = b.drop j)) := by
  induction d with
  | zero =>
    intro k j hj hd hk
    obtain ⟨k, rfl⟩ : ∃ m, k = m + 1 := ⟨k - 1, by omega⟩
    simp only [laws_eqIntS.l0]; rw [if_neg (by omega), List.drop_of_length_le (by omega), List.drop_of_length_le (by omega)]; simp
  | succ d ih =>
    intro k j hj hd hk
    obtain ⟨k, rfl⟩ : ∃ m, k = m + 1 := ⟨k - 1, by omega⟩
    simp only [laws_eqIntS.l0]; rw [if_pos (by omega), if_pos (by omega), if_pos (by omega), wrap_next (n := a.length) (by omega) hn, rd_at, rd_at, drop_at a j (by omega), drop_at b j (by omega)]
    by_cases h : a.getD j 0 = b.getD j 0
    · rw [if_pos h, ih k (j + 1) (by omega) (by omega) (by omega)]; simp only [List.cons.injEq, h, true_and]
    · rw [if_neg h]; simp only [List.cons.injEq, h, false_and, decide_false]

theorem eqIntS_eq (a b : List Int) (hn : a.length ≤ 140737488351232) (k : Nat) (hk : a.length < k) : laws_eqIntS.f k a b = some (decide (a = b)) := by
  unfold laws_eqIntS.f
  by_cases h : a.length = b.length
  · rw [if_pos (by omega)]
    have := eqIntS_loop a b hn h a.length k 0 (by omega) (by omega) hk
    simpa using this
  · rw [if_neg (by omega), decide_eq_false (fun e => h (by rw [e]))]

theorem eqIntS_self (a : List Int) (hn : a.length ≤ 140737488351232) (k : Nat) (hk : a.length < k) : laws_eqIntS.f k a a = some true := by
  rw [eqIntS_eq a a hn k hk]; simp

theorem in_eq (a b c : Int) : impl_in.f a b c = some (decide (b ≤ a ∧ a ≤ c)) := by
  unfold impl_in.f
  by_cases h : a ≥ b
  · rw [if_pos h]; congr 1; simp only [decide_eq_decide]; omega
  · rw [if_neg h, decide_eq_false (by omega)]
theorem l1In_eq (a b c : Int) : spec_l1In.f a b c = some (decide (b ≤ a ∧ a ≤ c)) := by
  unfold spec_l1In.f
  by_cases h : a ≥ b
  · rw [if_pos h]; congr 1; simp only [decide_eq_decide]; omega
  · rw [if_neg h, decide_eq_false (by omega)]

/-- element j lies in 0..q and is above the one ahead of it -/
def riseOk (l : List Int) (q : Int) (j : Nat) : Bool := decide (0 ≤ l.getD j 0 ∧ l.getD j 0 ≤ q ∧ (0 < j → l.getD (j - 1) 0 < l.getD j 0))
def riseFrom (l : List Int) (q : Int) (j : Nat) : Nat → Bool
  | 0 => true
  | d + 1 => riseOk l q j && riseFrom l q (j + 1) d

theorem rise_round (l : List Int) (q : Int) (j : Nat) (x : Option Bool) (hn : l.length ≤ 1048576) (hj : j < l.length) :
    ((some (decide (0 ≤ l.getD j 0 ∧ l.getD j 0 ≤ q)) : Option Bool).bind fun t => (if t = true then (if (j : Int) > 0 then (if 0 ≤ (wrap64 ((j : Int) - 1)) then (if (wrap64 ((j : Int) - 1)) < (l.length : Int) then (if (rd l (wrap64 ((j : Int) - 1))) ≥ l.getD j 0 then (some false) else x) else (none)) else (none)) else x) else (some false)))
      = if riseOk l q j = true then x else some false := by
  simp only [Option.bind_some]
  by_cases h1 : 0 ≤ l.getD j 0 ∧ l.getD j 0 ≤ q
  · rw [decide_eq_true h1, if_pos rfl]
    by_cases h2 : (j : Int) > 0
    · have e : wrap64 ((j : Int) - 1) = ((j - 1 : Nat) : Int) := by rw [wrap_small (by omega) (by omega)]; omega
      rw [if_pos h2, e, if_pos (by omega), if_pos (by omega), rd_at]
      by_cases h3 : l.getD (j - 1) 0 ≥ l.getD j 0
      · rw [if_pos h3, if_neg (by unfold riseOk; simp only [decide_eq_true_eq]; intro h; have := h.2.2 (by omega); omega)]
      · rw [if_neg h3, if_pos (by unfold riseOk; simp only [decide_eq_true_eq]; exact ⟨h1.1, h1.2, fun _ => by omega⟩)]
    · rw [if_neg h2, if_pos (by unfold riseOk; simp only [decide_eq_true_eq]; exact ⟨h1.1, h1.2, fun h => by omega⟩)]
  · rw [decide_eq_false h1, if_neg (by simp), if_neg (by unfold riseOk; simp only [decide_eq_true_eq]; exact fun h => h1 ⟨h.1, h.2.1⟩)]

theorem rising_loop (l : List Int) (b : Int) (hn : l.length ≤ 1048576) (d : Nat) : ∀ (k j : Nat), j ≤ l.length → l.length - j = d → d < k →
    impl_rising.l0 k l b l l.length j = some (riseFrom l (wrap64 (b - 1)) j d) := by
  induction d with
  | zero =>
    intro k j hj hd hk
    obtain ⟨k, rfl⟩ : ∃ m, k = m + 1 := ⟨k - 1, by omega⟩
    simp only [impl_rising.l0]; rw [if_neg (by omega)]; rfl
  | succ d ih =>
    intro k j hj hd hk
    obtain ⟨k, rfl⟩ : ∃ m, k = m + 1 := ⟨k - 1, by omega⟩
    simp only [impl_rising.l0]; rw [if_pos (by omega), if_pos (by omega), if_pos (by omega), in_eq, wrap_next (n := l.length) (by omega) (by omega), rd_at, rise_round l _ j _ hn (by omega), ih k (j + 1) (by omega) (by omega) (by omega)]
    simp only [riseFrom]
    cases riseOk l (wrap64 (b - 1)) j <;> simp

theorem rising_eq (l : List Int) (b : Int) (hn : l.length ≤ 1048576) (k : Nat) (hk : l.length < k) : impl_rising.f k l b = some (riseFrom l (wrap64 (b - 1)) 0 l.length) := by
  unfold impl_rising.f
  exact rising_loop l b hn l.length k 0 (by omega) (by omega) hk

theorem l3List_loop (l : List Int) (b : Int) (hn : l.length ≤ 1048576) (d : Nat) : ∀ (k j : Nat), j ≤ l.length → l.length - j = d → d < k →
    spec_l3List.l0 k l b l l.length j = some (riseFrom l (wrap64 (b - 1)) j d) := by
  induction d with
  | zero =>
    intro k j hj hd hk
    obtain ⟨k, rfl⟩ : ∃ m, k = m + 1 := ⟨k - 1, by omega⟩
    simp only [spec_l3List.l0]; rw [if_neg (by omega)]; rfl
  | succ d ih =>
    intro k j hj hd hk
    obtain ⟨k, rfl⟩ : ∃ m, k = m + 1 := ⟨k - 1, by omega⟩
    simp only [spec_l3List.l0]; rw [if_pos (by omega), if_pos (by omega), if_pos (by omega), l1In_eq, wrap_next (n := l.length) (by omega) (by omega), rd_at, rise_round l _ j _ hn (by omega), ih k (j + 1) (by omega) (by omega) (by omega)]
    simp only [riseFrom]
    cases riseOk l (wrap64 (b - 1)) j <;> simp

theorem l3List_eq (l : List Int) (b : Int) (hn : l.length ≤ 1048576) (k : Nat) (hk : l.length < k) : spec_l3List.f k l b = some (riseFrom l (wrap64 (b - 1)) 0 l.length) := by
  unfold spec_l3List.f
  exact l3List_loop l b hn l.length k 0 (by omega) (by omega) hk

theorem rd60_at (l : List S60) (j : Nat) : rd_T60 l (j : Int) = l.getD j z60 := by unfold rd_T60; rw [Int.toNat_natCast]
theorem rd90_at (l : List S90) (j : Nat) : rd_T90 l (j : Int) = l.getD j z90 := by unfold rd_T90; rw [Int.toNat_natCast]
theorem takeS_at {α : Type} (z : α) (l : List α) (j : Nat) (h : j < l.length) : l.take (j + 1) = l.take j ++ [l.getD j z] := by
  rw [List.take_succ_eq_append_getElem h, List.getD_eq_getElem?_getD, List.getElem?_eq_getElem h]; rfl
theorem dropS_at {α : Type} (z : α) (l : List α) (j : Nat) (h : j < l.length) : l.drop j = l.getD j z :: l.drop (j + 1) := by
  rw [List.drop_eq_getElem_cons h, List.getD_eq_getElem?_getD, List.getElem?_eq_getElem h]; rfl
theorem getD_mem {α : Type} (z : α) (l : List α) (j : Nat) (h : j < l.length) : l.getD j z ∈ l := by
  rw [List.getD_eq_getElem?_getD, List.getElem?_eq_getElem h]; exact List.getElem_mem h

/-- a step's lists are short -/
def Short (x : S60) : Prop := x.f0.length ≤ 1048576 ∧ x.f1.length ≤ 1048576
/-- a step as the program has it -/
def stepOf (x : S90) : S60 := ⟨x.f0, x.f1⟩
/-- the steps as the program has them -/
def steps (l : List S90) : List S60 := l.map stepOf
theorem steps_length (l : List S90) : (steps l).length = l.length := by unfold steps; rw [List.length_map]
theorem getD_steps (l : List S90) (j : Nat) (h : j < l.length) : (steps l).getD j z60 = stepOf (l.getD j z90) := by
  unfold steps; rw [List.getD_eq_getElem?_getD, List.getElem?_map, List.getElem?_eq_getElem h, List.getD_eq_getElem?_getD, List.getElem?_eq_getElem h]; rfl

theorem szIntS_eq (l : List Int) (a : Int) (h0 : 0 ≤ a) (h1 : a ≤ 1048576) (hl : l.length ≤ 9223372036854775807) : laws_szIntS.f l a = some (if (l.length : Int) ≤ a then a - l.length else -1) := by
  unfold laws_szIntS.f; rw [wrap_small (by omega) (by omega)]
  by_cases h : (l.length : Int) ≤ a
  · rw [if_neg (by omega), if_pos h]
  · rw [if_pos (by omega), if_neg h]

theorem szStep_eq (x y : List Int) (a : Int) (h0 : 0 ≤ a) (h1 : a ≤ 1048576) (hx : x.length ≤ 9223372036854775807) (hy : y.length ≤ 9223372036854775807) :
    ∃ r, laws_szStep.f x y a = some r ∧ (r < 0 ∨ (0 ≤ r ∧ r ≤ a ∧ x.length ≤ 1048576 ∧ y.length ≤ 1048576)) := by
  unfold laws_szStep.f
  rw [szIntS_eq x a h0 h1 hx]; simp only [Option.bind_some]
  by_cases h : (x.length : Int) ≤ a
  · rw [if_pos h, if_neg (by omega), szIntS_eq y _ (by omega) (by omega) hy]; simp only [Option.bind_some]
    by_cases h2 : (y.length : Int) ≤ a - x.length
    · rw [if_pos h2, if_neg (by omega)]
      exact ⟨_, rfl, .inr ⟨by omega, by omega, by omega, by omega⟩⟩
    · rw [if_neg h2, if_pos (by omega)]
      exact ⟨_, rfl, .inl (by omega)⟩
  · rw [if_neg h, if_pos (by omega)]
    exact ⟨_, rfl, .inl (by omega)⟩

theorem szStepS_loop (l : List S90) (hn : l.length ≤ 1048576) (hy : ∀ y ∈ l, y.f0.length ≤ 9223372036854775807 ∧ y.f1.length ≤ 9223372036854775807) (d : Nat) : ∀ (k j : Nat) (a : Int), 0 ≤ a → a ≤ 1048576 → j ≤ l.length → l.length - j = d → d < k →
    ∃ r, laws_szStepS.l0 k l a j = some r ∧ (r < 0 ∨ (0 ≤ r ∧ ∀ i, j ≤ i → i < l.length → Short (stepOf (l.getD i z90)))) := by
  induction d with
  | zero =>
    intro k j a h0 h1 hj hd hk
    obtain ⟨k, rfl⟩ : ∃ m, k = m + 1 := ⟨k - 1, by omega⟩
    simp only [laws_szStepS.l0]; rw [if_neg (by omega)]
    exact ⟨a, rfl, .inr ⟨h0, fun i hi hil => by omega⟩⟩
  | succ d ih =>
    intro k j a h0 h1 hj hd hk
    obtain ⟨k, rfl⟩ : ∃ m, k = m + 1 := ⟨k - 1, by omega⟩
    simp only [laws_szStepS.l0]; rw [if_pos (by omega), if_pos (by omega), wrap_next (n := l.length) (by omega) (by omega), rd90_at]
    have hm := hy _ (getD_mem z90 l j (by omega))
    obtain ⟨r, hr, hc⟩ := szStep_eq (l.getD j z90).f0 (l.getD j z90).f1 a h0 h1 hm.1 hm.2
    rw [hr]; simp only [Option.bind_some]
    rcases hc with hc | ⟨hc, hc2, hx, hy2⟩
    · rw [if_pos hc]; exact ⟨_, rfl, .inl (by omega)⟩
    · rw [if_neg (by omega)]
      obtain ⟨r2, hr2, hc3⟩ := ih k (j + 1) r hc (by omega) (by omega) (by omega) (by omega)
      refine ⟨r2, hr2, ?_⟩
      rcases hc3 with hc3 | ⟨hc3, hs⟩
      · exact .inl hc3
      · refine .inr ⟨hc3, fun i hi hil => ?_⟩
        by_cases e : i = j
        · subst e; exact ⟨hx, hy2⟩
        · exact hs i (by omega) hil

theorem szNet_eq (n : Int) (l : List S90) (hl : l.length ≤ 9223372036854775807) (hy : ∀ y ∈ l, y.f0.length ≤ 9223372036854775807 ∧ y.f1.length ≤ 9223372036854775807) (k : Nat) (hk : 1048576 < k) :
    ∃ r, laws_szNet.f k n l 1048576 = some r ∧ (r < 0 ∨ (0 ≤ r ∧ l.length ≤ 1048576 ∧ ∀ x ∈ steps l, Short x)) := by
  unfold laws_szNet.f laws_szStepS.f
  rw [wrap_small (by omega) (by omega)]
  by_cases h : (1048576 : Int) - (l.length : Int) < 0
  · rw [if_pos h]; simp only [Option.bind_some]
    rw [if_pos (by omega)]; exact ⟨_, rfl, .inl (by omega)⟩
  · rw [if_neg h]
    obtain ⟨r, hr, hc⟩ := szStepS_loop l (by omega) hy l.length k 0 (1048576 - (l.length : Int)) (by omega) (by omega) (by omega) (by omega) (by omega)
    rw [show ((0 : Nat) : Int) = 0 from rfl] at hr
    rw [hr]; simp only [Option.bind_some]
    rcases hc with hc | ⟨hc, hs⟩
    · rw [if_pos hc]; exact ⟨_, rfl, .inl (by omega)⟩
    · rw [if_neg (by omega)]
      refine ⟨_, rfl, .inr ⟨hc, by omega, fun x hx => ?_⟩⟩
      unfold steps at hx
      obtain ⟨y, hym, rfl⟩ := List.mem_map.1 hx
      obtain ⟨i, hi, rfl⟩ := List.getElem_of_mem hym
      have := hs i (by omega) hi
      rwa [List.getD_eq_getElem?_getD, List.getElem?_eq_getElem hi] at this

theorem toStepS_loop (l : List S90) (hn : l.length ≤ 1048576) (hs : ∀ x ∈ steps l, Short x) (d : Nat) : ∀ (k j : Nat) (x : List S60), x.length = l.length → x.take j = (steps l).take j → j ≤ l.length → l.length - j = d → d + 1048576 < k →
    laws_toStepS.l0 k l x j = some (steps l) := by
  induction d with
  | zero =>
    intro k j x hx ht hj hd hk
    obtain ⟨k, rfl⟩ : ∃ m, k = m + 1 := ⟨k - 1, by omega⟩
    simp only [laws_toStepS.l0]; rw [if_neg (by omega)]
    rw [List.take_of_length_le (by omega), List.take_of_length_le (by rw [steps_length]; omega)] at ht; rw [ht]
  | succ d ih =>
    intro k j x hx ht hj hd hk
    obtain ⟨k, rfl⟩ : ∃ m, k = m + 1 := ⟨k - 1, by omega⟩
    have hm : Short (stepOf (l.getD j z90)) := by rw [← getD_steps l j (by omega)]; exact hs _ (getD_mem z60 _ j (by rw [steps_length]; omega))
    have h0 : (l.getD j z90).f0.length ≤ 1048576 := hm.1
    have h1 : (l.getD j z90).f1.length ≤ 1048576 := hm.2
    simp only [laws_toStepS.l0]; rw [if_pos (by omega), if_pos (by omega), rd90_at]
    simp only [laws_toStep.f]; rw [toIntS_eq _ (by omega) k (by omega)]; simp only [Option.bind_some]
    rw [toIntS_eq _ (by omega) k (by omega)]; simp only [Option.bind_some]
    rw [if_pos (by omega), wrap_next (n := l.length) (by omega) (by omega), Int.toNat_natCast]
    refine ih k (j + 1) _ (by rw [List.length_set]; exact hx) ?_ (by omega) (by omega) (by omega)
    rw [takeS_at z60 (steps l) j (by rw [steps_length]; omega), List.take_succ_eq_append_getElem (by rw [List.length_set]; omega), List.getElem_set_self, List.take_set_of_le (by omega), ht, getD_steps l j (by omega)]; rfl

theorem toNet_eq (n : Int) (l : List S90) (hn : l.length ≤ 1048576) (hs : ∀ x ∈ steps l, Short x) (k : Nat) (hk : 2097152 < k) : laws_toNet.f k n l = some (n, steps l) := by
  unfold laws_toNet.f laws_toStepS.f
  rw [if_pos (by omega), Int.toNat_natCast, if_pos (by omega)]
  have := toStepS_loop l hn hs l.length k 0 (List.replicate l.length z60) (by simp) (by simp) (by omega) (by omega) (by omega)
  rw [show ((0 : Nat) : Int) = 0 from rfl] at this
  rw [this]; rfl

theorem eqStepS_loop (a : List S60) (hn : a.length ≤ 1048576) (hs : ∀ x ∈ a, Short x) (d : Nat) : ∀ (k j : Nat), j ≤ a.length → a.length - j = d → d + 1048576 < k →
    laws_eqStepS.l0 k a a j = some true := by
  induction d with
  | zero =>
    intro k j hj hd hk
    obtain ⟨k, rfl⟩ : ∃ m, k = m + 1 := ⟨k - 1, by omega⟩
    simp only [laws_eqStepS.l0]; rw [if_neg (by omega)]
  | succ d ih =>
    intro k j hj hd hk
    obtain ⟨k, rfl⟩ : ∃ m, k = m + 1 := ⟨k - 1, by omega⟩
    have hm := hs _ (getD_mem z60 a j (by omega))
    have h0 := hm.1
    have h1 := hm.2
    simp only [laws_eqStepS.l0]; rw [if_pos (by omega), if_pos (by omega), if_pos (by omega), rd60_at]
    simp only [laws_eqStep.f]; rw [eqIntS_self _ (by omega) k (by omega)]; simp only [Option.bind_some, if_true]
    rw [eqIntS_self _ (by omega) k (by omega)]; simp only [Option.bind_some, if_true]
    rw [wrap_next (n := a.length) (by omega) (by omega)]
    exact ih k (j + 1) (by omega) (by omega) (by omega)

theorem eqNet_self (n : Int) (a : List S60) (hn : a.length ≤ 1048576) (hs : ∀ x ∈ a, Short x) (k : Nat) (hk : 2097152 < k) : laws_eqNet.f k n a n a = some true := by
  unfold laws_eqNet.f laws_eqStepS.f
  rw [if_pos rfl, if_pos rfl]
  have := eqStepS_loop a hn hs a.length k 0 (by omega) (by omega) (by omega)
  rw [show ((0 : Nat) : Int) = 0 from rfl] at this
  rw [this]; rfl

/-- a step's lists rise and lie in the net -/
def stepOk (n : Int) (s : S60) : Bool := riseFrom s.f0 (wrap64 (n - 1)) 0 s.f0.length && riseFrom s.f1 (wrap64 (n - 1)) 0 s.f1.length
/-- the net is good -/
def netOk (n : Int) (l : List S60) : Bool := decide (1 ≤ n ∧ n ≤ 8) && (decide (l.length ≤ 12) && l.all (stepOk n))

theorem spec_net_loop (n : Int) (l : List S60) (hn : l.length ≤ 1048576) (hs : ∀ x ∈ l, Short x) (d : Nat) : ∀ (k j : Nat), j ≤ l.length → l.length - j = d → d + 1048576 < k →
    spec_GoodNet.l0 k l l.length j n l = some (decide (1 ≤ n ∧ n ≤ 8) && (decide (l.length ≤ 12) && (l.drop j).all (stepOk n))) := by
  induction d with
  | zero =>
    intro k j hj hd hk
    obtain ⟨k, rfl⟩ : ∃ m, k = m + 1 := ⟨k - 1, by omega⟩
    simp only [spec_GoodNet.l0]; rw [if_neg (by omega), l1In_eq, List.drop_of_length_le (by omega)]; simp only [Option.bind_some, List.all_nil, Bool.and_true]
    by_cases h : 1 ≤ n ∧ n ≤ 8
    · rw [decide_eq_true h, if_pos rfl]; congr 1; simp only [Bool.true_and, decide_eq_decide]; omega
    · rw [decide_eq_false h, if_neg (by simp)]; simp
  | succ d ih =>
    intro k j hj hd hk
    obtain ⟨k, rfl⟩ : ∃ m, k = m + 1 := ⟨k - 1, by omega⟩
    have hm := hs _ (getD_mem z60 l j (by omega))
    have h0 := hm.1
    have h1 := hm.2
    simp only [spec_GoodNet.l0]; rw [if_pos (by omega), if_pos (by omega), if_pos (by omega), rd60_at, l3List_eq _ n (by omega) k (by omega), l3List_eq _ n (by omega) k (by omega), wrap_next (n := l.length) (by omega) (by omega), ih k (j + 1) (by omega) (by omega) (by omega), dropS_at z60 l j (by omega)]
    simp only [Option.bind_some, List.all_cons, stepOk]
    cases riseFrom (l.getD j z60).f0 (wrap64 (n - 1)) 0 (l.getD j z60).f0.length <;> cases riseFrom (l.getD j z60).f1 (wrap64 (n - 1)) 0 (l.getD j z60).f1.length <;> simp

theorem spec_net (n : Int) (l : List S60) (hn : l.length ≤ 1048576) (hs : ∀ x ∈ l, Short x) (k : Nat) (hk : 2097152 < k) : spec_GoodNet.f k n l = some (netOk n l) := by
  unfold spec_GoodNet.f
  have := spec_net_loop n l hn hs l.length k 0 (by omega) (by omega) (by omega)
  rw [show ((0 : Nat) : Int) = 0 from rfl, List.drop_zero] at this
  exact this

theorem any_bad (n : Int) (k : Nat) (hk : 1048576 < k) : ∀ l : List S60, (∀ x ∈ l, Short x) → anyO60 (impl_GoodNet.bad k n) l = some (!(l.all (stepOk n)))
  | [], _ => rfl
  | x :: l, hs => by
    have hm := hs x (by simp)
    have h0 := hm.1
    have h1 := hm.2
    simp only [anyO60, impl_GoodNet.bad]
    rw [rising_eq _ n (by omega) k (by omega), rising_eq _ n (by omega) k (by omega), any_bad n k hk l (fun y hy => hs y (by simp [hy]))]
    simp only [Option.bind_some, List.all_cons, stepOk]
    cases riseFrom x.f0 (wrap64 (n - 1)) 0 x.f0.length <;> cases riseFrom x.f1 (wrap64 (n - 1)) 0 x.f1.length <;> simp

theorem impl_net (n : Int) (l : List S60) (hs : ∀ x ∈ l, Short x) (k : Nat) (hk : 1048576 < k) : impl_GoodNet.f k n l = some (netOk n l) := by
  unfold impl_GoodNet.f netOk
  rw [in_eq]; simp only [Option.bind_some]
  by_cases h : 1 ≤ n ∧ n ≤ 8
  · rw [decide_eq_true h, if_pos rfl]
    by_cases h2 : l.length ≤ 12
    · rw [if_neg (by omega), any_bad n k hk l hs, decide_eq_true h2]; simp
    · rw [if_pos (by omega), decide_eq_false h2]; simp
  · rw [decide_eq_false h, if_neg (by simp)]; simp

theorem all_drop (p : Int → Bool) (l : List Int) (j : Nat) (h : j < l.length) : (l.drop j).all p = (p (l.getD j 0) && (l.drop (j + 1)).all p) := by
  rw [drop_at l j h, List.all_cons]

theorem getD_set (x : List Int) (p : Nat) (v : Int) (i : Nat) (hp : p < x.length) : (x.set p v).getD i 0 = if i = p then v else x.getD i 0 := by
  by_cases h : i = p
  · subst h; rw [if_pos rfl, List.getD_eq_getElem?_getD, List.getElem?_set_self hp]; rfl
  · rw [if_neg h, List.getD_eq_getElem?_getD, List.getElem?_set_ne (fun e => h e.symm), List.getD_eq_getElem?_getD]

/-- all numbers lie in lo..hi -/
def InR (lo hi : Int) (x : List Int) : Prop := ∀ i, i < x.length → lo ≤ x.getD i 0 ∧ x.getD i 0 ≤ hi

theorem all_inR (lo hi : Int) (x : List Int) : (x.all fun y => decide (lo ≤ y ∧ y ≤ hi)) = true ↔ InR lo hi x := by
  rw [List.all_eq_true]
  constructor
  · intro h i hi'
    have := h _ (getD_mem 0 x i hi')
    simpa using this
  · intro h y hy
    obtain ⟨i, hi', rfl⟩ := List.getElem_of_mem hy
    have := h i hi'
    rw [List.getD_eq_getElem?_getD, List.getElem?_eq_getElem hi'] at this
    simpa using this

theorem addAll_far (d : Int) (hd : d = 1 ∨ d = -1) : ∀ (l : List Int) (x : List Int) (B : Int), (∀ p ∈ l, 0 ≤ p ∧ p < x.length) → InR (-B) B x → B + l.length ≤ 4611686018427387904 →
    ∃ z, addAll d l x = some z ∧ z.length = x.length ∧ ∀ i, i < x.length → (d = 1 → x.getD i 0 ≤ z.getD i 0) ∧ (d = -1 → z.getD i 0 ≤ x.getD i 0)
  | [], x, B, _, _, _ => ⟨x, rfl, rfl, fun i _ => ⟨fun _ => Int.le_refl _, fun _ => Int.le_refl _⟩⟩
  | p :: l, x, B, hp, hx, hB => by
    have hpp := hp p (by simp)
    simp only [List.length_cons] at hB
    have hxp := hx p.toNat (by omega)
    have e : rd x p = x.getD p.toNat 0 := rfl
    have ew : wrap64 (rd x p + d) = x.getD p.toNat 0 + d := by rw [e, wrap_small (by omega) (by omega)]
    obtain ⟨z, hz, hzl, hzi⟩ := addAll_far d hd l (x.set p.toNat (wrap64 (rd x p + d))) (B + 1) (fun q hq => by rw [List.length_set]; exact hp q (by simp [hq]))
      (fun i hi => by
        rw [List.length_set] at hi
        rw [getD_set _ _ _ _ (by omega), ew]
        have := hx i hi
        by_cases h : i = p.toNat
        · rw [if_pos h]; omega
        · rw [if_neg h]; omega) (by omega)
    refine ⟨z, by rw [addAll, if_pos hpp]; exact hz, by rw [hzl, List.length_set], fun i hi => ?_⟩
    have := hzi i (by rw [List.length_set]; exact hi)
    rw [getD_set _ _ _ _ (by omega), ew] at this
    by_cases h : i = p.toNat
    · rw [if_pos h] at this; subst h; exact ⟨fun h1 => by have := this.1 h1; omega, fun h1 => by have := this.2 h1; omega⟩
    · rw [if_neg h] at this; exact this

theorem lowestOf_le : ∀ (l : List Int) (x : Int), lowestOf l x ≤ x ∧ ∀ y ∈ l, lowestOf l x ≤ y
  | [], x => ⟨Int.le_refl _, fun y hy => by cases hy⟩
  | y :: l, x => by
    have h := lowestOf_le l (min x y)
    simp only [lowestOf]
    refine ⟨by omega, fun u hu => ?_⟩
    rcases List.mem_cons.1 hu with rfl | hu
    · omega
    · exact h.2 u hu
theorem lowestOf_ge : ∀ (l : List Int) (x : Int), 0 ≤ x → (∀ y ∈ l, 0 ≤ y) → 0 ≤ lowestOf l x
  | [], x, h, _ => h
  | y :: l, x, h, hl => by
    simp only [lowestOf]
    exact lowestOf_ge l (min x y) (by have := hl y (by simp); omega) (fun u hu => hl u (by simp [hu]))

theorem min_spec (x : List Int) (h : 0 < x.length) : ∃ q, slices_Min_int_int.f x = some q ∧ (InR 0 9 x → 0 ≤ q) ∧ ((∃ i, i < x.length ∧ x.getD i 0 < 0) → q < 0) := by
  cases x with
  | nil => simp at h
  | cons y l =>
    refine ⟨lowestOf l y, rfl, fun hi => ?_, fun ⟨i, hi, hn⟩ => ?_⟩
    · refine lowestOf_ge l y (by have := hi 0 (by simp); simpa using this.1) (fun u hu => ?_)
      obtain ⟨i, hi', rfl⟩ := List.getElem_of_mem hu
      have := hi (i + 1) (by simpa using hi')
      rw [List.getD_eq_getElem?_getD, List.getElem?_cons_succ, List.getElem?_eq_getElem hi'] at this
      exact this.1
    · have hm := getD_mem 0 (y :: l) i hi
      have hle := lowestOf_le l y
      rcases List.mem_cons.1 hm with e | e
      · rw [e] at hn; omega
      · have := hle.2 _ e; omega

theorem fire_give (g : List Int) (hg : g.length ≤ 1048576) (d : Nat) : ∀ (j : Nat) (x : List Int), j ≤ g.length → g.length - j = d → InR 0 9 x → (∀ p ∈ g, 0 ≤ p ∧ p < x.length) →
    ∃ b z, addAll 1 (g.drop j) x = some z ∧ z.length = x.length ∧ (b = true → InR 0 9 z) ∧ (b = false → ∃ i, i < x.length ∧ 9 < z.getD i 0) ∧ Ev (fun k => spec_l3Fire.l1 k x g g.length j) (if b = true then z else [], b) := by
  induction d with
  | zero =>
    intro j x hj hd hx hp
    refine ⟨true, x, by rw [List.drop_of_length_le (by omega)]; rfl, rfl, fun _ => hx, fun h => (by cases h), Ev.step (f := fun _ => some (x, true)) (fun k => ?_) (Ev.now _)⟩
    simp only [spec_l3Fire.l1]; rw [if_neg (by omega)]
  | succ d ih =>
    intro j x hj hd hx hp
    have hpj := hp _ (getD_mem 0 g j (by omega))
    obtain ⟨p, hpe⟩ : ∃ p : Nat, (p : Int) = g.getD j 0 := ⟨(g.getD j 0).toNat, by omega⟩
    rw [← hpe] at hpj
    have hxp := hx p (by omega)
    have ew : wrap64 (x.getD p 0 + 1) = x.getD p 0 + 1 := wrap_small (by omega) (by omega)
    rw [addAll_drop _ _ _ (by omega), rd_at, ← hpe, if_pos hpj, rd_at, Int.toNat_natCast, ew]
    have hun : ∀ k, spec_l3Fire.l1 (k + 1) x g g.length j = if x.getD p 0 + 1 > 9 then some ([], false) else spec_l3Fire.l1 k (x.set p (x.getD p 0 + 1)) g g.length ((j + 1 : Nat) : Int) := by
      intro k
      simp only [spec_l3Fire.l1]
      rw [if_pos (by omega), if_pos (by omega), if_pos (by omega), rd_at, ← hpe, if_pos (by omega), if_pos (by omega), wrap_next (n := g.length) (by omega) (by omega), rd_at, Int.toNat_natCast, ew]
      simp only [Option.bind_some]
      rw [rd_at, getD_set _ _ _ _ (by omega), if_pos rfl]
    by_cases h9 : x.getD p 0 + 1 > 9
    · obtain ⟨z, hz, hzl, hzi⟩ := addAll_far 1 (.inl rfl) (g.drop (j + 1)) (x.set p (x.getD p 0 + 1)) 10 (fun q hq => by rw [List.length_set]; exact hp q (List.mem_of_mem_drop hq))
        (fun i hi => by
          rw [List.length_set] at hi
          rw [getD_set _ _ _ _ (by omega)]
          have := hx i hi
          by_cases h : i = p
          · rw [if_pos h]; omega
          · rw [if_neg h]; omega) (by rw [List.length_drop]; omega)
      refine ⟨false, z, hz, by rw [hzl, List.length_set], fun h => (by cases h), fun _ => ⟨p, by omega, ?_⟩, Ev.step (f := fun _ => some ([], false)) (fun k => ?_) (Ev.now _)⟩
      · have := (hzi p (by rw [List.length_set]; omega)).1 rfl
        rw [getD_set _ _ _ _ (by omega), if_pos rfl] at this; omega
      · rw [hun, if_pos h9]
    · obtain ⟨b, z, hz, hzl, h1, h2, h3⟩ := ih (j + 1) (x.set p (x.getD p 0 + 1)) (by omega) (by omega)
        (fun i hi => by
          rw [List.length_set] at hi
          rw [getD_set _ _ _ _ (by omega)]
          have := hx i hi
          by_cases h : i = p
          · rw [if_pos h]; omega
          · rw [if_neg h]; omega) (fun q hq => by rw [List.length_set]; exact hp q hq)
      refine ⟨b, z, hz, by rw [hzl, List.length_set], h1, fun h => by have := h2 h; rwa [List.length_set] at this, Ev.step (fun k => ?_) h3⟩
      rw [hun, if_neg h9]

theorem fire_take (f g : List Int) (hf : f.length ≤ 1048576) (d : Nat) : ∀ (j : Nat) (x : List Int), j ≤ f.length → f.length - j = d → InR 0 9 x → (∀ p ∈ f, 0 ≤ p ∧ p < x.length) →
    ∃ z, addAll (-1) (f.drop j) x = some z ∧ z.length = x.length ∧ ((InR 0 9 z ∧ ∀ r, Ev (fun k => spec_l3Fire.l1 k z g g.length ((0 : Nat) : Int)) r → Ev (fun k => spec_l3Fire.l0 k x f f.length j f g) r) ∨ ((∃ i, i < x.length ∧ z.getD i 0 < 0) ∧ Ev (fun k => spec_l3Fire.l0 k x f f.length j f g) ([], false))) := by
  induction d with
  | zero =>
    intro j x hj hd hx hp
    refine ⟨x, by rw [List.drop_of_length_le (by omega)]; rfl, rfl, .inl ⟨hx, fun r hr => Ev.step (fun k => ?_) hr⟩⟩
    simp only [spec_l3Fire.l0]; rw [if_neg (by omega)]; rfl
  | succ d ih =>
    intro j x hj hd hx hp
    have hpj := hp _ (getD_mem 0 f j (by omega))
    obtain ⟨p, hpe⟩ : ∃ p : Nat, (p : Int) = f.getD j 0 := ⟨(f.getD j 0).toNat, by omega⟩
    rw [← hpe] at hpj
    have hxp := hx p (by omega)
    have ew : wrap64 (x.getD p 0 - 1) = x.getD p 0 - 1 := wrap_small (by omega) (by omega)
    rw [addAll_drop _ _ _ (by omega), rd_at, ← hpe, if_pos hpj, rd_at, Int.toNat_natCast, show x.getD p 0 + -1 = x.getD p 0 - 1 by omega, ew]
    have hun : ∀ k, spec_l3Fire.l0 (k + 1) x f f.length j f g = if x.getD p 0 = 0 then some ([], false) else spec_l3Fire.l0 k (x.set p (x.getD p 0 - 1)) f f.length ((j + 1 : Nat) : Int) f g := by
      intro k
      simp only [spec_l3Fire.l0]
      rw [if_pos (by omega), if_pos (by omega), if_pos (by omega), rd_at, ← hpe, if_pos (by omega), if_pos (by omega), wrap_next (n := f.length) (by omega) (by omega), rd_at, Int.toNat_natCast, ew]
    by_cases h0 : x.getD p 0 = 0
    · obtain ⟨z, hz, hzl, hzi⟩ := addAll_far (-1) (.inr rfl) (f.drop (j + 1)) (x.set p (x.getD p 0 - 1)) 10 (fun q hq => by rw [List.length_set]; exact hp q (List.mem_of_mem_drop hq))
        (fun i hi => by
          rw [List.length_set] at hi
          rw [getD_set _ _ _ _ (by omega)]
          have := hx i hi
          by_cases h : i = p
          · rw [if_pos h]; omega
          · rw [if_neg h]; omega) (by rw [List.length_drop]; omega)
      refine ⟨z, hz, by rw [hzl, List.length_set], .inr ⟨⟨p, by omega, ?_⟩, Ev.step (f := fun _ => some ([], false)) (fun k => ?_) (Ev.now _)⟩⟩
      · have := (hzi p (by rw [List.length_set]; omega)).2 rfl
        rw [getD_set _ _ _ _ (by omega), if_pos rfl] at this; omega
      · rw [hun, if_pos h0]
    · obtain ⟨z, hz, hzl, h1⟩ := ih (j + 1) (x.set p (x.getD p 0 - 1)) (by omega) (by omega)
        (fun i hi => by
          rw [List.length_set] at hi
          rw [getD_set _ _ _ _ (by omega)]
          have := hx i hi
          by_cases h : i = p
          · rw [if_pos h]; omega
          · rw [if_neg h]; omega) (fun q hq => by rw [List.length_set]; exact hp q hq)
      refine ⟨z, hz, by rw [hzl, List.length_set], ?_⟩
      rcases h1 with ⟨h1, h2⟩ | ⟨h1, h2⟩
      · exact .inl ⟨h1, fun r hr => Ev.step (fun k => by rw [hun, if_neg h0]) (h2 r hr)⟩
      · refine .inr ⟨by rwa [List.length_set] at h1, Ev.step (fun k => ?_) h2⟩
        rw [hun, if_neg h0]

/-- a step fires alike -/
theorem fire_both (n : Int) (st : List S60) (m : List Int) (i : Nat) (hi : i < st.length) (hs : Short (st.getD i z60)) (hn : 1 ≤ n ∧ n ≤ 8) (hml : (m.length : Int) = n) (hm : InR 0 9 m)
    (hf : ∀ p ∈ (st.getD i z60).f0, 0 ≤ p ∧ p < m.length) (hg : ∀ p ∈ (st.getD i z60).f1, 0 ≤ p ∧ p < m.length) :
    ∃ b y y', Ev (fun k => spec_l3Fire.f k (st.getD i z60).f0 (st.getD i z60).f1 m) (y, b) ∧ net_fired.f n st m i = some (y', b) ∧ (b = true → y' = y ∧ y.length = m.length ∧ InR 0 9 y) ∧ (b = false → y = []) := by
  obtain ⟨z, hz, hzl, hc⟩ := fire_take (st.getD i z60).f0 (st.getD i z60).f1 hs.1 _ 0 m (by omega) rfl hm hf
  rw [List.drop_zero] at hz
  have hstart : ∀ r, Ev (fun k => spec_l3Fire.l0 k m (st.getD i z60).f0 (st.getD i z60).f0.length ((0 : Nat) : Int) (st.getD i z60).f0 (st.getD i z60).f1) r → Ev (fun k => spec_l3Fire.f k (st.getD i z60).f0 (st.getD i z60).f1 m) r := by
    intro r hr
    refine Ev.congr (fun k => ?_) hr
    unfold spec_l3Fire.f
    simp only [Option.bind_some, List.nil_append, List.length_nil]
    rw [if_pos (by omega)]; rfl
  obtain ⟨q, hq, hq1, hq2⟩ := min_spec z (by omega)
  unfold net_fired.f
  rw [if_pos ⟨by omega, by omega, by omega⟩, rd60_at, hz]; simp only [Option.bind_some]
  rw [hq]; simp only [Option.bind_some]
  rcases hc with ⟨h1, h2⟩ | ⟨h1, h2⟩
  · rw [if_neg (by have := hq1 h1; omega)]
    obtain ⟨b, y, hy, hyl, hb1, hb2, hev⟩ := fire_give (st.getD i z60).f1 hs.2 _ 0 z (by omega) rfl h1 (fun p hp => by rw [hzl]; exact hg p hp)
    rw [List.drop_zero] at hy
    rw [hy]; simp only [Option.bind_some, impl_isMarking.f]
    have eb : (decide ((y.length : Int) = n) && y.all fun x => decide (0 ≤ x ∧ x ≤ 9)) = b := by
      rw [decide_eq_true (by omega), Bool.true_and]
      cases b with
      | true => exact (all_inR 0 9 y).2 (hb1 rfl)
      | false =>
        obtain ⟨i', hi', h9⟩ := hb2 rfl
        rw [Bool.eq_false_iff]
        intro h
        have := (all_inR 0 9 y).1 h i' (by omega)
        omega
    rw [eb]
    refine ⟨b, _, y, hstart _ (h2 _ hev), rfl, fun h => ?_, fun h => by rw [if_neg (by rw [h]; decide)]⟩
    rw [if_pos h]; exact ⟨rfl, by omega, hb1 h⟩
  · rw [if_pos (hq2 (by obtain ⟨i', h⟩ := h1; exact ⟨i', by omega, h.2⟩))]
    exact ⟨false, [], [], hstart _ h2, rfl, fun h => (by cases h), fun _ => rfl⟩

theorem mem_bound (l : List Int) (q : Int) (h : riseFrom l q 0 l.length = true) : ∀ p ∈ l, 0 ≤ p ∧ p ≤ q := by
  have key : ∀ (d j : Nat), j + d = l.length → riseFrom l q j d = true → ∀ i, j ≤ i → i < l.length → 0 ≤ l.getD i 0 ∧ l.getD i 0 ≤ q := by
    intro d
    induction d with
    | zero => intro j hj _ i h1 h2; omega
    | succ d ih =>
      intro j hj h i h1 h2
      simp only [riseFrom, Bool.and_eq_true] at h
      by_cases e : i = j
      · subst e; have h3 := h.1; unfold riseOk at h3; simp only [decide_eq_true_eq] at h3; exact ⟨h3.1, h3.2.1⟩
      · exact ih (j + 1) (by omega) h.2 i (by omega) h2
  intro p hp
  obtain ⟨i, hi, rfl⟩ := List.getElem_of_mem hp
  have := key l.length 0 (by omega) h i (by omega) hi
  rwa [List.getD_eq_getElem?_getD, List.getElem?_eq_getElem hi] at this

theorem step_within (n : Int) (l : List S60) (m : List Int) (hg : netOk n l = true) (hml : (m.length : Int) = n) (i : Nat) (hi : i < l.length) :
    (1 ≤ n ∧ n ≤ 8) ∧ (∀ p ∈ (l.getD i z60).f0, 0 ≤ p ∧ p < m.length) ∧ (∀ p ∈ (l.getD i z60).f1, 0 ≤ p ∧ p < m.length) := by
  unfold netOk at hg
  simp only [Bool.and_eq_true, decide_eq_true_eq, List.all_eq_true] at hg
  have h := hg.2.2 _ (getD_mem z60 l i hi)
  unfold stepOk at h
  rw [Bool.and_eq_true, wrap_small (by omega) (by omega)] at h
  exact ⟨hg.1, fun p hp => by have := mem_bound _ _ h.1 p hp; omega, fun p hp => by have := mem_bound _ _ h.2 p hp; omega⟩

/-- the markings that are found, the one of which each came, the step, the steps from the first -/
structure BS where
  L : List (List Int)
  F : List Int
  S : List Int
  B : List (List Int)
def bstep (fire : List Int → Nat → Option (List Int)) (i : Nat) (s : BS) (j : Nat) : Option BS :=
  match fire (s.L.getD i []) j with
  | none => some s
  | some y => if y ∈ s.L then some s else if s.L.length = 400 then none else some ⟨s.L ++ [y], s.F ++ [(i : Int)], s.S ++ [(j : Int)], s.B ++ [s.B.getD i [] ++ [(j : Int)]]⟩
def bin (fire : List Int → Nat → Option (List Int)) (T i : Nat) : Nat → BS → Option BS
  | 0, s => some s
  | d + 1, s => (bstep fire i s (T - (d + 1))).bind (bin fire T i d)
def bout (fire : List Int → Nat → Option (List Int)) (T : Nat) : Nat → Nat → BS → Option BS
  | 0, _, _ => none
  | k + 1, i, s => if i < s.L.length then (bin fire T i T s).bind (bout fire T k (i + 1)) else some s
structure BInv (G : List Int → Prop) (s : BS) : Prop where
  nd : s.L.Nodup
  hi : s.L.length ≤ 400
  lF : s.F.length = s.L.length
  lS : s.S.length = s.L.length
  lB : s.B.length = s.L.length
  g : ∀ x ∈ s.L, G x
  b0 : s.B.getD 0 [] = []
  f : ∀ a, a < s.L.length → a ≠ 0 → 0 ≤ s.F.getD a 0 ∧ s.F.getD a 0 < a ∧ s.B.getD a [] = s.B.getD (s.F.getD a 0).toNat [] ++ [s.S.getD a 0]
theorem getD_left {α : Type} (z : α) (l r : List α) (a : Nat) (h : a < l.length) : (l ++ r).getD a z = l.getD a z := by
  rw [List.getD_eq_getElem?_getD, List.getD_eq_getElem?_getD, List.getElem?_append_left h]
theorem getD_last {α : Type} (z x : α) (l : List α) (a : Nat) (h : a = l.length) : (l ++ [x]).getD a z = x := by
  subst h; rw [List.getD_eq_getElem?_getD]; simp
theorem BInv.first {G : List Int → Prop} {m : List Int} (h : G m) : BInv G ⟨[m], [-1], [-1], [[]]⟩ :=
  ⟨by simp, by simp, rfl, rfl, rfl, by simpa using h, rfl, fun a h1 h2 => absurd h1 (by simp; omega)⟩
/-- a step: what it keeps, and what is found behind it -/
theorem bstep_inv {G : List Int → Prop} {fire : List Int → Nat → Option (List Int)} {T : Nat} (hfire : ∀ x, G x → ∀ j, j < T → ∀ y, fire x j = some y → G y) {i j : Nat} {s s' : BS} (hI : BInv G s) (hi : i < s.L.length) (hj : j < T) (h : bstep fire i s j = some s') :
    BInv G s' ∧ (∃ r, s'.L = s.L ++ r) ∧ ∀ y, fire (s.L.getD i []) j = some y → y ∈ s'.L := by
  unfold bstep at h
  cases hf : fire (s.L.getD i []) j with
  | none => rw [hf] at h; obtain rfl := Option.some.inj h; exact ⟨hI, ⟨[], by simp⟩, fun y hy => by cases hy⟩
  | some y =>
    rw [hf] at h
    by_cases c : y ∈ s.L
    · simp only [if_pos c] at h; obtain rfl := Option.some.inj h; exact ⟨hI, ⟨[], by simp⟩, fun z hz => by cases hz; exact c⟩
    · simp only [if_neg c] at h
      by_cases c2 : s.L.length = 400
      · rw [if_pos c2] at h; cases h
      · rw [if_neg c2] at h; obtain rfl := Option.some.inj h
        have hg : G (s.L.getD i []) := hI.g _ (by rw [List.getD_eq_getElem?_getD, List.getElem?_eq_getElem hi]; exact List.getElem_mem hi)
        refine ⟨⟨?_, ?_, ?_, ?_, ?_, ?_, ?_, ?_⟩, ⟨[y], rfl⟩, fun z hz => by cases hz; simp⟩
        · show (s.L ++ [y]).Nodup
          rw [List.nodup_append]
          exact ⟨hI.nd, by simp, fun a ha b hb => by rw [List.mem_singleton] at hb; subst hb; rintro rfl; exact c ha⟩
        · show (s.L ++ [y]).length ≤ 400
          have := hI.hi; rw [List.length_append, List.length_singleton]; omega
        · show (s.F ++ [(i : Int)]).length = (s.L ++ [y]).length
          rw [List.length_append, List.length_append, hI.lF]; rfl
        · show (s.S ++ [(j : Int)]).length = (s.L ++ [y]).length
          rw [List.length_append, List.length_append, hI.lS]; rfl
        · show (s.B ++ [s.B.getD i [] ++ [(j : Int)]]).length = (s.L ++ [y]).length
          rw [List.length_append, List.length_append, hI.lB]; rfl
        · intro x hx
          rcases List.mem_append.1 hx with h1 | h1
          · exact hI.g x h1
          · rw [List.mem_singleton] at h1; subst h1; exact hfire _ hg j hj _ hf
        · show (s.B ++ [s.B.getD i [] ++ [(j : Int)]]).getD 0 [] = []
          rw [getD_left _ _ _ _ (by rw [hI.lB]; omega)]; exact hI.b0
        · intro a ha ha0
          replace ha : a < (s.L ++ [y]).length := ha
          rw [List.length_append, List.length_singleton] at ha
          show 0 ≤ (s.F ++ [(i : Int)]).getD a 0 ∧ (s.F ++ [(i : Int)]).getD a 0 < a ∧ (s.B ++ [s.B.getD i [] ++ [(j : Int)]]).getD a [] = (s.B ++ [s.B.getD i [] ++ [(j : Int)]]).getD ((s.F ++ [(i : Int)]).getD a 0).toNat [] ++ [(s.S ++ [(j : Int)]).getD a 0]
          by_cases hl : a < s.L.length
          · obtain ⟨h1, h2, h3⟩ := hI.f a hl ha0
            rw [getD_left _ _ _ _ (by rw [hI.lF]; exact hl), getD_left _ _ _ a (by rw [hI.lB]; exact hl), getD_left _ _ _ a (by rw [hI.lS]; exact hl), getD_left _ _ _ _ (by rw [hI.lB]; omega)]
            exact ⟨h1, h2, h3⟩
          · have he : a = s.L.length := by omega
            rw [getD_last _ _ _ a (by rw [hI.lF]; exact he), getD_last _ _ _ a (by rw [hI.lB]; exact he), getD_last _ _ _ a (by rw [hI.lS]; exact he)]
            exact ⟨by omega, by omega, by rw [Int.toNat_natCast, getD_left _ _ _ _ (by rw [hI.lB]; exact hi)]⟩
theorem bin_inv {G : List Int → Prop} {fire : List Int → Nat → Option (List Int)} {T : Nat} (hfire : ∀ x, G x → ∀ j, j < T → ∀ y, fire x j = some y → G y) {i : Nat} : ∀ (d : Nat) {s s' : BS}, d ≤ T → BInv G s → i < s.L.length → bin fire T i d s = some s' →
    BInv G s' ∧ (∃ r, s'.L = s.L ++ r) ∧ ∀ j, T - d ≤ j → j < T → ∀ y, fire (s.L.getD i []) j = some y → y ∈ s'.L
  | 0, s, s', _, hI, _, h => by obtain rfl := Option.some.inj h; exact ⟨hI, ⟨[], by simp⟩, fun j h1 h2 => absurd h1 (by omega)⟩
  | d + 1, s, s', hd, hI, hi, h => by
    obtain ⟨s1, h1, h2⟩ := Option.bind_eq_some_iff.1 h
    obtain ⟨i1, ⟨r1, e1⟩, f1⟩ := bstep_inv hfire hI hi (by omega) h1
    obtain ⟨i2, ⟨r2, e2⟩, f2⟩ := bin_inv hfire d (by omega) i1 (by rw [e1, List.length_append]; omega) h2
    refine ⟨i2, ⟨r1 ++ r2, by rw [e2, e1, List.append_assoc]⟩, fun j hj1 hj2 y hy => ?_⟩
    by_cases hj : j = T - (d + 1)
    · subst hj; rw [e2]; exact List.mem_append_left _ (f1 y hy)
    · exact f2 j (by omega) hj2 y (by rw [e1, getD_left _ _ _ _ hi]; exact hy)
/-- all that is found: every marking's steps are in it -/
theorem bout_inv {G : List Int → Prop} {fire : List Int → Nat → Option (List Int)} {T : Nat} (hfire : ∀ x, G x → ∀ j, j < T → ∀ y, fire x j = some y → G y) : ∀ (k i : Nat) {s s' : BS}, BInv G s → (∀ a, a < i → a < s.L.length → ∀ j, j < T → ∀ y, fire (s.L.getD a []) j = some y → y ∈ s.L) → bout fire T k i s = some s' →
    BInv G s' ∧ (∃ r, s'.L = s.L ++ r) ∧ ∀ a, a < s'.L.length → ∀ j, j < T → ∀ y, fire (s'.L.getD a []) j = some y → y ∈ s'.L
  | 0, _, _, _, _, _, h => by simp [bout] at h
  | k + 1, i, s, s', hI, hc, h => by
    simp only [bout] at h
    by_cases hi : i < s.L.length
    · rw [if_pos hi] at h
      obtain ⟨s1, h1, h2⟩ := Option.bind_eq_some_iff.1 h
      obtain ⟨i1, ⟨r1, e1⟩, f1⟩ := bin_inv hfire T (Nat.le_refl _) hI hi h1
      obtain ⟨i2, ⟨r2, e2⟩, f2⟩ := bout_inv hfire k (i + 1) i1 (fun a ha hal j hj y hy => by
        by_cases hai : a = i
        · subst hai; rw [e1, getD_left _ _ _ _ hi] at hy; exact f1 j (by omega) hj y hy
        · rw [e1, getD_left _ _ _ _ (by omega)] at hy; rw [e1]; exact List.mem_append_left _ (hc a (by omega) (by omega) j hj y hy)) h2
      exact ⟨i2, ⟨r1 ++ r2, by rw [e2, e1, List.append_assoc]⟩, f2⟩
    · rw [if_neg hi] at h
      obtain rfl := Option.some.inj h
      exact ⟨hI, ⟨[], by simp⟩, fun a ha => hc a (by omega) ha⟩
theorem nodup_sub {l A : List (List Int)} (hn : l.Nodup) (hs : ∀ x ∈ l, x ∈ A) : l.length ≤ A.length := by
  induction l generalizing A with
  | nil => simp
  | cons a r ih =>
    obtain ⟨h1, h2⟩ := List.nodup_cons.1 hn
    have ha := hs a (by simp)
    have h3 := ih (A := A.erase a) h2 (fun x hx => (List.mem_erase_of_ne (by rintro rfl; exact h1 hx)).2 (hs x (by simp [hx])))
    rw [List.length_erase_of_mem ha] at h3
    have := List.length_pos_of_mem ha
    simp; omega
/-- within a closed list a search is never too long -/
theorem bin_within {G : List Int → Prop} {fire : List Int → Nat → Option (List Int)} {T : Nat} (hfire : ∀ x, G x → ∀ j, j < T → ∀ y, fire x j = some y → G y) {A : List (List Int)} (hA : A.length ≤ 400) (hcl : ∀ x ∈ A, ∀ j, j < T → ∀ y, fire x j = some y → y ∈ A) {i : Nat} : ∀ (d : Nat) {s : BS}, d ≤ T → BInv G s → i < s.L.length → (∀ x ∈ s.L, x ∈ A) →
    ∃ s', bin fire T i d s = some s' ∧ ∀ x ∈ s'.L, x ∈ A
  | 0, s, _, _, _, hs => ⟨s, rfl, hs⟩
  | d + 1, s, hd, hI, hi, hs => by
    have hm : s.L.getD i [] ∈ A := hs _ (by rw [List.getD_eq_getElem?_getD, List.getElem?_eq_getElem hi]; exact List.getElem_mem hi)
    obtain ⟨s1, h1, hs1⟩ : ∃ s1, bstep fire i s (T - (d + 1)) = some s1 ∧ ∀ x ∈ s1.L, x ∈ A := by
      unfold bstep
      cases hf : fire (s.L.getD i []) (T - (d + 1)) with
      | none => exact ⟨s, rfl, hs⟩
      | some y =>
        have hy := hcl _ hm _ (by omega) y hf
        by_cases c : y ∈ s.L
        · exact ⟨s, by simp only [if_pos c], hs⟩
        · have hnd : (y :: s.L).Nodup := List.nodup_cons.2 ⟨c, hI.nd⟩
          have hle := nodup_sub hnd (A := A) (fun x hx => by rcases List.mem_cons.1 hx with h2 | h2; exact h2 ▸ hy; exact hs x h2)
          rw [List.length_cons] at hle
          refine ⟨_, by simp only [if_neg c, if_neg (show ¬ s.L.length = 400 by omega)]; rfl, fun x hx => ?_⟩
          rcases List.mem_append.1 hx with h2 | h2
          · exact hs x h2
          · rw [List.mem_singleton] at h2; subst h2; exact hy
    obtain ⟨i1, ⟨r1, e1⟩, -⟩ := bstep_inv hfire hI hi (by omega) h1
    obtain ⟨s2, h2, hs2⟩ := bin_within (i := i) hfire hA hcl d (by omega) i1 (by rw [e1, List.length_append]; omega) hs1
    exact ⟨s2, by simp only [bin, h1, Option.bind_some, h2], hs2⟩
theorem bout_within {G : List Int → Prop} {fire : List Int → Nat → Option (List Int)} {T : Nat} (hfire : ∀ x, G x → ∀ j, j < T → ∀ y, fire x j = some y → G y) {A : List (List Int)} (hA : A.length ≤ 400) (hcl : ∀ x ∈ A, ∀ j, j < T → ∀ y, fire x j = some y → y ∈ A) : ∀ (k i : Nat) {s : BS}, BInv G s → (∀ x ∈ s.L, x ∈ A) → 402 ≤ k + i → i ≤ s.L.length → ∃ s', bout fire T k i s = some s' ∧ ∀ x ∈ s'.L, x ∈ A
  | 0, i, s, hI, _, hk, hi => absurd hI.hi (by omega)
  | k + 1, i, s, hI, hs, hk, hi => by
    simp only [bout]
    by_cases c : i < s.L.length
    · rw [if_pos c]
      obtain ⟨s1, h1, hs1⟩ := bin_within hfire hA hcl T (Nat.le_refl _) hI c hs
      obtain ⟨i1, ⟨r1, e1⟩, -⟩ := bin_inv hfire T (Nat.le_refl _) hI c h1
      obtain ⟨s2, h2, hs2⟩ := bout_within hfire hA hcl k (i + 1) i1 hs1 (by omega) (by rw [e1, List.length_append]; omega)
      exact ⟨s2, by rw [h1]; exact h2, hs2⟩
    · rw [if_neg c]; exact ⟨s, rfl, hs⟩

theorem pad8_inj {a b : List Int} (h : a.length = b.length) (h8 : a.length ≤ 8) (he : pad8 a = pad8 b) : a = b := by
  unfold pad8 at he
  have h1 := congrArg (List.take a.length) he
  rw [List.take_take, List.take_take, Nat.min_eq_left h8, List.take_left' rfl, List.take_left' h.symm] at h1
  exact h1
def toMF (s : BS) : List (List Int) × List Int × List Int := (s.L, s.F, s.S)
theorem pad8_contains {n : Nat} (hn : n ≤ 8) {L : List (List Int)} (hL : ∀ x ∈ L, x.length = n) {y : List Int} (hy : y.length = n) : (L.map pad8).contains (pad8 y) = true ↔ y ∈ L := by
  rw [List.contains_iff_mem, List.mem_map]
  constructor
  · rintro ⟨x, hx, he⟩
    rw [← pad8_inj (by rw [hL x hx, hy]) (by rw [hL x hx]; exact hn) he]
    exact hx
  · intro h
    exact ⟨y, h, rfl⟩
theorem mfIn_eq {G : List Int → Prop} {n T : Nat} {fired : List Int → Int → Option (List Int × Bool)} {fire : List Int → Nat → Option (List Int)} (hn : n ≤ 8) (hG : ∀ x, G x → x.length = n) (hGw : ∀ x, G x → wf8b x = true) (hfire : ∀ x, G x → ∀ j, j < T → ∀ y, fire x j = some y → G y)
    (hf : ∀ x, G x → ∀ j : Nat, j < T → ∃ y b, fired x (j : Int) = some (y, b) ∧ fire x j = if b = true then some y else none) {i : Nat} : ∀ (d : Nat) {s : BS}, d ≤ T → BInv G s → i < s.L.length → mfIn fired T i d s.L s.F s.S = some ((bin fire T i d s).map toMF)
  | 0, s, _, _, _ => rfl
  | d + 1, s, hd, hI, hi => by
    have hg : G (s.L.getD i []) := hI.g _ (by rw [List.getD_eq_getElem?_getD, List.getElem?_eq_getElem hi]; exact List.getElem_mem hi)
    obtain ⟨y, b, h1, h2⟩ := hf _ hg (T - (d + 1)) (by omega)
    have hr := fun s1 (h : bstep fire i s (T - (d + 1)) = some s1) => (bstep_inv hfire hI hi (by omega) h)
    simp only [mfIn, bin]
    rw [h1]
    simp only [Option.bind_some]
    cases b with
    | false =>
      rw [if_neg (by decide)] at h2 ⊢
      have h3 : bstep fire i s (T - (d + 1)) = some s := by unfold bstep; rw [h2]
      rw [h3]
      exact mfIn_eq hn hG hGw hfire hf d (by omega) hI hi
    | true =>
      rw [if_pos rfl] at h2 ⊢
      have hy : G y := hfire _ hg _ (by omega) y h2
      rw [if_pos (hGw y hy)]
      have hc := pad8_contains hn (fun x hx => hG x (hI.g x hx)) (hG y hy)
      by_cases c : y ∈ s.L
      · rw [if_pos (hc.2 c)]
        have h3 : bstep fire i s (T - (d + 1)) = some s := by unfold bstep; rw [h2]; simp only [if_pos c]
        rw [h3]
        exact mfIn_eq hn hG hGw hfire hf d (by omega) hI hi
      · rw [if_neg (fun h => c (hc.1 h))]
        by_cases c4 : s.L.length = 400
        · rw [if_pos c4]
          have h3 : bstep fire i s (T - (d + 1)) = none := by unfold bstep; rw [h2]; simp only [if_neg c, if_pos c4]
          rw [h3]; rfl
        · rw [if_neg c4]
          have h3 : bstep fire i s (T - (d + 1)) = some ⟨s.L ++ [y], s.F ++ [(i : Int)], s.S ++ [((T - (d + 1) : Nat) : Int)], s.B ++ [s.B.getD i [] ++ [((T - (d + 1) : Nat) : Int)]]⟩ := by unfold bstep; rw [h2]; simp only [if_neg c, if_neg c4]
          obtain ⟨i1, -, -⟩ := hr _ h3
          rw [h3]
          exact mfIn_eq hn hG hGw hfire hf d (by omega) i1 (by show i < (s.L ++ [y]).length; rw [List.length_append]; omega)
theorem mfOut_eq {G : List Int → Prop} {n T : Nat} {fired : List Int → Int → Option (List Int × Bool)} {fire : List Int → Nat → Option (List Int)} (hn : n ≤ 8) (hG : ∀ x, G x → x.length = n) (hGw : ∀ x, G x → wf8b x = true) (hfire : ∀ x, G x → ∀ j, j < T → ∀ y, fire x j = some y → G y)
    (hf : ∀ x, G x → ∀ j : Nat, j < T → ∃ y b, fired x (j : Int) = some (y, b) ∧ fire x j = if b = true then some y else none) : ∀ (k i : Nat) {s : BS}, BInv G s → i ≤ s.L.length → 402 ≤ k + i → mfOut fired T k i s.L s.F s.S = some ((bout fire T k i s).map toMF)
  | 0, i, s, hI, hi, hk => absurd hI.hi (by omega)
  | k + 1, i, s, hI, hi, hk => by
    simp only [mfOut, bout]
    by_cases c : i < s.L.length
    · rw [if_pos c, if_pos c, mfIn_eq hn hG hGw hfire hf T (Nat.le_refl _) hI c]
      cases hb : bin fire T i T s with
      | none => rfl
      | some s1 =>
        obtain ⟨i1, ⟨r, e⟩, -⟩ := bin_inv hfire T (Nat.le_refl _) hI c hb
        exact mfOut_eq hn hG hGw hfire hf k (i + 1) i1 (by rw [e, List.length_append]; omega) (by omega)
    · rw [if_neg c, if_neg c]; rfl

theorem mrow_at (l : List (List Int)) (j : Nat) : rd_L1 l (j : Int) = l.getD j [] := by unfold rd_L1; rw [Int.toNat_natCast]
theorem same_loop (a b : List Int) (hn : a.length ≤ 1048576) (hab : a.length = b.length) (d : Nat) : ∀ (k j : Nat), j ≤ a.length → a.length - j = d → d < k →
    spec_l3Same.l0 k a b a.length j = some (decide (a.drop j = b.drop j)) := by
  induction d with
  | zero =>
    intro k j hj hd hk
    obtain ⟨k, rfl⟩ : ∃ m, k = m + 1 := ⟨k - 1, by omega⟩
    simp only [spec_l3Same.l0]; rw [if_neg (by omega), List.drop_of_length_le (by omega), List.drop_of_length_le (by omega)]; simp
  | succ d ih =>
    intro k j hj hd hk
    obtain ⟨k, rfl⟩ : ∃ m, k = m + 1 := ⟨k - 1, by omega⟩
    simp only [spec_l3Same.l0]; rw [if_pos (by omega), if_pos (by omega), if_pos (by omega), if_pos (by omega), wrap_next (n := a.length) (by omega) (by omega), rd_at, rd_at, drop_at a j (by omega), drop_at b j (by omega)]
    by_cases h : a.getD j 0 = b.getD j 0
    · rw [if_pos h, ih k (j + 1) (by omega) (by omega) (by omega)]; simp only [List.cons.injEq, h, true_and]
    · rw [if_neg h]; simp only [List.cons.injEq, h, false_and, decide_false]
theorem same_eq (a b : List Int) (hn : a.length ≤ 1048576) (k : Nat) (hk : a.length < k) : spec_l3Same.f k a b = some (decide (a = b)) := by
  unfold spec_l3Same.f
  by_cases h : a.length = b.length
  · rw [if_pos (by omega)]
    have := same_loop a b hn h a.length k 0 (by omega) (by omega) hk
    simpa using this
  · rw [if_neg (by omega), decide_eq_false (fun e => h (by rw [e]))]
/-- the number of the first row that is such a one; -1: none -/
def idxOf (y : List Int) : List (List Int) → Int → Int
  | [], _ => -1
  | x :: l, j => if x = y then j else idxOf y l (j + 1)
theorem idxOf_or (y : List Int) : ∀ (l : List (List Int)) (j : Int), 0 ≤ j → (y ∈ l ∧ j ≤ idxOf y l j ∧ idxOf y l j < j + l.length ∧ l.getD (idxOf y l j - j).toNat [] = y) ∨ (y ∉ l ∧ idxOf y l j = -1)
  | [], j, _ => .inr ⟨by simp, rfl⟩
  | x :: l, j, hj => by
    unfold idxOf
    by_cases h : x = y
    · rw [if_pos h]; exact .inl ⟨by simp [h], Int.le_refl _, by simp; omega, by simp [h]⟩
    · rw [if_neg h]
      rcases idxOf_or y l (j + 1) (by omega) with ⟨h1, h2, h3, h4⟩ | ⟨h1, h2⟩
      · refine .inl ⟨List.mem_cons_of_mem _ h1, by omega, by simp only [List.length_cons]; omega, ?_⟩
        rw [show (idxOf y l (j + 1) - j).toNat = (idxOf y l (j + 1) - (j + 1)).toNat + 1 by omega]
        exact h4
      · refine .inr ⟨?_, h2⟩
        rw [List.mem_cons]
        rintro (h3 | h3)
        · exact h h3.symm
        · exact h1 h3
theorem at_loop (y : List Int) (L : List (List Int)) (hn : L.length ≤ 1048576) (hs : ∀ x ∈ L, x.length ≤ 1048576) (d : Nat) : ∀ (k j : Nat), j ≤ L.length → L.length - j = d → d + 1048576 < k →
    spec_l3At.l0 k y L L.length j = some (idxOf y (L.drop j) j) := by
  induction d with
  | zero =>
    intro k j hj hd hk
    obtain ⟨k, rfl⟩ : ∃ m, k = m + 1 := ⟨k - 1, by omega⟩
    simp only [spec_l3At.l0]; rw [if_neg (by omega), List.drop_of_length_le (by omega)]; rfl
  | succ d ih =>
    intro k j hj hd hk
    obtain ⟨k, rfl⟩ : ∃ m, k = m + 1 := ⟨k - 1, by omega⟩
    have hjl : j < L.length := by omega
    have hm : L.getD j [] ∈ L := by rw [List.getD_eq_getElem?_getD, List.getElem?_eq_getElem hjl]; exact List.getElem_mem hjl
    have hd : L.drop j = L.getD j [] :: L.drop (j + 1) := by rw [List.drop_eq_getElem_cons hjl, List.getD_eq_getElem?_getD, List.getElem?_eq_getElem hjl]; rfl
    simp only [spec_l3At.l0]
    rw [if_pos (by omega), if_pos (by omega), if_pos (by omega), mrow_at, same_eq _ _ (hs _ hm) k (by have := hs _ hm; omega), hd]
    simp only [Option.bind_some, decide_eq_true_eq, idxOf]
    by_cases h : L.getD j [] = y
    · rw [if_pos h, if_pos h]
    · rw [if_neg h, if_neg h, wrap_next (n := L.length) hjl (by omega)]
      exact ih k (j + 1) (by omega) (by omega) (by omega)
theorem at_eq (y : List Int) (L : List (List Int)) (hn : L.length ≤ 1048576) (hs : ∀ x ∈ L, x.length ≤ 1048576) (k : Nat) (hk : 2097152 < k) : spec_l3At.f k L y = some (idxOf y L 0) := by
  unfold spec_l3At.f
  exact at_loop y L hn hs L.length k 0 (by omega) (by omega) (by omega)
/-- a marking of a net -/
def MG (n : Int) (x : List Int) : Prop := (x.length : Int) = n ∧ InR 0 9 x
/-- what a step makes of a marking; none: it cannot fire -/
def fireO (n : Int) (st : List S60) (x : List Int) (j : Nat) : Option (List Int) := match net_fired.f n st x (j : Int) with
  | some (y, true) => some y
  | _ => none
theorem fireO_both (n : Int) (st : List S60) (hs : ∀ x ∈ st, Short x) (hnet : netOk n st = true) (x : List Int) (hx : MG n x) (j : Nat) (hj : j < st.length) :
    (∃ y b, net_fired.f n st x (j : Int) = some (y, b) ∧ fireO n st x j = if b = true then some y else none) ∧
    (∀ y, fireO n st x j = some y → MG n y ∧ Ev (fun k => spec_l3Fire.f k (st.getD j z60).f0 (st.getD j z60).f1 x) (y, true)) ∧
    (fireO n st x j = none → Ev (fun k => spec_l3Fire.f k (st.getD j z60).f0 (st.getD j z60).f1 x) ([], false)) := by
  obtain ⟨hn8, hf, hg⟩ := step_within n st x hnet hx.1 j hj
  obtain ⟨b, y, y', hE, hfi, hb1, hb2⟩ := fire_both n st x j hj (hs _ (getD_mem z60 st j hj)) hn8 hx.1 hx.2 hf hg
  have hO : fireO n st x j = if b = true then some y' else none := by
    unfold fireO; rw [hfi]; cases b <;> rfl
  refine ⟨⟨y', b, hfi, hO⟩, fun z hz => ?_, fun hz => ?_⟩
  · cases b with
    | true =>
      obtain ⟨e1, e2, e3⟩ := hb1 rfl
      rw [hO, if_pos rfl] at hz
      obtain rfl := Option.some.inj hz
      rw [e1]
      exact ⟨⟨by have := hx.1; omega, e3⟩, hE⟩
    | false => rw [hO, if_neg (by decide)] at hz; cases hz
  · cases b with
    | true => rw [hO, if_pos rfl] at hz; cases hz
    | false => rw [hb2 rfl] at hE; exact hE
theorem by_short {G : List Int → Prop} {s : BS} (hI : BInv G s) : ∀ (m a : Nat), a ≤ m → a < s.L.length → (s.B.getD a []).length ≤ a
  | 0, a, hm, ha => by
    obtain rfl : a = 0 := by omega
    rw [hI.b0]; simp
  | m + 1, a, hm, ha => by
    by_cases h0 : a = 0
    · subst h0; rw [hI.b0]; simp
    · obtain ⟨h1, h2, h3⟩ := hI.f a ha h0
      have h4 := by_short hI m (s.F.getD a 0).toNat (by omega) (by omega)
      rw [h3, List.length_append, List.length_singleton]
      omega
theorem MG.short {n : Int} (hn : n ≤ 8) {x : List Int} (h : MG n x) : x.length ≤ 1048576 := by have := h.1; omega
/-- a round of the reference's search -/
theorem from_in (n : Int) (st : List S60) (hst : st.length ≤ 1048576) (hs : ∀ x ∈ st, Short x) (hnet : netOk n st = true) (i : Nat) : ∀ (d : Nat) (s : BS), d ≤ st.length → BInv (MG n) s → i < s.L.length →
    (∀ s', bin (fireO n st) st.length i d s = some s' → ∀ r, Ev (fun k => spec_l3From.l0 k s'.L s'.B ((i + 1 : Nat) : Int) n st) r → Ev (fun k => spec_l3From.l1 k s.L s.B i st st.length ((st.length - d : Nat) : Int) n st) r) ∧
    (bin (fireO n st) st.length i d s = none → Ev (fun k => spec_l3From.l1 k s.L s.B i st st.length ((st.length - d : Nat) : Int) n st) ([], [], false))
  | 0, s, _, hI, hi => by
    refine ⟨fun s' h r hr => ?_, fun h => by cases h⟩
    obtain rfl := Option.some.inj h
    refine Ev.step (fun k => ?_) hr
    simp only [spec_l3From.l1]
    rw [if_neg (by omega), wrap_next (n := s.L.length) hi (by have := hI.hi; omega)]
  | d + 1, s, hd, hI, hi => by
    obtain ⟨j, hj⟩ : ∃ j, j = st.length - (d + 1) := ⟨_, rfl⟩
    have hjl : j < st.length := by omega
    have hx : MG n (s.L.getD i []) := hI.g _ (by rw [List.getD_eq_getElem?_getD, List.getElem?_eq_getElem hi]; exact List.getElem_mem hi)
    have hnn : 1 ≤ n ∧ n ≤ 8 := (step_within n st _ hnet hx.1 j hjl).1
    have hfire : ∀ x, MG n x → ∀ j, j < st.length → ∀ y, fireO n st x j = some y → MG n y := fun x hx j hj y hy => ((fireO_both n st hs hnet x hx j hj).2.1 y hy).1
    obtain ⟨-, hy1, hy2⟩ := fireO_both n st hs hnet _ hx j hjl
    have h400 := hI.hi
    -- the step's call
    have hgo : ∀ (y : List Int) (b c : Bool) (r : List (List Int) × List (List Int) × Bool), Ev (fun k => spec_l3Fire.f k (st.getD j z60).f0 (st.getD j z60).f1 (s.L.getD i [])) (y, b) → c = (if b = true then decide (idxOf y s.L 0 ≥ 0) else true) →
        Ev (fun k => spec_l3From.j2 k s.L s.B i j y st st.length j c n st) r → Ev (fun k => spec_l3From.l1 k s.L s.B i st st.length (j : Int) n st) r := by
      intro y b c r ⟨K1, hK1⟩ hc ⟨K2, hK2⟩
      refine ⟨K1 + K2 + 2097153 + 1, fun k hk => ?_⟩
      obtain ⟨k, rfl⟩ : ∃ m, k = m + 1 := ⟨k - 1, by omega⟩
      have h1 : spec_l3Fire.f k (st.getD j z60).f0 (st.getD j z60).f1 (s.L.getD i []) = some (y, b) := hK1 k (by omega)
      have h2 : spec_l3From.j2 k s.L s.B i j y st st.length j c n st = some r := hK2 k (by omega)
      show spec_l3From.l1 (k + 1) s.L s.B i st st.length (j : Int) n st = some r
      simp only [spec_l3From.l1]
      rw [if_pos (by omega), if_pos (by omega), if_pos (by omega), if_pos (by omega), if_pos (by omega), rd60_at, mrow_at, h1]
      simp only [Option.bind_some]
      cases b with
      | true =>
        rw [if_pos rfl] at hc
        rw [if_pos rfl, at_eq y s.L (by omega) (fun x hx => (hI.g x hx).short hnn.2) k (by omega)]
        simp only [Option.bind_some]
        rw [← hc]; exact h2
      | false =>
        rw [if_neg (by decide)] at hc
        rw [if_neg (by decide), ← hc]; exact h2
    -- on to the next step
    have hnext : ∀ (y : List Int) (r : List (List Int) × List (List Int) × Bool), Ev (fun k => spec_l3From.l1 k s.L s.B i st st.length ((st.length - d : Nat) : Int) n st) r → Ev (fun k => spec_l3From.j2 k s.L s.B i j y st st.length j true n st) r := by
      intro y r hr
      refine Ev.step (fun k => ?_) hr
      simp only [spec_l3From.j2]
      rw [if_pos trivial, wrap_next (n := st.length) hjl (by omega), show j + 1 = st.length - d by omega]
    have hin := from_in n st hst hs hnet i d
    simp only [bin]
    rw [← hj]
    cases hf : fireO n st (s.L.getD i []) j with
    | none =>
      have hb : bstep (fireO n st) i s j = some s := by unfold bstep; rw [hf]
      rw [hb]
      simp only [Option.bind_some]
      obtain ⟨g1, g2⟩ := hin s (by omega) hI hi
      exact ⟨fun s' h r hr => hgo [] false true r (hy2 hf) (by simp) (hnext _ _ (g1 s' h r hr)), fun h => hgo [] false true _ (hy2 hf) (by simp) (hnext _ _ (g2 h))⟩
    | some y =>
      obtain ⟨hyG, hyE⟩ := hy1 y hf
      by_cases hm : y ∈ s.L
      · have hb : bstep (fireO n st) i s j = some s := by unfold bstep; rw [hf]; simp only [if_pos hm]
        rw [hb]
        simp only [Option.bind_some]
        have hc : true = (if true = true then decide (idxOf y s.L 0 ≥ 0) else true) := by
          rcases idxOf_or y s.L 0 (by omega) with ⟨_, h2, _⟩ | ⟨h1, _⟩
          · rw [if_pos rfl, decide_eq_true (by omega)]
          · exact absurd hm h1
        obtain ⟨g1, g2⟩ := hin s (by omega) hI hi
        exact ⟨fun s' h r hr => hgo y true true r hyE hc (hnext _ _ (g1 s' h r hr)), fun h => hgo y true true _ hyE hc (hnext _ _ (g2 h))⟩
      · have hc : false = (if true = true then decide (idxOf y s.L 0 ≥ 0) else true) := by
          rcases idxOf_or y s.L 0 (by omega) with ⟨h1, _⟩ | ⟨_, h2⟩
          · exact absurd h1 hm
          · rw [if_pos rfl, decide_eq_false (by omega)]
        by_cases h4 : s.L.length = 400
        · have hb : bstep (fireO n st) i s j = none := by unfold bstep; rw [hf]; simp only [if_neg hm, if_pos h4]
          rw [hb, Option.bind_none]
          refine ⟨fun s' h => (by cases h), fun _ => hgo y true false _ hyE hc (Ev.step (f := fun _ => some ([], [], false)) (fun k => ?_) (Ev.now _))⟩
          simp only [spec_l3From.j2]
          rw [if_neg (by decide), if_pos (by omega)]
        · have hb : bstep (fireO n st) i s j = some ⟨s.L ++ [y], s.F ++ [(i : Int)], s.S ++ [(j : Int)], s.B ++ [s.B.getD i [] ++ [(j : Int)]]⟩ := by unfold bstep; rw [hf]; simp only [if_neg hm, if_neg h4]
          obtain ⟨i1, -, -⟩ := bstep_inv hfire hI hi hjl hb
          rw [hb]
          simp only [Option.bind_some]
          have hbl := by_short hI i i (Nat.le_refl _) hi
          have hadd : ∀ r, Ev (fun k => spec_l3From.l1 k (s.L ++ [y]) (s.B ++ [s.B.getD i [] ++ [(j : Int)]]) i st st.length ((st.length - d : Nat) : Int) n st) r → Ev (fun k => spec_l3From.j2 k s.L s.B i j y st st.length j false n st) r := by
            intro r hr
            refine Ev.step (fun k => ?_) hr
            have hlB := hI.lB
            simp only [spec_l3From.j2]
            rw [if_neg (by decide), if_neg (by omega), if_pos (by omega)]
            simp only [Option.bind_some, List.nil_append, List.length_nil]
            rw [if_pos (by omega), if_pos (by omega), mrow_at, if_pos (by omega)]
            try simp only [Option.bind_some]
            rw [if_pos (by omega), if_pos (by omega), wrap_next (n := st.length) hjl (by omega), show j + 1 = st.length - d by omega]
          obtain ⟨g1, g2⟩ := hin _ (by omega) i1 (by show i < (s.L ++ [y]).length; rw [List.length_append]; omega)
          exact ⟨fun s' h r hr => hgo y true false r hyE hc (hadd r (g1 s' h r hr)), fun h => hgo y true false _ hyE hc (hadd _ (g2 h))⟩
/-- the reference's search -/
theorem from_out (n : Int) (st : List S60) (hst : st.length ≤ 1048576) (hs : ∀ x ∈ st, Short x) (hnet : netOk n st = true) : ∀ (k0 i : Nat) (s : BS), BInv (MG n) s → i ≤ s.L.length → 402 ≤ k0 + i →
    Ev (fun k => spec_l3From.l0 k s.L s.B i n st) (match bout (fireO n st) st.length k0 i s with | some s' => (s'.L, s'.B, true) | none => ([], [], false))
  | 0, i, s, hI, hi, hk => absurd hI.hi (by omega)
  | k0 + 1, i, s, hI, hi, hk => by
    have hfire : ∀ x, MG n x → ∀ j, j < st.length → ∀ y, fireO n st x j = some y → MG n y := fun x hx j hj y hy => ((fireO_both n st hs hnet x hx j hj).2.1 y hy).1
    simp only [bout]
    by_cases c : i < s.L.length
    · rw [if_pos c]
      obtain ⟨g1, g2⟩ := from_in n st hst hs hnet i st.length s (Nat.le_refl _) hI c
      have hst0 : ∀ r, Ev (fun k => spec_l3From.l1 k s.L s.B i st st.length ((st.length - st.length : Nat) : Int) n st) r → Ev (fun k => spec_l3From.l0 k s.L s.B i n st) r := by
        intro r hr
        refine Ev.step (fun k => ?_) hr
        simp only [spec_l3From.l0]
        rw [if_pos (by omega), Nat.sub_self]; rfl
      cases hb : bin (fireO n st) st.length i st.length s with
      | none => exact hst0 _ (g2 hb)
      | some s1 =>
        obtain ⟨i1, ⟨r, e⟩, -⟩ := bin_inv hfire st.length (Nat.le_refl _) hI c hb
        exact hst0 _ (g1 s1 hb _ (from_out n st hst hs hnet k0 (i + 1) s1 i1 (by rw [e, List.length_append]; omega) (by omega)))
    · rw [if_neg c]
      refine Ev.step (f := fun _ => some (s.L, s.B, true)) (fun k => ?_) (Ev.now _)
      simp only [spec_l3From.l0]
      rw [if_neg (by omega)]
def searchO (n : Int) (st : List S60) (m : List Int) : Option BS := bout (fireO n st) st.length 402 0 ⟨[m], [-1], [-1], [[]]⟩
theorem spec_from (n : Int) (st : List S60) (hst : st.length ≤ 1048576) (hs : ∀ x ∈ st, Short x) (hnet : netOk n st = true) (m : List Int) (hm : MG n m) :
    Ev (fun k => spec_l3From.f k n st m) (match searchO n st m with | some s' => (s'.L, s'.B, true) | none => ([], [], false)) := by
  refine Ev.congr (fun k => ?_) (from_out n st hst hs hnet 402 0 ⟨[m], [-1], [-1], [[]]⟩ (BInv.first hm) (by simp) (by omega))
  have hn8 : n ≤ 8 := by unfold netOk at hnet; simp only [Bool.and_eq_true, decide_eq_true_eq] at hnet; exact hnet.1.2
  have hl := hm.1
  unfold spec_l3From.f
  simp only [Option.bind_some, List.nil_append, List.length_nil]
  rw [if_pos (by omega)]; rfl
theorem MG.wf {n : Int} {x : List Int} (h : MG n x) : wf8b x = true := by
  unfold wf8b
  rw [List.all_eq_true]
  intro a ha
  obtain ⟨i, hi, rfl⟩ := List.getElem_of_mem ha
  have h1 := h.2 i hi
  rw [List.getD_eq_getElem?_getD, List.getElem?_eq_getElem hi] at h1
  simp only [Option.getD_some] at h1
  have h2 : (x[i] = 0 ∨ x[i] = 1 ∨ x[i] = 2 ∨ x[i] = 3 ∨ x[i] = 4 ∨ x[i] = 5 ∨ x[i] = 6 ∨ x[i] = 7 ∨ x[i] = 8 ∨ x[i] = 9) := by omega
  rcases h2 with h2 | h2 | h2 | h2 | h2 | h2 | h2 | h2 | h2 | h2 <;> rw [h2] <;> decide
/-- the program's search -/
theorem impl_from (n : Int) (st : List S60) (hst : st.length ≤ 1000000) (hs : ∀ x ∈ st, Short x) (hnet : netOk n st = true) (m : List Int) (hm : MG n m) : impl_marksFrom.f n st m = some ((searchO n st m).map toMF) := by
  have hn8 : 1 ≤ n ∧ n ≤ 8 := by unfold netOk at hnet; simp only [Bool.and_eq_true, decide_eq_true_eq] at hnet; exact hnet.1
  unfold impl_marksFrom.f
  rw [if_pos ⟨hm.wf, hst⟩]
  exact mfOut_eq (n := n.toNat) (G := MG n) (fire := fireO n st) (by omega) (fun x hx => by have := hx.1; omega) (fun x hx => hx.wf) (fun x hx j hj y hy => ((fireO_both n st hs hnet x hx j hj).2.1 y hy).1) (fun x hx j hj => (fireO_both n st hs hnet x hx j hj).1) 402 0 (s := ⟨[m], [-1], [-1], [[]]⟩) (BInv.first hm) (by simp) (by omega)

/-- the marking with one token in the last place -/
def endOf (n : Int) : List Int := (List.replicate n.toNat 0).set (n - 1).toNat 1
theorem endOf_length (n : Int) : (endOf n).length = n.toNat := by unfold endOf; simp
theorem spec_one (n : Int) (h : 1 ≤ n ∧ n ≤ 8) : spec_l3One.f n (wrap64 (n - 1)) = some (endOf n) := by
  unfold spec_l3One.f
  rw [wrap_small (by omega) (by omega), if_pos (by omega), if_pos (by omega)]
  simp only [Option.bind_some, List.length_replicate]
  rw [if_pos (by omega), if_pos (by omega)]; rfl
theorem impl_one (n : Int) (h : 1 ≤ n ∧ n ≤ 8) : impl_single.f n (wrap64 (n - 1)) = some (endOf n) := by
  unfold impl_single.f
  rw [wrap_small (by omega) (by omega), if_pos (by omega), if_pos (by omega)]
  simp only [Option.bind_some, List.length_replicate]
  rw [if_pos (by omega), if_pos (by omega)]; rfl
theorem equalI_loop (a b : List Int) (hn : a.length ≤ 1048576) (hab : a.length = b.length) (d : Nat) : ∀ (k j : Nat), j ≤ a.length → a.length - j = d → d < k →
    slices_Equal_int_int.l0 k a b a.length j = some (decide (a.drop j = b.drop j)) := by
  induction d with
  | zero =>
    intro k j hj hd hk
    obtain ⟨k, rfl⟩ : ∃ m, k = m + 1 := ⟨k - 1, by omega⟩
    simp only [slices_Equal_int_int.l0]; rw [if_neg (by omega), List.drop_of_length_le (by omega), List.drop_of_length_le (by omega)]; simp
  | succ d ih =>
    intro k j hj hd hk
    obtain ⟨k, rfl⟩ : ∃ m, k = m + 1 := ⟨k - 1, by omega⟩
    simp only [slices_Equal_int_int.l0]; rw [if_pos (by omega), if_pos (by omega), if_pos (by omega), if_pos (by omega), wrap_next (n := a.length) (by omega) (by omega), rd_at, rd_at, drop_at a j (by omega), drop_at b j (by omega)]
    by_cases h : a.getD j 0 = b.getD j 0
    · rw [if_pos h, ih k (j + 1) (by omega) (by omega) (by omega)]; simp only [List.cons.injEq, h, true_and]
    · rw [if_neg h]; simp only [List.cons.injEq, h, false_and, decide_false]
theorem equalI_eq (a b : List Int) (hn : a.length ≤ 1048576) (k : Nat) (hk : a.length < k) : slices_Equal_int_int.f k a b = some (decide (a = b)) := by
  unfold slices_Equal_int_int.f
  by_cases h : a.length = b.length
  · rw [if_pos (by omega)]
    have := equalI_loop a b hn h a.length k 0 (by omega) (by omega) hk
    simpa using this
  · rw [if_neg (by omega), decide_eq_false (fun e => h (by rw [e]))]
theorem idxO_eq (y : List Int) (k : Nat) (hk : 1048576 < k) : ∀ (L : List (List Int)) (j : Int), (∀ x ∈ L, x.length ≤ 1048576) → idxO (fun x => slices_Equal_int_int.f k x y) L j = some (idxOf y L j)
  | [], _, _ => rfl
  | x :: L, j, hs => by
    have hx := hs x List.mem_cons_self
    simp only [idxO, idxOf]
    rw [equalI_eq x y hx k (by omega)]
    simp only [Option.bind_some, decide_eq_true_eq]
    by_cases h : x = y
    · rw [if_pos h, if_pos h]
    · rw [if_neg h, if_neg h]; exact idxO_eq y k hk L (j + 1) (fun z hz => hs z (List.mem_cons_of_mem _ hz))

theorem getDB_set (x : List Bool) (p : Nat) (v : Bool) (i : Nat) (hp : p < x.length) : (x.set p v).getD i false = if i = p then v else x.getD i false := by
  by_cases h : i = p
  · subst h; rw [if_pos rfl, List.getD_eq_getElem?_getD, List.getElem?_set_self hp]; rfl
  · rw [if_neg h, List.getD_eq_getElem?_getD, List.getElem?_set_ne (fun e => h e.symm), List.getD_eq_getElem?_getD]
def firesB (n : Int) (st : List S60) (m : List Int) (j : Nat) : Bool := (fireO n st m j).isSome
theorem spFires_both (n : Int) (st : List S60) (hs : ∀ x ∈ st, Short x) (hnet : netOk n st = true) (m : List Int) (hm : MG n m) : ∀ (d : Nat) (fs : List Bool), d ≤ st.length → fs.length = st.length →
    ∃ fs', Ev (fun k => spFires k st m d fs) fs' ∧ fs'.length = st.length ∧ ∀ t, t < st.length → fs'.getD t false = if st.length - d ≤ t then (fs.getD t false || firesB n st m t) else fs.getD t false
  | 0, fs, _, hl => ⟨fs, Ev.now _, hl, fun t ht => by rw [if_neg (by omega)]⟩
  | d + 1, fs, hd, hl => by
    obtain ⟨j, hj⟩ : ∃ j, j = st.length - (d + 1) := ⟨_, rfl⟩
    have hjl : j < st.length := by omega
    obtain ⟨-, h1, h2⟩ := fireO_both n st hs hnet m hm j hjl
    obtain ⟨y, hy⟩ : ∃ y, Ev (fun k => spec_l3Fire.f k (st.getD j z60).f0 (st.getD j z60).f1 m) (y, firesB n st m j) := by
      unfold firesB
      cases hf : fireO n st m j with
      | none => exact ⟨[], h2 hf⟩
      | some y => exact ⟨y, (h1 y hf).2⟩
    obtain ⟨fs', e1, e2, e3⟩ := spFires_both n st hs hnet m hm d (fs.set j (fs.getD j false || firesB n st m j)) (by omega) (by rw [List.length_set]; exact hl)
    refine ⟨fs', ?_, e2, fun t ht => ?_⟩
    · refine Ev.congr (f := fun k => (spec_l3Fire.f k (st.getD j z60).f0 (st.getD j z60).f1 m).bind fun b => spFires k st m d (fs.set j (fs.getD j false || b.2))) (fun k => ?_) (Ev.bind hy e1)
      simp only [spFires]
      rw [← hj, rd60_at, Int.toNat_natCast]
      unfold rdOf
      rw [Int.toNat_natCast]
    · rw [e3 t ht, getDB_set _ _ _ _ (by omega)]
      by_cases c : t = j
      · subst c
        rw [if_neg (by omega), if_pos rfl, if_pos (by omega)]
      · rw [if_neg c]
        by_cases c2 : st.length - d ≤ t
        · rw [if_pos c2, if_pos (by omega)]
        · rw [if_neg c2, if_neg (by omega)]
theorem rows_both (n : Int) (st : List S60) (hst : st.length ≤ 1000000) (hs : ∀ x ∈ st, Short x) (hnet : netOk n st = true) : ∀ (L : List (List Int)) (fs : List Bool), (∀ m ∈ L, MG n m ∧ ∃ sm, searchO n st m = some sm) → fs.length = st.length →
    (∃ fs', Ev (fun k => spRows k n st (endOf n) L fs) (some fs') ∧ Ev (fun k => sndRows k n st (endOf n) L) true ∧ fs'.length = st.length ∧ ∀ t, t < st.length → fs'.getD t false = (fs.getD t false || L.any (fun m => firesB n st m t)))
    ∨ (Ev (fun k => spRows k n st (endOf n) L fs) none ∧ Ev (fun k => sndRows k n st (endOf n) L) false)
  | [], fs, _, hl => .inl ⟨fs, Ev.now _, Ev.now _, hl, fun t ht => by simp⟩
  | m :: r, fs, hL, hl => by
    have hn8 : 1 ≤ n ∧ n ≤ 8 := by unfold netOk at hnet; simp only [Bool.and_eq_true, decide_eq_true_eq] at hnet; exact hnet.1
    obtain ⟨hm, sm, hsm⟩ := hL m List.mem_cons_self
    have hml := hm.1
    have hp : 0 ≤ wrap64 (n - 1) ∧ wrap64 (n - 1) < (m.length : Int) := by rw [wrap_small (by omega) (by omega)]; omega
    obtain ⟨c, hc⟩ : ∃ c : Bool, c = (if 0 < rd m (wrap64 (n - 1)) then decide (m = endOf n) else true) := ⟨_, rfl⟩
    have hS : Ev (fun k => if 0 < rd m (wrap64 (n - 1)) then spec_l3Same.f k m (endOf n) else some true) c := by
      refine ⟨m.length + 1, fun k hk => ?_⟩
      show (if 0 < rd m (wrap64 (n - 1)) then spec_l3Same.f k m (endOf n) else some true) = some c
      rw [hc]
      by_cases h : 0 < rd m (wrap64 (n - 1))
      · rw [if_pos h, if_pos h, same_eq m _ (by omega) k (by omega)]
      · rw [if_neg h, if_neg h]
    have hE : Ev (fun k => if 0 < rd m (wrap64 (n - 1)) then slices_Equal_int_int.f k m (endOf n) else some true) c := by
      refine ⟨m.length + 1, fun k hk => ?_⟩
      show (if 0 < rd m (wrap64 (n - 1)) then slices_Equal_int_int.f k m (endOf n) else some true) = some c
      rw [hc]
      by_cases h : 0 < rd m (wrap64 (n - 1))
      · rw [if_pos h, if_pos h, equalI_eq m _ (by omega) k (by omega)]
      · rw [if_neg h, if_neg h]
    have hsp : ∀ r', Ev (fun k => if c = true then (spFires k st m st.length fs).bind fun fs' => (spec_l3From.f k n st m).bind fun q => (spec_l3At.f k q.1 (endOf n)).bind fun t => if t < 0 then some none else spRows k n st (endOf n) r fs' else some none) r' → Ev (fun k => spRows k n st (endOf n) (m :: r) fs) r' := by
      intro r' hr'
      refine Ev.congr (fun k => ?_) (Ev.bind hS (f := fun k b => if b = true then (spFires k st m st.length fs).bind fun fs' => (spec_l3From.f k n st m).bind fun q => (spec_l3At.f k q.1 (endOf n)).bind fun t => if t < 0 then some none else spRows k n st (endOf n) r fs' else some none) hr')
      simp only [spRows]
      rw [if_pos hp]
    have him : ∀ r', Ev (fun k => if c = true then (impl_marksFrom.f n st m).bind fun x => match x with | none => none | some q => (idxO (fun y => slices_Equal_int_int.f k y (endOf n)) q.1 0).bind fun j => if 0 ≤ j then sndRows k n st (endOf n) r else some false else some false) r' → Ev (fun k => sndRows k n st (endOf n) (m :: r)) r' := by
      intro r' hr'
      refine Ev.congr (fun k => ?_) (Ev.bind hE (f := fun k b => if b = true then (impl_marksFrom.f n st m).bind fun x => match x with | none => none | some q => (idxO (fun y => slices_Equal_int_int.f k y (endOf n)) q.1 0).bind fun j => if 0 ≤ j then sndRows k n st (endOf n) r else some false else some false) hr')
      simp only [sndRows]
      rw [if_pos hp]
      rfl
    cases c with
    | false => exact .inr ⟨hsp _ (Ev.now _), him _ (Ev.now _)⟩
    | true =>
      obtain ⟨fs1, f1, f2, f3⟩ := spFires_both n st hs hnet m hm st.length fs (Nat.le_refl _) hl
      have hfr := spec_from n st (by omega) hs hnet m hm
      have hif := impl_from n st hst hs hnet m hm
      rw [hsm] at hfr hif
      obtain ⟨hI, -, -⟩ := bout_inv (T := st.length) (fun x hx j hj y hy => ((fireO_both n st hs hnet x hx j hj).2.1 y hy).1) 402 0 (BInv.first hm) (fun a ha => absurd ha (by omega)) hsm
      have h400 := hI.hi
      have hx : ∀ x ∈ sm.L, x.length ≤ 1048576 := fun x hx => (hI.g x hx).short hn8.2
      have hat : Ev (fun k => spec_l3At.f k sm.L (endOf n)) (idxOf (endOf n) sm.L 0) := ⟨2097153, fun k hk => at_eq _ _ (by omega) hx k (by omega)⟩
      have hix : Ev (fun k => idxO (fun y => slices_Equal_int_int.f k y (endOf n)) sm.L 0) (idxOf (endOf n) sm.L 0) := ⟨1048577, fun k hk => idxO_eq (endOf n) k (by omega) sm.L 0 hx⟩
      have hsp2 : ∀ r', Ev (fun k => if idxOf (endOf n) sm.L 0 < 0 then some none else spRows k n st (endOf n) r fs1) r' → Ev (fun k => spRows k n st (endOf n) (m :: r) fs) r' := by
        intro r' hr'
        refine hsp r' (Ev.congr (fun k => if_pos rfl) ?_)
        exact Ev.bind f1 (f := fun k fs' => (spec_l3From.f k n st m).bind fun q => (spec_l3At.f k q.1 (endOf n)).bind fun t => if t < 0 then some none else spRows k n st (endOf n) r fs') (Ev.bind hfr (f := fun k q => (spec_l3At.f k q.1 (endOf n)).bind fun t => if t < 0 then some none else spRows k n st (endOf n) r fs1) (Ev.bind hat (f := fun k t => if t < 0 then some none else spRows k n st (endOf n) r fs1) hr'))
      have him2 : ∀ r', Ev (fun k => if 0 ≤ idxOf (endOf n) sm.L 0 then sndRows k n st (endOf n) r else some false) r' → Ev (fun k => sndRows k n st (endOf n) (m :: r)) r' := by
        intro r' hr'
        refine him r' (Ev.congr (fun k => ?_) (Ev.bind hix (f := fun k j => if 0 ≤ j then sndRows k n st (endOf n) r else some false) hr'))
        rw [if_pos rfl, hif]
        rfl
      by_cases hneg : idxOf (endOf n) sm.L 0 < 0
      · exact .inr ⟨hsp2 _ (Ev.congr (fun k => if_pos hneg) (Ev.now _)), him2 _ (Ev.congr (fun k => if_neg (by omega)) (Ev.now _))⟩
      · rcases rows_both n st hst hs hnet r fs1 (fun x hx => hL x (List.mem_cons_of_mem _ hx)) f2 with ⟨fs', g1, g2, g3, g4⟩ | ⟨g1, g2⟩
        · refine .inl ⟨fs', hsp2 _ (Ev.congr (fun k => if_neg hneg) g1), him2 _ (Ev.congr (fun k => if_pos (by omega)) g2), g3, fun t ht => ?_⟩
          rw [g4 t ht, f3 t ht, if_pos (by omega), List.any_cons, Bool.or_assoc]
        · exact .inr ⟨hsp2 _ (Ev.congr (fun k => if_neg hneg) g1), him2 _ (Ev.congr (fun k => if_pos (by omega)) g2)⟩
theorem idxO_any (p : List Int → Option Bool) (f : List Int → Bool) : ∀ (L : List (List Int)) (j : Int), 0 ≤ j → (∀ m ∈ L, p m = some (f m)) → ∃ i, idxO p L j = some i ∧ (0 ≤ i ↔ L.any f = true)
  | [], j, _, _ => ⟨-1, rfl, by simp⟩
  | x :: L, j, hj, hp => by
    have hx := hp x List.mem_cons_self
    simp only [idxO]
    rw [hx]
    simp only [Option.bind_some, List.any_cons]
    cases f x with
    | true => exact ⟨j, by rw [if_pos rfl], by simp [hj]⟩
    | false =>
      obtain ⟨i, h1, h2⟩ := idxO_any p f L (j + 1) (by omega) (fun m hm => hp m (List.mem_cons_of_mem _ hm))
      exact ⟨i, by rw [if_neg (by decide)]; exact h1, by simpa using h2⟩
theorem sndSt_both (n : Int) (st : List S60) (hs : ∀ x ∈ st, Short x) (hnet : netOk n st = true) (L : List (List Int)) (hL : ∀ m ∈ L, MG n m) : ∀ (d : Nat), d ≤ st.length → ∃ b, sndSt n st L d = some b ∧ (b = true ↔ ∀ t, st.length - d ≤ t → t < st.length → L.any (fun m => firesB n st m t) = true)
  | 0, _ => ⟨true, rfl, by simp; intro t h1 h2; omega⟩
  | d + 1, hd => by
    obtain ⟨j, hj⟩ : ∃ j, j = st.length - (d + 1) := ⟨_, rfl⟩
    obtain ⟨b, h1, h2⟩ := sndSt_both n st hs hnet L hL d (by omega)
    obtain ⟨i, h3, h4⟩ := idxO_any (fun m => (net_fired.f n st m ((st.length - (d + 1) : Nat) : Int)).bind fun q => some q.2) (fun m => firesB n st m j) L 0 (by omega) (fun m hm => by
      obtain ⟨⟨y, b, e1, e2⟩, -, -⟩ := fireO_both n st hs hnet m (hL m hm) j (by omega)
      rw [← hj, e1]
      simp only [Option.bind_some]
      unfold firesB
      rw [e2]
      cases b <;> rfl)
    simp only [sndSt]
    rw [h3]
    simp only [Option.bind_some]
    by_cases c : 0 ≤ i
    · rw [if_pos c]
      refine ⟨b, h1, h2.trans ⟨fun h t ht1 ht2 => ?_, fun h t ht1 ht2 => h t (by omega) ht2⟩⟩
      by_cases e : t = j
      · subst e; exact h4.1 c
      · exact h t (by omega) ht2
    · rw [if_neg c]
      refine ⟨false, rfl, ⟨fun h => (by cases h), fun h => absurd (h4.2 (h j (by omega) (by omega))) c⟩⟩
def startOf (n : Int) : List Int := (List.replicate n.toNat 0).set 0 1
theorem startOf_good (n : Int) (h : 1 ≤ n ∧ n ≤ 8) : MG n (startOf n) := by
  refine ⟨by unfold startOf; simp; omega, fun i hi => ?_⟩
  unfold startOf at hi ⊢
  rw [List.length_set, List.length_replicate] at hi
  rw [getD_set _ _ _ _ (by rw [List.length_replicate]; omega)]
  by_cases c : i = 0
  · rw [if_pos c]; omega
  · rw [if_neg c, List.getD_eq_getElem?_getD, List.getElem?_replicate, if_pos hi]
    simp
theorem spec_one0 (n : Int) (h : 1 ≤ n ∧ n ≤ 8) : spec_l3One.f n 0 = some (startOf n) := by
  unfold spec_l3One.f
  rw [if_pos (by omega), if_pos (by omega)]
  simp only [Option.bind_some, List.length_replicate]
  rw [if_pos (by omega), if_pos (by omega)]; rfl
theorem impl_one0 (n : Int) (h : 1 ≤ n ∧ n ≤ 8) : impl_single.f n 0 = some (startOf n) := by
  unfold impl_single.f
  rw [if_pos (by omega), if_pos (by omega)]
  simp only [Option.bind_some, List.length_replicate]
  rw [if_pos (by omega), if_pos (by omega)]; rfl
theorem all_getD (fs : List Bool) : fs.all (fun b => b) = true ↔ ∀ t, t < fs.length → fs.getD t false = true := by
  rw [List.all_eq_true]
  constructor
  · intro h t ht
    rw [List.getD_eq_getElem?_getD, List.getElem?_eq_getElem ht]
    exact h _ (List.getElem_mem ht)
  · intro h b hb
    obtain ⟨t, ht, rfl⟩ := List.getElem_of_mem hb
    have h1 := h t ht
    rw [List.getD_eq_getElem?_getD, List.getElem?_eq_getElem ht] at h1
    exact h1
theorem isSound_both (n : Int) (st : List S60) (hst : st.length ≤ 1048576) (hs : ∀ x ∈ st, Short x) : ∃ (r : Bool × Bool) (K : Nat), ∀ k, K ≤ k → spec_IsSound.f k n st = some r ∧ impl_IsSound.f k n st = some r := by
  have hspec : ∀ k, 2097160 ≤ k → spec_IsSound.f k n st = if netOk n st = true then (if n < 2 then some (false, false) else (spec_l3One.f n (wrap64 (n - 1))).bind fun e => (spec_l3One.f n 0).bind fun e0 => (spec_l3From.f k n st e0).bind fun all => if all.2.2 = true then (if all.1.length ≤ 1000000 then (spRows k n st e all.1 (List.replicate st.length false)).bind fun o => match o with | none => some (false, true) | some fs => some (fs.all (fun b => b), true) else none) else some (false, false)) else some (false, false) := by
    intro k hk
    unfold spec_IsSound.f
    rw [if_pos (by omega), spec_net n st hst hs k (by omega)]
    rfl
  have himpl : ∀ k, 2097160 ≤ k → impl_IsSound.f k n st = if netOk n st = true then (if n < 2 then some (false, false) else (impl_single.f n 0).bind fun e => (impl_marksFrom.f n st e).bind fun r => match r with | none => some (false, false) | some q => (impl_soundIn.f k n st q.1).bind fun b => some (b, true)) else some (false, false) := by
    intro k hk
    unfold impl_IsSound.f
    rw [impl_net n st hs k (by omega)]
    rfl
  by_cases hnet : netOk n st = true
  case neg => exact ⟨(false, false), 2097160, fun k hk => ⟨by rw [hspec k hk, if_neg hnet], by rw [himpl k hk, if_neg hnet]⟩⟩
  have hq := hnet
  unfold netOk at hq
  simp only [Bool.and_eq_true, decide_eq_true_eq] at hq
  by_cases h2 : n < 2
  · exact ⟨(false, false), 2097160, fun k hk => ⟨by rw [hspec k hk, if_pos hnet, if_pos h2], by rw [himpl k hk, if_pos hnet, if_pos h2]⟩⟩
  have hG := startOf_good n hq.1
  obtain ⟨K, hK⟩ := spec_from n st hst hs hnet _ hG
  have hi := impl_from n st (by omega) hs hnet _ hG
  cases hb : searchO n st (startOf n) with
  | none =>
    rw [hb] at hK hi
    refine ⟨(false, false), K + 2097160, fun k hk => ⟨?_, ?_⟩⟩
    · have h3 : spec_l3From.f k n st (startOf n) = some ([], [], false) := hK k (by omega)
      rw [hspec k (by omega), if_pos hnet, if_neg h2, spec_one n hq.1, Option.bind_some, spec_one0 n hq.1, Option.bind_some, h3]
      rfl
    · rw [himpl k (by omega), if_pos hnet, if_neg h2, impl_one0 n hq.1, Option.bind_some, hi]
      rfl
  | some s =>
    rw [hb] at hK hi
    have hfire : ∀ x, MG n x → ∀ j, j < st.length → ∀ y, fireO n st x j = some y → MG n y := fun x hx j hj y hy => ((fireO_both n st hs hnet x hx j hj).2.1 y hy).1
    obtain ⟨hI, -, hcl⟩ := bout_inv (T := st.length) hfire 402 0 (BInv.first hG) (fun a ha => absurd ha (by omega)) hb
    have h400 := hI.hi
    have hcl2 : ∀ x ∈ s.L, ∀ j, j < st.length → ∀ y, fireO n st x j = some y → y ∈ s.L := by
      intro x hx j hj y hy
      obtain ⟨a, ha, rfl⟩ := List.getElem_of_mem hx
      exact hcl a ha j hj y (by rw [List.getD_eq_getElem?_getD, List.getElem?_eq_getElem ha]; exact hy)
    have hL : ∀ m ∈ s.L, MG n m ∧ ∃ sm, searchO n st m = some sm := by
      intro m hm
      refine ⟨hI.g m hm, ?_⟩
      obtain ⟨sm, h1, -⟩ := bout_within (T := st.length) hfire hI.hi hcl2 402 0 (BInv.first (hI.g m hm)) (fun x hx => by rw [List.mem_singleton] at hx; subst hx; exact hm) (by omega) (by simp)
      exact ⟨sm, h1⟩
    have hsp : ∀ k (r : Bool × Bool), K + 2097160 ≤ k → ((spRows k n st (endOf n) s.L (List.replicate st.length false)).bind fun o => match o with | none => some (false, true) | some fs => some (fs.all (fun b => b), true)) = some r → spec_IsSound.f k n st = some r := by
      intro k r hk hr
      have h3 : spec_l3From.f k n st (startOf n) = some (s.L, s.B, true) := hK k (by omega)
      rw [hspec k (by omega), if_pos hnet, if_neg h2, spec_one n hq.1, Option.bind_some, spec_one0 n hq.1, Option.bind_some, h3]
      simp only [Option.bind_some]
      rw [if_pos trivial, if_pos (by omega)]
      exact hr
    have him : ∀ k (b : Bool), K + 2097160 ≤ k → ((sndRows k n st (endOf n) s.L).bind fun b => if b = true then sndSt n st s.L st.length else some false) = some b → impl_IsSound.f k n st = some (b, true) := by
      intro k b hk hr
      rw [himpl k (by omega), if_pos hnet, if_neg h2, impl_one0 n hq.1, Option.bind_some, hi]
      simp only [Option.map_some, Option.bind_some, toMF]
      unfold impl_soundIn.f
      rw [if_pos ⟨by omega, by omega⟩, impl_one n hq.1, Option.bind_some, hr]
      rfl
    rcases rows_both n st (by omega) hs hnet s.L (List.replicate st.length false) hL (by simp) with ⟨fs', ⟨K1, g1⟩, ⟨K2, g2⟩, g3, g4⟩ | ⟨⟨K1, g1⟩, ⟨K2, g2⟩⟩
    · obtain ⟨b, h3, h4⟩ := sndSt_both n st hs hnet s.L (fun m hm => (hL m hm).1) st.length (Nat.le_refl _)
      have hbe : fs'.all (fun b => b) = b := by
        rw [Bool.eq_iff_iff, all_getD, h4]
        constructor
        · intro h t _ ht
          have h5 := h t (by omega)
          rw [g4 t ht] at h5
          simpa [List.getD_eq_getElem?_getD, List.getElem?_replicate, ht] using h5
        · intro h t ht
          rw [g4 t (by omega), h t (by omega) (by omega), Bool.or_true]
      refine ⟨(b, true), K + K1 + K2 + 2097160, fun k hk => ⟨hsp k _ (by omega) ?_, him k b (by omega) ?_⟩⟩
      · have h5 : spRows k n st (endOf n) s.L (List.replicate st.length false) = some (some fs') := g1 k (by omega)
        rw [h5, Option.bind_some]
        show some (fs'.all (fun b => b), true) = some (b, true)
        rw [hbe]
      · have h5 : sndRows k n st (endOf n) s.L = some true := g2 k (by omega)
        rw [h5, Option.bind_some, if_pos rfl]
        exact h3
    · refine ⟨(false, true), K + K1 + K2 + 2097160, fun k hk => ⟨hsp k _ (by omega) ?_, him k false (by omega) ?_⟩⟩
      · have h5 : spRows k n st (endOf n) s.L (List.replicate st.length false) = some none := g1 k (by omega)
        rw [h5]; rfl
      · have h5 : sndRows k n st (endOf n) s.L = some false := g2 k (by omega)
        rw [h5]; rfl

/-- THE PURE STATEMENT of the law. -/
def FnExactIsSound_Pure : Prop := ∀ (a0_0 : Int) (l0_1 : (List S90)), (Lit.int .i64 a0_0).wf = true → (l0_1.length ≤ 9223372036854775807 ∧ ∀ y ∈ l0_1, ((y.f0.length ≤ 9223372036854775807 ∧ ∀ y2 ∈ y.f0, (Lit.int .i64 y2).wf = true) ∧ (y.f1.length ≤ 9223372036854775807 ∧ ∀ y2 ∈ y.f1, (Lit.int .i64 y2).wf = true))) → ∃ k, laws_FnExactIsSound.f k a0_0 l0_1 = some true

theorem FnExactIsSound : FnExactIsSound_Pure := by
  intro n l _ hl
  have hst := steps_length l
  obtain ⟨m0, hm0⟩ : ∃ m, m = 2097160 := ⟨_, rfl⟩
  by_cases hbad : ∃ r, laws_szNet.f m0 n l 1048576 = some r ∧ r < 0
  · obtain ⟨r, hs, hr⟩ := hbad
    exact ⟨m0, by unfold laws_FnExactIsSound.f; rw [hs]; simp only [Option.bind_some]; rw [if_pos hr]⟩
  have hgood : l.length ≤ 1048576 ∧ ∀ x ∈ steps l, Short x := by
    obtain ⟨r, hs, hr | ⟨hr, h, hsh⟩⟩ := szNet_eq n l hl.1 (fun y hy => ⟨(hl.2 y hy).1.1, (hl.2 y hy).2.1⟩) m0 (by omega)
    · exact (hbad ⟨r, hs, hr⟩).elim
    · exact ⟨h, hsh⟩
  obtain ⟨h, hsh⟩ := hgood
  obtain ⟨v, K, hv⟩ := isSound_both n (steps l) (by omega) hsh
  obtain ⟨m, hm⟩ : ∃ m, m = K + 2097160 := ⟨_, rfl⟩
  obtain ⟨r, hs, hr⟩ : ∃ r, laws_szNet.f m n l 1048576 = some r ∧ (r < 0 ∨ (0 ≤ r ∧ l.length ≤ 1048576 ∧ ∀ x ∈ steps l, Short x)) := szNet_eq n l hl.1 (fun y hy => ⟨(hl.2 y hy).1.1, (hl.2 y hy).2.1⟩) _ (by omega)
  refine ⟨m, ?_⟩
  unfold laws_FnExactIsSound.f
  rw [hs]; simp only [Option.bind_some]
  by_cases h5 : r < 0
  · rw [if_pos h5]
  rw [if_neg h5, toNet_eq n l h hsh _ (by omega)]; simp only [Option.bind_some]
  rw [(hv _ (by omega)).1, (hv _ (by omega)).2]; simp only [Option.bind_some]
  rw [eqNet_self n (steps l) (by omega) hsh _ (by omega)]; simp only [Option.bind_some]
  rw [if_pos (by refine ⟨?_, ?_⟩ <;> first | trivial | omega)]

end Go.Proofs.Ytnfafdlglhbijaa.Pure
