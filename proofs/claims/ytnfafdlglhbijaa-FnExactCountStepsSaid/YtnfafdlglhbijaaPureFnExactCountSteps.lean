/- The program counts steps of a net as the reference does: the law answers true. No conditions but the reach of a slice. -/
import Derived.Test.YtnfafdlglhbijaaPFnExactCountStepsx7
namespace Go.Proofs.Ytnfafdlglhbijaa.Pure
open Go.RowKit Go.Proofs.Ytnfafdlglhbijaa.PFnExactCountSteps Go.Proofs.YtnfafdlglhbijaaW.PrintWords Go.Proofs.YtnfafdlglhbijaaW.PrintLast
set_option linter.unusedVariables false
set_option linter.unusedSimpArgs false

theorem wrap_small {x : Int} (h0 : -9223372036854775808 ≤ x) (h1 : x ≤ 9223372036854775807) : wrap64 x = x := by
  unfold wrap64
  omega

theorem wrap_next {j n : Nat} (h : j < n) (hn : n ≤ 140737488351232) : wrap64 ((j : Int) + 1) = ((j + 1 : Nat) : Int) := by
  rw [wrap_small (by omega) (by omega)]; rfl

theorem rd_at (l : List Int) (j : Nat) : rd l (j : Int) = l.getD j 0 := by
  unfold rd; rw [Int.toNat_natCast]

theorem drop_at (l : List Int) (j : Nat) (h : j < l.length) : l.drop j = l.getD j 0 :: l.drop (j + 1) := by
  rw [List.drop_eq_getElem_cons h, List.getD_eq_getElem?_getD, List.getElem?_eq_getElem h]; rfl

theorem take_at (l : List Int) (j : Nat) (h : j < l.length) : l.take (j + 1) = l.take j ++ [l.getD j 0] := by
  rw [List.take_succ_eq_append_getElem h, List.getD_eq_getElem?_getD, List.getElem?_eq_getElem h]; rfl

theorem toIntS_loop (l : List Int) (hn : l.length ≤ 140737488351232) (d : Nat) : ∀ (k j : Nat) (x : List Int), x.length = l.length → x.take j = l.take j → j ≤ l.length → l.length - j = d → d < k →
    laws_toIntS.l0 k l x j = some l := by
  induction d with
  | zero =>
    intro k j x hx ht hj hd hk
    obtain ⟨k, rfl⟩ : ∃ m, k = m + 1 := ⟨k - 1, by omega⟩
    simp only [laws_toIntS.l0]; rw [if_neg (by omega)]
    rw [List.take_of_length_le (by omega), List.take_of_length_le (by omega)] at ht; rw [ht]
  | succ d ih =>
    intro k j x hx ht hj hd hk
    obtain ⟨k, rfl⟩ : ∃ m, k = m + 1 := ⟨k - 1, by omega⟩
    simp only [laws_toIntS.l0]; rw [if_pos (by omega), if_pos (by omega), if_pos (by omega), wrap_next (n := l.length) (by omega) hn, rd_at, Int.toNat_natCast]
    refine ih k (j + 1) _ (by rw [List.length_set]; exact hx) ?_ (by omega) (by omega) (by omega)
    rw [take_at l j (by omega), List.take_succ_eq_append_getElem (by rw [List.length_set]; omega), List.getElem_set_self, List.take_set_of_le (by omega), ht]

theorem toIntS_eq (l : List Int) (hn : l.length ≤ 17592186044416) (k : Nat) (hk : l.length < k) : laws_toIntS.f k l = some l := by
  unfold laws_toIntS.f
  rw [if_pos (by omega), Int.toNat_natCast, if_pos (by omega)]
  exact toIntS_loop l (by omega) l.length k 0 _ (by simp) (by simp) (by omega) (by omega) hk

theorem eqIntS_loop (a b : List Int) (hn : a.length ≤ 140737488351232) (hab : a.length = b.length) (d : Nat) : ∀ (k j : Nat), j ≤ a.length → a.length - j = d → d < k →
    laws_eqIntS.l0 k a b j = some (decide (a.drop j = b.drop j)) := by
  induction d with
  | zero =>
    intro k j hj hd hk
    obtain ⟨k, rfl⟩ : ∃ m, k = m + 1 := ⟨k - 1, by omega⟩
    simp only [laws_eqIntS.l0]; rw [if_neg (by omega), List.drop_of_length_le (by omega), List.drop_of_length_le (by omega)]; simp
  | succ d ih =>
    intro k j hj hd hk
    obtain ⟨k, rfl⟩ : ∃ m, k = m + 1 := ⟨k - 1, by omega⟩
    simp only [laws_eqIntS.l0]; rw [if_pos (by omega), if_pos (by omega), if_pos (by omega), wrap_next (n := a.length) (by omega) hn, rd_at, rd_at, drop_at a j (by omega), drop_at b j (by omega)]
    by_cases h : a.getD j 0 = b.getD j 0
    · rw [if_pos h, ih k (j + 1) (by omega) (by omega) (by omega)]; simp only [List.cons.injEq, h, true_and]
    · rw [if_neg h]; simp only [List.cons.injEq, h, false_and, decide_false]

theorem eqIntS_eq (a b : List Int) (hn : a.length ≤ 140737488351232) (k : Nat) (hk : a.length < k) : laws_eqIntS.f k a b = some (decide (a = b)) := by
  unfold laws_eqIntS.f
  by_cases h : a.length = b.length
  · rw [if_pos (by omega)]
    have := eqIntS_loop a b hn h a.length k 0 (by omega) (by omega) hk
    simpa using this
  · rw [if_neg (by omega), decide_eq_false (fun e => h (by rw [e]))]

theorem eqIntS_self (a : List Int) (hn : a.length ≤ 140737488351232) (k : Nat) (hk : a.length < k) : laws_eqIntS.f k a a = some true := by
  rw [eqIntS_eq a a hn k hk]; simp

/-- the numbers v, v + 1, .. -/
def run (v : Int) : Nat → List Int
  | 0 => []
  | n + 1 => v :: run (v + 1) n

theorem run_length (n : Nat) : ∀ v, (run v n).length = n := by
  induction n with
  | zero => intro v; rfl
  | succ n ih => intro v; simp [run, ih]

theorem markIntS_loop (d : Nat) : ∀ (k j : Nat) (v : Int) (l : List Int), l.length ≤ 140737488351232 → 0 ≤ v → v + d ≤ 1000000000000000000 → j ≤ l.length → l.length - j = d → d < k →
    laws_markIntS.l0 k l v j = some (v + d, l.take j ++ run v d) := by
  induction d with
  | zero =>
    intro k j v l hn hv0 hv1 hj hd hk
    obtain ⟨k, rfl⟩ : ∃ m, k = m + 1 := ⟨k - 1, by omega⟩
    simp only [laws_markIntS.l0]; rw [if_neg (by omega), List.take_of_length_le (by omega)]; simp [run]
  | succ d ih =>
    intro k j v l hn hv0 hv1 hj hd hk
    obtain ⟨k, rfl⟩ : ∃ m, k = m + 1 := ⟨k - 1, by omega⟩
    simp only [laws_markIntS.l0]; rw [if_pos (by omega), if_pos (by omega), wrap_next (n := l.length) (by omega) hn, wrap_small (x := v + 1) (by omega) (by omega), Int.toNat_natCast]
    rw [ih k (j + 1) (v + 1) (l.set j v) (by rw [List.length_set]; exact hn) (by omega) (by omega) (by rw [List.length_set]; omega) (by rw [List.length_set]; omega) (by omega)]
    congr 2
    · omega
    · rw [List.take_succ_eq_append_getElem (by rw [List.length_set]; omega), List.getElem_set_self, List.take_set_of_le (by omega)]; simp [run]

theorem markIntS_eq (l : List Int) (v : Int) (hn : l.length ≤ 140737488351232) (hv0 : 0 ≤ v) (hv1 : v ≤ 500000000000000000) (k : Nat) (hk : l.length < k) :
    laws_markIntS.f k l v = some (v + l.length, run v l.length) := by
  unfold laws_markIntS.f
  have := markIntS_loop l.length k 0 v l hn hv0 (by omega) (by omega) (by omega) hk
  simpa using this

theorem heldIntS_loop (d : Nat) : ∀ (k : Nat) (v : Int) (p : List Int), p.length + d ≤ 140737488351232 → 0 ≤ v → v + d ≤ 1000000000000000000 → d < k →
    laws_heldIntS.l0 k (p ++ run v d) v p.length = some (v + d) := by
  induction d with
  | zero =>
    intro k v p hn hv0 hv1 hk
    obtain ⟨k, rfl⟩ : ∃ m, k = m + 1 := ⟨k - 1, by omega⟩
    simp only [laws_heldIntS.l0]; rw [if_neg (by simp [run])]; simp
  | succ d ih =>
    intro k v p hn hv0 hv1 hk
    obtain ⟨k, rfl⟩ : ∃ m, k = m + 1 := ⟨k - 1, by omega⟩
    have hl : (p ++ run v (d + 1)).length = p.length + (d + 1) := by rw [List.length_append, run_length]
    have hg : (p ++ run v (d + 1)).getD p.length 0 = v := by simp [run]
    simp only [laws_heldIntS.l0]; rw [if_pos (by omega), if_pos (by omega), rd_at, hg, if_pos rfl, wrap_next (n := p.length + (d + 1)) (by omega) hn, wrap_small (x := v + 1) (by omega) (by omega)]
    have := ih k (v + 1) (p ++ [v]) (by simp; omega) (by omega) (by omega) (by omega)
    simp only [List.append_assoc, List.length_append, List.length_singleton, List.singleton_append] at this
    rw [show run v (d + 1) = v :: run (v + 1) d from rfl, this]
    congr 1; omega

theorem heldIntS_eq (v : Int) (n : Nat) (hn : n ≤ 140737488351232) (hv0 : 0 ≤ v) (hv1 : v ≤ 500000000000000000) (k : Nat) (hk : n < k) :
    laws_heldIntS.f k (run v n) v = some (v + n) := by
  unfold laws_heldIntS.f
  have := heldIntS_loop n k v [] (by simpa using hn) hv0 (by omega) hk
  simpa using this

theorem in_eq (a b c : Int) : impl_in.f a b c = some (decide (b ≤ a ∧ a ≤ c)) := by
  unfold impl_in.f
  by_cases h : a ≥ b
  · rw [if_pos h]; congr 1; simp only [decide_eq_decide]; omega
  · rw [if_neg h, decide_eq_false (by omega)]
theorem l1In_eq (a b c : Int) : spec_l1In.f a b c = some (decide (b ≤ a ∧ a ≤ c)) := by
  unfold spec_l1In.f
  by_cases h : a ≥ b
  · rw [if_pos h]; congr 1; simp only [decide_eq_decide]; omega
  · rw [if_neg h, decide_eq_false (by omega)]

/-- element j lies in 0..q and is above the one ahead of it -/
def riseOk (l : List Int) (q : Int) (j : Nat) : Bool := decide (0 ≤ l.getD j 0 ∧ l.getD j 0 ≤ q ∧ (0 < j → l.getD (j - 1) 0 < l.getD j 0))
def riseFrom (l : List Int) (q : Int) (j : Nat) : Nat → Bool
  | 0 => true
  | d + 1 => riseOk l q j && riseFrom l q (j + 1) d

theorem rise_round (l : List Int) (q : Int) (j : Nat) (x : Option Bool) (hn : l.length ≤ 1048576) (hj : j < l.length) :
    ((some (decide (0 ≤ l.getD j 0 ∧ l.getD j 0 ≤ q)) : Option Bool).bind fun t => (if t = true then (if (j : Int) > 0 then (if 0 ≤ (wrap64 ((j : Int) - 1)) then (if (wrap64 ((j : Int) - 1)) < (l.length : Int) then (if (rd l (wrap64 ((j : Int) - 1))) ≥ l.getD j 0 then (some false) else x) else (none)) else (none)) else x) else (some false)))
      = if riseOk l q j = true then x else some false := by
  simp only [Option.bind_some]
  by_cases h1 : 0 ≤ l.getD j 0 ∧ l.getD j 0 ≤ q
  · rw [decide_eq_true h1, if_pos rfl]
    by_cases h2 : (j : Int) > 0
    · have e : wrap64 ((j : Int) - 1) = ((j - 1 : Nat) : Int) := by rw [wrap_small (by omega) (by omega)]; omega
      rw [if_pos h2, e, if_pos (by omega), if_pos (by omega), rd_at]
      by_cases h3 : l.getD (j - 1) 0 ≥ l.getD j 0
      · rw [if_pos h3, if_neg (by unfold riseOk; simp only [decide_eq_true_eq]; intro h; have := h.2.2 (by omega); omega)]
      · rw [if_neg h3, if_pos (by unfold riseOk; simp only [decide_eq_true_eq]; exact ⟨h1.1, h1.2, fun _ => by omega⟩)]
    · rw [if_neg h2, if_pos (by unfold riseOk; simp only [decide_eq_true_eq]; exact ⟨h1.1, h1.2, fun h => by omega⟩)]
  · rw [decide_eq_false h1, if_neg (by simp), if_neg (by unfold riseOk; simp only [decide_eq_true_eq]; exact fun h => h1 ⟨h.1, h.2.1⟩)]

theorem rising_loop (l : List Int) (b : Int) (hn : l.length ≤ 1048576) (d : Nat) : ∀ (k j : Nat), j ≤ l.length → l.length - j = d → d < k →
    impl_rising.l0 k l b l l.length j = some (riseFrom l (wrap64 (b - 1)) j d) := by
  induction d with
  | zero =>
    intro k j hj hd hk
    obtain ⟨k, rfl⟩ : ∃ m, k = m + 1 := ⟨k - 1, by omega⟩
    simp only [impl_rising.l0]; rw [if_neg (by omega)]; rfl
  | succ d ih =>
    intro k j hj hd hk
    obtain ⟨k, rfl⟩ : ∃ m, k = m + 1 := ⟨k - 1, by omega⟩
    simp only [impl_rising.l0]; rw [if_pos (by omega), if_pos (by omega), if_pos (by omega), in_eq, wrap_next (n := l.length) (by omega) (by omega), rd_at, rise_round l _ j _ hn (by omega), ih k (j + 1) (by omega) (by omega) (by omega)]
    simp only [riseFrom]
    cases riseOk l (wrap64 (b - 1)) j <;> simp

theorem rising_eq (l : List Int) (b : Int) (hn : l.length ≤ 1048576) (k : Nat) (hk : l.length < k) : impl_rising.f k l b = some (riseFrom l (wrap64 (b - 1)) 0 l.length) := by
  unfold impl_rising.f
  exact rising_loop l b hn l.length k 0 (by omega) (by omega) hk

theorem l3List_loop (l : List Int) (b : Int) (hn : l.length ≤ 1048576) (d : Nat) : ∀ (k j : Nat), j ≤ l.length → l.length - j = d → d < k →
    spec_l3List.l0 k l b l l.length j = some (riseFrom l (wrap64 (b - 1)) j d) := by
  induction d with
  | zero =>
    intro k j hj hd hk
    obtain ⟨k, rfl⟩ : ∃ m, k = m + 1 := ⟨k - 1, by omega⟩
    simp only [spec_l3List.l0]; rw [if_neg (by omega)]; rfl
  | succ d ih =>
    intro k j hj hd hk
    obtain ⟨k, rfl⟩ : ∃ m, k = m + 1 := ⟨k - 1, by omega⟩
    simp only [spec_l3List.l0]; rw [if_pos (by omega), if_pos (by omega), if_pos (by omega), l1In_eq, wrap_next (n := l.length) (by omega) (by omega), rd_at, rise_round l _ j _ hn (by omega), ih k (j + 1) (by omega) (by omega) (by omega)]
    simp only [riseFrom]
    cases riseOk l (wrap64 (b - 1)) j <;> simp

theorem l3List_eq (l : List Int) (b : Int) (hn : l.length ≤ 1048576) (k : Nat) (hk : l.length < k) : spec_l3List.f k l b = some (riseFrom l (wrap64 (b - 1)) 0 l.length) := by
  unfold spec_l3List.f
  exact l3List_loop l b hn l.length k 0 (by omega) (by omega) hk

theorem rd60_at (l : List S60) (j : Nat) : rd_T60 l (j : Int) = l.getD j z60 := by unfold rd_T60; rw [Int.toNat_natCast]
theorem rd90_at (l : List S90) (j : Nat) : rd_T90 l (j : Int) = l.getD j z90 := by unfold rd_T90; rw [Int.toNat_natCast]
theorem takeS_at {α : Type} (z : α) (l : List α) (j : Nat) (h : j < l.length) : l.take (j + 1) = l.take j ++ [l.getD j z] := by
  rw [List.take_succ_eq_append_getElem h, List.getD_eq_getElem?_getD, List.getElem?_eq_getElem h]; rfl
theorem dropS_at {α : Type} (z : α) (l : List α) (j : Nat) (h : j < l.length) : l.drop j = l.getD j z :: l.drop (j + 1) := by
  rw [List.drop_eq_getElem_cons h, List.getD_eq_getElem?_getD, List.getElem?_eq_getElem h]; rfl
theorem getD_mem {α : Type} (z : α) (l : List α) (j : Nat) (h : j < l.length) : l.getD j z ∈ l := by
  rw [List.getD_eq_getElem?_getD, List.getElem?_eq_getElem h]; exact List.getElem_mem h

/-- a step's lists are short -/
def Short (x : S60) : Prop := x.f0.length ≤ 1048576 ∧ x.f1.length ≤ 1048576
/-- a step as the program has it -/
def stepOf (x : S90) : S60 := ⟨x.f0, x.f1⟩
/-- the steps as the program has them -/
def steps (l : List S90) : List S60 := l.map stepOf
theorem steps_length (l : List S90) : (steps l).length = l.length := by unfold steps; rw [List.length_map]
theorem getD_steps (l : List S90) (j : Nat) (h : j < l.length) : (steps l).getD j z60 = stepOf (l.getD j z90) := by
  unfold steps; rw [List.getD_eq_getElem?_getD, List.getElem?_map, List.getElem?_eq_getElem h, List.getD_eq_getElem?_getD, List.getElem?_eq_getElem h]; rfl

theorem szIntS_eq (l : List Int) (a : Int) (h0 : 0 ≤ a) (h1 : a ≤ 1048576) (hl : l.length ≤ 9223372036854775807) : laws_szIntS.f l a = some (if (l.length : Int) ≤ a then a - l.length else -1) := by
  unfold laws_szIntS.f; rw [wrap_small (by omega) (by omega)]
  by_cases h : (l.length : Int) ≤ a
  · rw [if_neg (by omega), if_pos h]
  · rw [if_pos (by omega), if_neg h]

theorem szStep_eq (x y : List Int) (a : Int) (h0 : 0 ≤ a) (h1 : a ≤ 1048576) (hx : x.length ≤ 9223372036854775807) (hy : y.length ≤ 9223372036854775807) :
    ∃ r, laws_szStep.f x y a = some r ∧ (r < 0 ∨ (0 ≤ r ∧ r ≤ a ∧ x.length ≤ 1048576 ∧ y.length ≤ 1048576)) := by
  unfold laws_szStep.f
  rw [szIntS_eq x a h0 h1 hx]; simp only [Option.bind_some]
  by_cases h : (x.length : Int) ≤ a
  · rw [if_pos h, if_neg (by omega), szIntS_eq y _ (by omega) (by omega) hy]; simp only [Option.bind_some]
    by_cases h2 : (y.length : Int) ≤ a - x.length
    · rw [if_pos h2, if_neg (by omega)]
      exact ⟨_, rfl, .inr ⟨by omega, by omega, by omega, by omega⟩⟩
    · rw [if_neg h2, if_pos (by omega)]
      exact ⟨_, rfl, .inl (by omega)⟩
  · rw [if_neg h, if_pos (by omega)]
    exact ⟨_, rfl, .inl (by omega)⟩

theorem szStepS_loop (l : List S90) (hn : l.length ≤ 1048576) (hy : ∀ y ∈ l, y.f0.length ≤ 9223372036854775807 ∧ y.f1.length ≤ 9223372036854775807) (d : Nat) : ∀ (k j : Nat) (a : Int), 0 ≤ a → a ≤ 1048576 → j ≤ l.length → l.length - j = d → d < k →
    ∃ r, laws_szStepS.l0 k l a j = some r ∧ (r < 0 ∨ (0 ≤ r ∧ ∀ i, j ≤ i → i < l.length → Short (stepOf (l.getD i z90)))) := by
  induction d with
  | zero =>
    intro k j a h0 h1 hj hd hk
    obtain ⟨k, rfl⟩ : ∃ m, k = m + 1 := ⟨k - 1, by omega⟩
    simp only [laws_szStepS.l0]; rw [if_neg (by omega)]
    exact ⟨a, rfl, .inr ⟨h0, fun i hi hil => by omega⟩⟩
  | succ d ih =>
    intro k j a h0 h1 hj hd hk
    obtain ⟨k, rfl⟩ : ∃ m, k = m + 1 := ⟨k - 1, by omega⟩
    simp only [laws_szStepS.l0]; rw [if_pos (by omega), if_pos (by omega), wrap_next (n := l.length) (by omega) (by omega), rd90_at]
    have hm := hy _ (getD_mem z90 l j (by omega))
    obtain ⟨r, hr, hc⟩ := szStep_eq (l.getD j z90).f0 (l.getD j z90).f1 a h0 h1 hm.1 hm.2
    rw [hr]; simp only [Option.bind_some]
    rcases hc with hc | ⟨hc, hc2, hx, hy2⟩
    · rw [if_pos hc]; exact ⟨_, rfl, .inl (by omega)⟩
    · rw [if_neg (by omega)]
      obtain ⟨r2, hr2, hc3⟩ := ih k (j + 1) r hc (by omega) (by omega) (by omega) (by omega)
      refine ⟨r2, hr2, ?_⟩
      rcases hc3 with hc3 | ⟨hc3, hs⟩
      · exact .inl hc3
      · refine .inr ⟨hc3, fun i hi hil => ?_⟩
        by_cases e : i = j
        · subst e; exact ⟨hx, hy2⟩
        · exact hs i (by omega) hil

theorem szNet_eq (n : Int) (l : List S90) (hl : l.length ≤ 9223372036854775807) (hy : ∀ y ∈ l, y.f0.length ≤ 9223372036854775807 ∧ y.f1.length ≤ 9223372036854775807) (k : Nat) (hk : 1048576 < k) :
    ∃ r, laws_szNet.f k n l 1048576 = some r ∧ (r < 0 ∨ (0 ≤ r ∧ l.length ≤ 1048576 ∧ ∀ x ∈ steps l, Short x)) := by
  unfold laws_szNet.f laws_szStepS.f
  rw [wrap_small (by omega) (by omega)]
  by_cases h : (1048576 : Int) - (l.length : Int) < 0
  · rw [if_pos h]; simp only [Option.bind_some]
    rw [if_pos (by omega)]; exact ⟨_, rfl, .inl (by omega)⟩
  · rw [if_neg h]
    obtain ⟨r, hr, hc⟩ := szStepS_loop l (by omega) hy l.length k 0 (1048576 - (l.length : Int)) (by omega) (by omega) (by omega) (by omega) (by omega)
    rw [show ((0 : Nat) : Int) = 0 from rfl] at hr
    rw [hr]; simp only [Option.bind_some]
    rcases hc with hc | ⟨hc, hs⟩
    · rw [if_pos hc]; exact ⟨_, rfl, .inl (by omega)⟩
    · rw [if_neg (by omega)]
      refine ⟨_, rfl, .inr ⟨hc, by omega, fun x hx => ?_⟩⟩
      unfold steps at hx
      obtain ⟨y, hym, rfl⟩ := List.mem_map.1 hx
      obtain ⟨i, hi, rfl⟩ := List.getElem_of_mem hym
      have := hs i (by omega) hi
      rwa [List.getD_eq_getElem?_getD, List.getElem?_eq_getElem hi] at this

theorem toStepS_loop (l : List S90) (hn : l.length ≤ 1048576) (hs : ∀ x ∈ steps l, Short x) (d : Nat) : ∀ (k j : Nat) (x : List S60), x.length = l.length → x.take j = (steps l).take j → j ≤ l.length → l.length - j = d → d + 1048576 < k →
    laws_toStepS.l0 k l x j = some (steps l) := by
  induction d with
  | zero =>
    intro k j x hx ht hj hd hk
    obtain ⟨k, rfl⟩ : ∃ m, k = m + 1 := ⟨k - 1, by omega⟩
    simp only [laws_toStepS.l0]; rw [if_neg (by omega)]
    rw [List.take_of_length_le (by omega), List.take_of_length_le (by rw [steps_length]; omega)] at ht; rw [ht]
  | succ d ih =>
    intro k j x hx ht hj hd hk
    obtain ⟨k, rfl⟩ : ∃ m, k = m + 1 := ⟨k - 1, by omega⟩
    have hm : Short (stepOf (l.getD j z90)) := by rw [← getD_steps l j (by omega)]; exact hs _ (getD_mem z60 _ j (by rw [steps_length]; omega))
    have h0 : (l.getD j z90).f0.length ≤ 1048576 := hm.1
    have h1 : (l.getD j z90).f1.length ≤ 1048576 := hm.2
    simp only [laws_toStepS.l0]; rw [if_pos (by omega), if_pos (by omega), rd90_at]
    simp only [laws_toStep.f]; rw [toIntS_eq _ (by omega) k (by omega)]; simp only [Option.bind_some]
    rw [toIntS_eq _ (by omega) k (by omega)]; simp only [Option.bind_some]
    rw [if_pos (by omega), wrap_next (n := l.length) (by omega) (by omega), Int.toNat_natCast]
    refine ih k (j + 1) _ (by rw [List.length_set]; exact hx) ?_ (by omega) (by omega) (by omega)
    rw [takeS_at z60 (steps l) j (by rw [steps_length]; omega), List.take_succ_eq_append_getElem (by rw [List.length_set]; omega), List.getElem_set_self, List.take_set_of_le (by omega), ht, getD_steps l j (by omega)]; rfl

theorem toNet_eq (n : Int) (l : List S90) (hn : l.length ≤ 1048576) (hs : ∀ x ∈ steps l, Short x) (k : Nat) (hk : 2097152 < k) : laws_toNet.f k n l = some (n, steps l) := by
  unfold laws_toNet.f laws_toStepS.f
  rw [if_pos (by omega), Int.toNat_natCast, if_pos (by omega)]
  have := toStepS_loop l hn hs l.length k 0 (List.replicate l.length z60) (by simp) (by simp) (by omega) (by omega) (by omega)
  rw [show ((0 : Nat) : Int) = 0 from rfl] at this
  rw [this]; rfl

theorem tot60_bound (l : List S60) (hs : ∀ x ∈ l, Short x) : tot60 l ≤ l.length * 2097152 := by
  unfold tot60
  induction l with
  | nil => simp
  | cons x l ih =>
    have h1 := hs x List.mem_cons_self
    have h2 := ih (fun y hy => hs y (List.mem_cons_of_mem _ hy))
    unfold Short at h1
    simp only [List.map_cons, List.sum_cons, List.length_cons]
    omega

theorem eqStepS_loop (a : List S60) (hn : a.length ≤ 1048576) (hs : ∀ x ∈ a, Short x) (d : Nat) : ∀ (k j : Nat), j ≤ a.length → a.length - j = d → d + 1048576 < k →
    laws_eqStepS.l0 k a a j = some true := by
  induction d with
  | zero =>
    intro k j hj hd hk
    obtain ⟨k, rfl⟩ : ∃ m, k = m + 1 := ⟨k - 1, by omega⟩
    simp only [laws_eqStepS.l0]; rw [if_neg (by omega)]
  | succ d ih =>
    intro k j hj hd hk
    obtain ⟨k, rfl⟩ : ∃ m, k = m + 1 := ⟨k - 1, by omega⟩
    have hm := hs _ (getD_mem z60 a j (by omega))
    have h0 := hm.1
    have h1 := hm.2
    simp only [laws_eqStepS.l0]; rw [if_pos (by omega), if_pos (by omega), if_pos (by omega), rd60_at]
    simp only [laws_eqStep.f]; rw [eqIntS_self _ (by omega) k (by omega)]; simp only [Option.bind_some, if_true]
    rw [eqIntS_self _ (by omega) k (by omega)]; simp only [Option.bind_some, if_true]
    rw [wrap_next (n := a.length) (by omega) (by omega)]
    exact ih k (j + 1) (by omega) (by omega) (by omega)

theorem eqNet_self (n : Int) (a : List S60) (hn : a.length ≤ 1048576) (hs : ∀ x ∈ a, Short x) (k : Nat) (hk : 2097152 < k) : laws_eqNet.f k n a n a = some true := by
  unfold laws_eqNet.f laws_eqStepS.f
  rw [if_pos rfl, if_pos rfl]
  have := eqStepS_loop a hn hs a.length k 0 (by omega) (by omega) (by omega)
  rw [show ((0 : Nat) : Int) = 0 from rfl] at this
  rw [this]; rfl

/-- a step's lists rise and lie in the net -/
def stepOk (n : Int) (s : S60) : Bool := riseFrom s.f0 (wrap64 (n - 1)) 0 s.f0.length && riseFrom s.f1 (wrap64 (n - 1)) 0 s.f1.length
/-- the net is good -/
def netOk (n : Int) (l : List S60) : Bool := decide (1 ≤ n ∧ n ≤ 8) && (decide (l.length ≤ 12) && l.all (stepOk n))

theorem spec_net_loop (n : Int) (l : List S60) (hn : l.length ≤ 1048576) (hs : ∀ x ∈ l, Short x) (d : Nat) : ∀ (k j : Nat), j ≤ l.length → l.length - j = d → d + 1048576 < k →
    spec_GoodNet.l0 k l l.length j n l = some (decide (1 ≤ n ∧ n ≤ 8) && (decide (l.length ≤ 12) && (l.drop j).all (stepOk n))) := by
  induction d with
  | zero =>
    intro k j hj hd hk
    obtain ⟨k, rfl⟩ : ∃ m, k = m + 1 := ⟨k - 1, by omega⟩
    simp only [spec_GoodNet.l0]; rw [if_neg (by omega), l1In_eq, List.drop_of_length_le (by omega)]; simp only [Option.bind_some, List.all_nil, Bool.and_true]
    by_cases h : 1 ≤ n ∧ n ≤ 8
    · rw [decide_eq_true h, if_pos rfl]; congr 1; simp only [Bool.true_and, decide_eq_decide]; omega
    · rw [decide_eq_false h, if_neg (by simp)]; simp
  | succ d ih =>
    intro k j hj hd hk
    obtain ⟨k, rfl⟩ : ∃ m, k = m + 1 := ⟨k - 1, by omega⟩
    have hm := hs _ (getD_mem z60 l j (by omega))
    have h0 := hm.1
    have h1 := hm.2
    simp only [spec_GoodNet.l0]; rw [if_pos (by omega), if_pos (by omega), if_pos (by omega), rd60_at, l3List_eq _ n (by omega) k (by omega), l3List_eq _ n (by omega) k (by omega), wrap_next (n := l.length) (by omega) (by omega), ih k (j + 1) (by omega) (by omega) (by omega), dropS_at z60 l j (by omega)]
    simp only [Option.bind_some, List.all_cons, stepOk]
    cases riseFrom (l.getD j z60).f0 (wrap64 (n - 1)) 0 (l.getD j z60).f0.length <;> cases riseFrom (l.getD j z60).f1 (wrap64 (n - 1)) 0 (l.getD j z60).f1.length <;> simp

theorem spec_net (n : Int) (l : List S60) (hn : l.length ≤ 1048576) (hs : ∀ x ∈ l, Short x) (k : Nat) (hk : 2097152 < k) : spec_GoodNet.f k n l = some (netOk n l) := by
  unfold spec_GoodNet.f
  have := spec_net_loop n l hn hs l.length k 0 (by omega) (by omega) (by omega)
  rw [show ((0 : Nat) : Int) = 0 from rfl, List.drop_zero] at this
  exact this

theorem any_bad (n : Int) (k : Nat) (hk : 1048576 < k) : ∀ l : List S60, (∀ x ∈ l, Short x) → anyO60 (impl_GoodNet.bad k n) l = some (!(l.all (stepOk n)))
  | [], _ => rfl
  | x :: l, hs => by
    have hm := hs x (by simp)
    have h0 := hm.1
    have h1 := hm.2
    simp only [anyO60, impl_GoodNet.bad]
    rw [rising_eq _ n (by omega) k (by omega), rising_eq _ n (by omega) k (by omega), any_bad n k hk l (fun y hy => hs y (by simp [hy]))]
    simp only [Option.bind_some, List.all_cons, stepOk]
    cases riseFrom x.f0 (wrap64 (n - 1)) 0 x.f0.length <;> cases riseFrom x.f1 (wrap64 (n - 1)) 0 x.f1.length <;> simp

theorem impl_net (n : Int) (l : List S60) (hs : ∀ x ∈ l, Short x) (k : Nat) (hk : 1048576 < k) : impl_GoodNet.f k n l = some (netOk n l) := by
  unfold impl_GoodNet.f netOk
  rw [in_eq]; simp only [Option.bind_some]
  by_cases h : 1 ≤ n ∧ n ≤ 8
  · rw [decide_eq_true h, if_pos rfl]
    by_cases h2 : l.length ≤ 12
    · rw [if_neg (by omega), any_bad n k hk l hs, decide_eq_true h2]; simp
    · rw [if_pos (by omega), decide_eq_false h2]; simp
  · rw [decide_eq_false h, if_neg (by simp)]; simp

theorem all_drop (p : Int → Bool) (l : List Int) (j : Nat) (h : j < l.length) : (l.drop j).all p = (p (l.getD j 0) && (l.drop (j + 1)).all p) := by
  rw [drop_at l j h, List.all_cons]

theorem mark_loop (l : List Int) (n : Int) (z : List S60) (hn : l.length ≤ 1048576) (d : Nat) : ∀ (k j : Nat), j ≤ l.length → l.length - j = d → d < k →
    spec_l3Mark.l0 k l l l.length j n z = some (decide ((l.length : Int) = n) && (l.drop j).all (fun x => decide (0 ≤ x ∧ x ≤ 9))) := by
  induction d with
  | zero =>
    intro k j hj hd hk
    obtain ⟨k, rfl⟩ : ∃ m, k = m + 1 := ⟨k - 1, by omega⟩
    simp only [spec_l3Mark.l0]; rw [if_neg (by omega), List.drop_of_length_le (by omega)]; simp
    rfl
  | succ d ih =>
    intro k j hj hd hk
    obtain ⟨k, rfl⟩ : ∃ m, k = m + 1 := ⟨k - 1, by omega⟩
    simp only [spec_l3Mark.l0]; rw [if_pos (by omega), if_pos (by omega), if_pos (by omega), l1In_eq, rd_at, wrap_next (n := l.length) (by omega) (by omega), ih k (j + 1) (by omega) (by omega) (by omega), all_drop _ l j (by omega)]
    simp only [Option.bind_some]
    cases decide (0 ≤ l.getD j 0 ∧ l.getD j 0 ≤ 9) <;> simp

theorem spec_mark (l : List Int) (n : Int) (z : List S60) (hn : l.length ≤ 1048576) (k : Nat) (hk : l.length < k) : spec_l3Mark.f k n z l = impl_isMarking.f l n := by
  unfold spec_l3Mark.f impl_isMarking.f
  have := mark_loop l n z hn l.length k 0 (by omega) (by omega) hk
  rw [show ((0 : Nat) : Int) = 0 from rfl, List.drop_zero] at this
  exact this

theorem mem_bound (l : List Int) (q : Int) (h : riseFrom l q 0 l.length = true) : ∀ p ∈ l, 0 ≤ p ∧ p ≤ q := by
  have key : ∀ (d j : Nat), j + d = l.length → riseFrom l q j d = true → ∀ i, j ≤ i → i < l.length → 0 ≤ l.getD i 0 ∧ l.getD i 0 ≤ q := by
    intro d
    induction d with
    | zero => intro j hj _ i h1 h2; omega
    | succ d ih =>
      intro j hj h i h1 h2
      simp only [riseFrom, Bool.and_eq_true] at h
      by_cases e : i = j
      · subst e; have h3 := h.1; unfold riseOk at h3; simp only [decide_eq_true_eq] at h3; exact ⟨h3.1, h3.2.1⟩
      · exact ih (j + 1) (by omega) h.2 i (by omega) h2
  intro p hp
  obtain ⟨i, hi, rfl⟩ := List.getElem_of_mem hp
  have := key l.length 0 (by omega) h i (by omega) hi
  rwa [List.getD_eq_getElem?_getD, List.getElem?_eq_getElem hi] at this

theorem step_within (n : Int) (l : List S60) (m : List Int) (hg : netOk n l = true) (hml : (m.length : Int) = n) (i : Nat) (hi : i < l.length) :
    (1 ≤ n ∧ n ≤ 8) ∧ (∀ p ∈ (l.getD i z60).f0, 0 ≤ p ∧ p < m.length) ∧ (∀ p ∈ (l.getD i z60).f1, 0 ≤ p ∧ p < m.length) := by
  unfold netOk at hg
  simp only [Bool.and_eq_true, decide_eq_true_eq, List.all_eq_true] at hg
  have h := hg.2.2 _ (getD_mem z60 l i hi)
  unfold stepOk at h
  rw [Bool.and_eq_true, wrap_small (by omega) (by omega)] at h
  exact ⟨hg.1, fun p hp => by have := mem_bound _ _ h.1 p hp; omega, fun p hp => by have := mem_bound _ _ h.2 p hp; omega⟩

def badCount (x : Int) : Bool := !(decide (0 ≤ x ∧ x ≤ 100))
theorem count_add (n : Int) (st : List S60) (cs : List Int) (b i c : Int) (g : List Int) (hg : g.length ≤ 1048576) (d : Nat) : ∀ (j : Nat) (x : List Int), j ≤ g.length → g.length - j = d → (∀ p ∈ g, 0 ≤ p ∧ p < x.length) →
    ∃ z, addAll c (g.drop j) x = some z ∧ z.length = x.length ∧ ∀ r, Ev (fun k => spec_CountSteps.l0 k z cs b (wrap64 (i + 1)) n st) r → Ev (fun k => spec_CountSteps.l2 k x c cs b i g g.length j n st) r := by
  induction d with
  | zero =>
    intro j x hj hd hp
    refine ⟨x, by rw [List.drop_of_length_le (by omega)]; rfl, rfl, fun r hr => Ev.step (fun k => ?_) hr⟩
    simp only [spec_CountSteps.l2]; rw [if_neg (by omega)]
  | succ d ih =>
    intro j x hj hd hp
    have hpj := hp _ (getD_mem 0 g j (by omega))
    rw [← rd_at] at hpj
    obtain ⟨z, h1, h2, h3⟩ := ih (j + 1) (x.set (rd g j).toNat (wrap64 (rd x (rd g j) + c))) (by omega) (by omega) (fun q hq => by rw [List.length_set]; exact hp q hq)
    refine ⟨z, by rw [addAll_drop _ _ _ (by omega), if_pos hpj]; exact h1, by rw [h2, List.length_set], fun r hr => Ev.step (fun k => ?_) (h3 r hr)⟩
    simp only [spec_CountSteps.l2]
    rw [if_pos (by omega), if_pos (by omega), if_pos (by omega), if_pos hpj.1, if_pos hpj.2, wrap_next (n := g.length) (by omega) (by omega)]
theorem count_take (n : Int) (st : List S60) (cs : List Int) (b c : Int) (i : Nat) (hi : i < st.length) (g : List Int) (hg : g.length ≤ 1048576) (d : Nat) : ∀ (j : Nat) (x : List Int), j ≤ g.length → g.length - j = d → (∀ p ∈ g, 0 ≤ p ∧ p < x.length) →
    ∃ z, addAll (-c) (g.drop j) x = some z ∧ z.length = x.length ∧ ∀ r, Ev (fun k => spec_CountSteps.l2 k z c cs b i (st.getD i z60).f1 (st.getD i z60).f1.length ((0 : Nat) : Int) n st) r → Ev (fun k => spec_CountSteps.l1 k x i c cs b i g g.length j n st) r := by
  induction d with
  | zero =>
    intro j x hj hd hp
    refine ⟨x, by rw [List.drop_of_length_le (by omega)]; rfl, rfl, fun r hr => Ev.step (fun k => ?_) hr⟩
    simp only [spec_CountSteps.l1]; rw [if_neg (by omega), if_pos (by omega), if_pos (by omega), rd60_at]; rfl
  | succ d ih =>
    intro j x hj hd hp
    have hpj := hp _ (getD_mem 0 g j (by omega))
    rw [← rd_at] at hpj
    obtain ⟨z, h1, h2, h3⟩ := ih (j + 1) (x.set (rd g j).toNat (wrap64 (rd x (rd g j) + -c))) (by omega) (by omega) (fun q hq => by rw [List.length_set]; exact hp q hq)
    refine ⟨z, by rw [addAll_drop _ _ _ (by omega), if_pos hpj]; exact h1, by rw [h2, List.length_set], fun r hr => Ev.step (fun k => ?_) (h3 r hr)⟩
    simp only [spec_CountSteps.l1]
    rw [if_pos (by omega), if_pos (by omega), if_pos (by omega), if_pos hpj.1, if_pos hpj.2, wrap_next (n := g.length) (by omega) (by omega), show rd x (rd g j) + -c = rd x (rd g j) - c by omega]
theorem count_loop (n : Int) (st : List S60) (hst : st.length ≤ 1048576) (hs : ∀ x ∈ st, Short x) (hnet : netOk n st = true) (l : List Int) (hl : l.length = st.length) (d : Nat) : ∀ (j : Nat) (now : List Int), j ≤ l.length → l.length - j = d → (now.length : Int) = n →
    ((l.drop j).any badCount = true → Ev (fun k => spec_CountSteps.l0 k now l l.length j n st) ([], false)) ∧
    ((l.drop j).any badCount = false → ∃ r : List Int, countGo l (st.drop j) j now = some r ∧ (r.length : Int) = n ∧ Ev (fun k => spec_CountSteps.l0 k now l l.length j n st) (r, true)) := by
  induction d with
  | zero =>
    intro j now hj hd hn
    rw [List.drop_of_length_le (by omega), List.drop_of_length_le (by omega)]
    refine ⟨fun h => by simp at h, fun _ => ⟨now, rfl, hn, Ev.step (f := fun _ => some (now, true)) (fun k => ?_) (Ev.now _)⟩⟩
    simp only [spec_CountSteps.l0]
    rw [if_neg (by omega)]
  | succ d ih =>
    intro j now hj hd hn
    have hjl : j < l.length := by omega
    have hdr : st.drop j = st.getD j z60 :: st.drop (j + 1) := by
      rw [List.drop_eq_getElem_cons (by omega), List.getD_eq_getElem?_getD, List.getElem?_eq_getElem (by omega)]; rfl
    rw [drop_at l j hjl, hdr]
    simp only [List.any_cons]
    obtain ⟨s, hsx⟩ : ∃ s, s = l.getD j 0 := ⟨_, rfl⟩
    rw [← hsx]
    by_cases hr : 0 ≤ s ∧ s ≤ 100
    · have hb : badCount s = false := by unfold badCount; rw [decide_eq_true hr]; rfl
      rw [hb]; simp only [Bool.false_or]
      obtain ⟨hn8, hf, hg⟩ := step_within n st now hnet hn j (by omega)
      have hsh := hs _ (getD_mem z60 st j (by omega))
      obtain ⟨y, hy1, hy2, hy3⟩ := count_take n st l l.length s j (by omega) (st.getD j z60).f0 hsh.1 _ 0 now (by omega) rfl hf
      obtain ⟨z, hz1, hz2, hz3⟩ := count_add n st l l.length j s (st.getD j z60).f1 hsh.2 _ 0 y (by omega) rfl (by rw [hy2]; exact hg)
      rw [List.drop_zero] at hy1 hz1
      have hstep : ∀ r, Ev (fun k => spec_CountSteps.l0 k z l l.length ((j + 1 : Nat) : Int) n st) r → Ev (fun k => spec_CountSteps.l0 k now l l.length j n st) r := by
        intro r h
        refine Ev.step (fun k => ?_) (hy3 r (hz3 r (by rw [wrap_next (n := l.length) (by omega) (by omega)]; exact h)))
        simp only [spec_CountSteps.l0]
        rw [if_pos (by omega), if_pos (by omega), if_pos (by omega), rd_at, ← hsx, l1In_eq, decide_eq_true hr]
        simp only [Option.bind_some, if_true]
        rw [if_pos (by omega), rd60_at]; rfl
      obtain ⟨h1, h2⟩ := ih (j + 1) z (by omega) (by omega) (by omega)
      refine ⟨fun h => hstep _ (h1 h), fun h => ?_⟩
      obtain ⟨r, hr1, hr2, hr3⟩ := h2 h
      refine ⟨r, ?_, hr2, hstep _ hr3⟩
      simp only [countGo]
      rw [if_pos hjl, rd_at, ← hsx, hy1]; simp only [Option.bind_some]
      rw [hz1]; exact hr1
    · have hb : badCount s = true := by unfold badCount; rw [decide_eq_false hr]; rfl
      rw [hb]; simp only [Bool.true_or]
      refine ⟨fun _ => Ev.step (f := fun _ => some ([], false)) (fun k => ?_) (Ev.now _), fun h => by cases h⟩
      simp only [spec_CountSteps.l0]
      rw [if_pos (by omega), if_pos (by omega), if_pos (by omega), rd_at, ← hsx, l1In_eq, decide_eq_false hr]
      simp
theorem impl_mark (n : Int) (l : List S60) (m : List Int) (hs : ∀ x ∈ l, Short x) (k : Nat) (hk : 1048576 < k) : impl_markOk.f k n l m = some (netOk n l && (decide ((m.length : Int) = n) && m.all fun x => decide (0 ≤ x ∧ x ≤ 9))) := by
  unfold impl_markOk.f
  rw [impl_net n l hs k hk]
  unfold impl_isMarking.f
  simp only [Option.bind_some]
  cases netOk n l <;> simp
theorem countSteps_both (n : Int) (st : List S60) (m l : List Int) (hst : st.length ≤ 1048576) (hs : ∀ x ∈ st, Short x) (hm : m.length ≤ 1048576) (hl : l.length ≤ 1048576) : ∃ (r : List Int × Bool) (K : Nat), r.1.length ≤ 1048576 ∧ ∀ k, K ≤ k → spec_CountSteps.f k n st m l = some r ∧ impl_CountSteps.f k n st m l = some r := by
  have hbad : (fun x : Int => !(decide (0 ≤ x ∧ x ≤ 100))) = badCount := rfl
  obtain ⟨ok, hok⟩ : ∃ ok, ok = (netOk n st && (decide ((m.length : Int) = n) && m.all fun x => decide (0 ≤ x ∧ x ≤ 9))) := ⟨_, rfl⟩
  have hspec : ∀ k, 2097160 ≤ k → spec_CountSteps.f k n st m l = spec_CountSteps.j0 k m l (if ok = true then ((l.length : Int) != (st.length : Int)) else true) n st := by
    intro k hk
    unfold spec_CountSteps.f
    rw [spec_net n st hst hs k (by omega), spec_mark m n st hm k (by omega)]
    unfold impl_isMarking.f
    simp only [Option.bind_some]
    rw [hok]
    cases netOk n st with
    | false => rfl
    | true =>
      rw [if_pos rfl]
      cases (decide ((m.length : Int) = n) && m.all fun x => decide (0 ≤ x ∧ x ≤ 9)) <;> rfl
  have himpl : ∀ k, 2097160 ≤ k → impl_CountSteps.f k n st m l = if ok = true then (if l.length ≠ st.length then some ([], false) else if l.any badCount = true then some ([], false) else if m.length < 17592186044416 then (countGo l st 0 m).bind fun r => some (r, true) else none) else some ([], false) := by
    intro k hk
    unfold impl_CountSteps.f
    rw [impl_mark n st m hs k (by omega), ← hok]
    rfl
  have hj : ∀ k, spec_CountSteps.j0 (k + 1) m l true n st = some ([], false) := fun k => by simp only [spec_CountSteps.j0, if_true]
  cases ok with
  | false =>
    refine ⟨([], false), 2097161, by simp, fun k hk => ⟨?_, ?_⟩⟩
    · obtain ⟨k, rfl⟩ : ∃ m, k = m + 1 := ⟨k - 1, by omega⟩
      rw [hspec _ (by omega), if_neg (by decide)]; exact hj k
    · rw [himpl _ (by omega), if_neg (by decide)]
  | true =>
    by_cases h200 : l.length ≠ st.length
    · refine ⟨([], false), 2097161, by simp, fun k hk => ⟨?_, ?_⟩⟩
      · obtain ⟨k, rfl⟩ : ∃ m, k = m + 1 := ⟨k - 1, by omega⟩
        rw [hspec _ (by omega), if_pos rfl, show ((l.length : Int) != (st.length : Int)) = true by rw [bne_iff_ne]; omega]; exact hj k
      · rw [himpl _ (by omega), if_pos rfl, if_pos h200]
    · have h := hok.symm
      simp only [Bool.and_eq_true, decide_eq_true_eq] at h
      obtain ⟨h1, h2⟩ := count_loop n st hst hs h.1 l (by omega) l.length 0 m (by omega) (by omega) h.2.1
      rw [List.drop_zero] at h1 h2
      have hs0 : ∀ r, Ev (fun k => spec_CountSteps.l0 k m l l.length ((0 : Nat) : Int) n st) r → ∃ K, ∀ k, K ≤ k → spec_CountSteps.f k n st m l = some r := by
        intro r ⟨K, hK⟩
        refine ⟨K + 2097162, fun k hk => ?_⟩
        obtain ⟨k, rfl⟩ : ∃ m, k = m + 1 := ⟨k - 1, by omega⟩
        rw [hspec _ (by omega), if_pos rfl, show ((l.length : Int) != (st.length : Int)) = false by rw [bne_eq_false_iff_eq]; omega]
        simp only [spec_CountSteps.j0, Bool.false_eq_true, if_false, Option.bind_some, List.nil_append, List.length_nil]
        rw [if_pos (by omega)]
        exact hK k (by omega)
      cases hb : l.any badCount with
      | true =>
        obtain ⟨K, hK⟩ := hs0 _ (h1 hb)
        refine ⟨([], false), K + 2097161, by simp, fun k hk => ⟨hK k (by omega), ?_⟩⟩
        rw [himpl _ (by omega), if_pos rfl, if_neg h200, hb, if_pos rfl]
      | false =>
        obtain ⟨r, hr1, hr2, hr3⟩ := h2 hb
        obtain ⟨K, hK⟩ := hs0 _ hr3
        refine ⟨(r, true), K + 2097161, by show r.length ≤ _; have := h.2.1; omega, fun k hk => ⟨hK k (by omega), ?_⟩⟩
        rw [himpl _ (by omega), if_pos rfl, if_neg h200, hb, if_neg (by decide), if_pos (by omega)]
        rw [List.drop_zero] at hr1
        rw [hr1]; rfl

/-- THE PURE STATEMENT of the law. -/
def FnExactCountSteps_Pure : Prop := ∀ (a0_0 : Int) (l0_1 : (List S90)) (l1 : (List Int)) (l2 : (List Int)), (Lit.int .i64 a0_0).wf = true → (l0_1.length ≤ 9223372036854775807 ∧ ∀ y ∈ l0_1, ((y.f0.length ≤ 9223372036854775807 ∧ ∀ y2 ∈ y.f0, (Lit.int .i64 y2).wf = true) ∧ (y.f1.length ≤ 9223372036854775807 ∧ ∀ y2 ∈ y.f1, (Lit.int .i64 y2).wf = true))) → (l1.length ≤ 9223372036854775807 ∧ ∀ y ∈ l1, (Lit.int .i64 y).wf = true) → (l2.length ≤ 9223372036854775807 ∧ ∀ y ∈ l2, (Lit.int .i64 y).wf = true) → ∃ k, laws_FnExactCountSteps.f k a0_0 l0_1 l1 l2 = some true

theorem FnExactCountSteps : FnExactCountSteps_Pure := by
  intro n l w v0 _ hl hw hv
  by_cases h1 : (w.length : Int) > 1048576
  · exact ⟨0, by unfold laws_FnExactCountSteps.f; rw [if_pos h1]⟩
  by_cases h2 : (v0.length : Int) > 1048576
  · exact ⟨0, by unfold laws_FnExactCountSteps.f; rw [if_neg h1, if_pos h2]⟩
  have hst := steps_length l
  obtain ⟨m0, hm0⟩ : ∃ m, m = 2097160 := ⟨_, rfl⟩
  by_cases hbad : ∃ r, laws_szNet.f m0 n l 1048576 = some r ∧ r < 0
  · obtain ⟨r, hs, hr⟩ := hbad
    exact ⟨m0, by unfold laws_FnExactCountSteps.f; rw [if_neg h1, if_neg h2, hs]; simp only [Option.bind_some]; rw [if_pos hr]⟩
  have hgood : l.length ≤ 1048576 ∧ ∀ x ∈ steps l, Short x := by
    obtain ⟨r, hs, hr | ⟨hr, h, hsh⟩⟩ := szNet_eq n l hl.1 (fun y hy => ⟨(hl.2 y hy).1.1, (hl.2 y hy).2.1⟩) m0 (by omega)
    · exact (hbad ⟨r, hs, hr⟩).elim
    · exact ⟨h, hsh⟩
  obtain ⟨h, hsh⟩ := hgood
  obtain ⟨v, K, hvl, hv⟩ := countSteps_both n (steps l) w v0 (by omega) hsh (by omega) (by omega)
  obtain ⟨m, hm⟩ : ∃ m, m = K + 2097160 := ⟨_, rfl⟩
  obtain ⟨r, hs, hr⟩ : ∃ r, laws_szNet.f m n l 1048576 = some r ∧ (r < 0 ∨ (0 ≤ r ∧ l.length ≤ 1048576 ∧ ∀ x ∈ steps l, Short x)) := szNet_eq n l hl.1 (fun y hy => ⟨(hl.2 y hy).1.1, (hl.2 y hy).2.1⟩) _ (by omega)
  refine ⟨m, ?_⟩
  unfold laws_FnExactCountSteps.f
  rw [if_neg h1, if_neg h2, hs]; simp only [Option.bind_some]
  by_cases h5 : r < 0
  · rw [if_pos h5]
  rw [if_neg h5, toNet_eq n l h hsh _ (by omega), toIntS_eq w (by omega) _ (by omega), toIntS_eq v0 (by omega) _ (by omega)]; simp only [Option.bind_some]
  rw [(hv _ (by omega)).1, (hv _ (by omega)).2]; simp only [Option.bind_some]
  rw [eqIntS_self v.1 (by omega) _ (by omega)]; simp only [Option.bind_some]
  rw [eqNet_self n (steps l) (by omega) hsh _ (by omega)]; simp only [Option.bind_some]
  rw [eqIntS_self w (by omega) _ (by omega)]; simp only [Option.bind_some]
  rw [eqIntS_self v0 (by omega) _ (by omega)]; simp only [Option.bind_some]
  rw [markIntS_eq _ 1 (by omega) (by omega) (by omega) _ (by omega)]; simp only [Option.bind_some]
  rw [heldIntS_eq 1 _ (by omega) (by omega) (by omega) _ (by omega)]; simp only [Option.bind_some]
  have hb := tot60_bound (steps l) hsh
  rw [if_pos (by refine ⟨?_, ?_, ?_, ?_, ?_, ?_, ?_, ?_⟩ <;> first | trivial | omega)]

end Go.Proofs.Ytnfafdlglhbijaa.Pure
