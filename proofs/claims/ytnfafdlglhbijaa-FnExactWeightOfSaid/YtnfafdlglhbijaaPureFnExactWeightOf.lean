/- The program weighs a marking as the reference does: the law answers true. No conditions but the reach of a slice. -/
import Derived.Test.YtnfafdlglhbijaaPFnExactWeightOfx2
namespace Go.Proofs.Ytnfafdlglhbijaa.Pure
open Go.RowKit Go.Proofs.Ytnfafdlglhbijaa.PFnExactWeightOf Go.Proofs.YtnfafdlglhbijaaW.PrintWords Go.Proofs.YtnfafdlglhbijaaW.PrintLast
set_option linter.unusedVariables false
set_option linter.unusedSimpArgs false

theorem wrap_small {x : Int} (h0 : -9223372036854775808 ≤ x) (h1 : x ≤ 9223372036854775807) : wrap64 x = x := by
  unfold wrap64
  omega

theorem wrap_next {j n : Nat} (h : j < n) (hn : n ≤ 140737488351232) : wrap64 ((j : Int) + 1) = ((j + 1 : Nat) : Int) := by
  rw [wrap_small (by omega) (by omega)]; rfl

theorem rd_at (l : List Int) (j : Nat) : rd l (j : Int) = l.getD j 0 := by
  unfold rd; rw [Int.toNat_natCast]

theorem drop_at (l : List Int) (j : Nat) (h : j < l.length) : l.drop j = l.getD j 0 :: l.drop (j + 1) := by
  rw [List.drop_eq_getElem_cons h, List.getD_eq_getElem?_getD, List.getElem?_eq_getElem h]; rfl

theorem take_at (l : List Int) (j : Nat) (h : j < l.length) : l.take (j + 1) = l.take j ++ [l.getD j 0] := by
  rw [List.take_succ_eq_append_getElem h, List.getD_eq_getElem?_getD, List.getElem?_eq_getElem h]; rfl

theorem toIntS_loop (l : List Int) (hn : l.length ≤ 140737488351232) (d : Nat) : ∀ (k j : Nat) (x : List Int), x.length = l.length → x.take j = l.take j → j ≤ l.length → l.length - j = d → d < k →
    laws_toIntS.l0 k l x j = some l := by
  induction d with
  | zero =>
    intro k j x hx ht hj hd hk
    obtain ⟨k, rfl⟩ : ∃ m, k = m + 1 := ⟨k - 1, by omega⟩
    simp only [laws_toIntS.l0]; rw [if_neg (by omega)]
    rw [List.take_of_length_le (by omega), List.take_of_length_le (by omega)] at ht; rw [ht]
  | succ d ih =>
    intro k j x hx ht hj hd hk
    obtain ⟨k, rfl⟩ : ∃ m, k = m + 1 := ⟨k - 1, by omega⟩
    simp only [laws_toIntS.l0]; rw [if_pos (by omega), if_pos (by omega), if_pos (by omega), wrap_next (n := l.length) (by omega) hn, rd_at, Int.toNat_natCast]
    refine ih k (j + 1) _ (by rw [List.length_set]; exact hx) ?_ (by omega) (by omega) (by omega)
    rw [take_at l j (by omega), List.take_succ_eq_append_getElem (by rw [List.length_set]; omega), List.getElem_set_self, List.take_set_of_le (by omega), ht]

theorem toIntS_eq (l : List Int) (hn : l.length ≤ 17592186044416) (k : Nat) (hk : l.length < k) : laws_toIntS.f k l = some l := by
  unfold laws_toIntS.f
  rw [if_pos (by omega), Int.toNat_natCast, if_pos (by omega)]
  exact toIntS_loop l (by omega) l.length k 0 _ (by simp) (by simp) (by omega) (by omega) hk

theorem eqIntS_loop (a b : List Int) (hn : a.length ≤ 140737488351232) (hab : a.length = b.length) (d : Nat) : ∀ (k j : Nat), j ≤ a.length → a.length - j = d → d < k →
    laws_eqIntS.l0 k a b j = some (decide (a.drop j = b.drop j)) := by
  induction d with
  | zero =>
    intro k j hj hd hk
    obtain ⟨k, rfl⟩ : ∃ m, k = m + 1 := ⟨k - 1, by omega⟩
    simp only [laws_eqIntS.l0]; rw [if_neg (by omega), List.drop_of_length_le (by omega), List.drop_of_length_le (by omega)]; simp
  | succ d ih =>
    intro k j hj hd hk
    obtain ⟨k, rfl⟩ : ∃ m, k = m + 1 := ⟨k - 1, by omega⟩
    simp only [laws_eqIntS.l0]; rw [if_pos (by omega), if_pos (by omega), if_pos (by omega), wrap_next (n := a.length) (by omega) hn, rd_at, rd_at, drop_at a j (by omega), drop_at b j (by omega)]
    by_cases h : a.getD j 0 = b.getD j 0
    · rw [if_pos h, ih k (j + 1) (by omega) (by omega) (by omega)]; simp only [List.cons.injEq, h, true_and]
    · rw [if_neg h]; simp only [List.cons.injEq, h, false_and, decide_false]

theorem eqIntS_eq (a b : List Int) (hn : a.length ≤ 140737488351232) (k : Nat) (hk : a.length < k) : laws_eqIntS.f k a b = some (decide (a = b)) := by
  unfold laws_eqIntS.f
  by_cases h : a.length = b.length
  · rw [if_pos (by omega)]
    have := eqIntS_loop a b hn h a.length k 0 (by omega) (by omega) hk
    simpa using this
  · rw [if_neg (by omega), decide_eq_false (fun e => h (by rw [e]))]

theorem eqIntS_self (a : List Int) (hn : a.length ≤ 140737488351232) (k : Nat) (hk : a.length < k) : laws_eqIntS.f k a a = some true := by
  rw [eqIntS_eq a a hn k hk]; simp

theorem in_eq (a b c : Int) : impl_in.f a b c = some (decide (b ≤ a ∧ a ≤ c)) := by
  unfold impl_in.f
  by_cases h : a ≥ b
  · rw [if_pos h]; congr 1; simp only [decide_eq_decide]; omega
  · rw [if_neg h, decide_eq_false (by omega)]
theorem l1In_eq (a b c : Int) : spec_l1In.f a b c = some (decide (b ≤ a ∧ a ≤ c)) := by
  unfold spec_l1In.f
  by_cases h : a ≥ b
  · rw [if_pos h]; congr 1; simp only [decide_eq_decide]; omega
  · rw [if_neg h, decide_eq_false (by omega)]

theorem all_drop (p : Int → Bool) (l : List Int) (j : Nat) (h : j < l.length) : (l.drop j).all p = (p (l.getD j 0) && (l.drop (j + 1)).all p) := by
  rw [drop_at l j h, List.all_cons]

theorem weights_loop (l : List Int) (n : Int) (hn : l.length ≤ 1048576) (d : Nat) : ∀ (k j : Nat), j ≤ l.length → l.length - j = d → d < k →
    spec_l3Weights.l0 k l n l l.length j = some (decide ((l.length : Int) = n) && (l.drop j).all (fun x => decide (-100 ≤ x ∧ x ≤ 100))) := by
  induction d with
  | zero =>
    intro k j hj hd hk
    obtain ⟨k, rfl⟩ : ∃ m, k = m + 1 := ⟨k - 1, by omega⟩
    simp only [spec_l3Weights.l0]; rw [if_neg (by omega), List.drop_of_length_le (by omega)]; simp
    rfl
  | succ d ih =>
    intro k j hj hd hk
    obtain ⟨k, rfl⟩ : ∃ m, k = m + 1 := ⟨k - 1, by omega⟩
    simp only [spec_l3Weights.l0]; rw [if_pos (by omega), if_pos (by omega), if_pos (by omega), l1In_eq, rd_at, wrap_next (n := l.length) (by omega) (by omega), ih k (j + 1) (by omega) (by omega) (by omega), all_drop _ l j (by omega)]
    simp only [Option.bind_some]
    cases decide (-100 ≤ l.getD j 0 ∧ l.getD j 0 ≤ 100) <;> simp

theorem spec_weights (l : List Int) (n : Int) (hn : l.length ≤ 1048576) (k : Nat) (hk : l.length < k) : spec_l3Weights.f k l n = impl_weightsOk.f l n := by
  unfold spec_l3Weights.f impl_weightsOk.f
  have := weights_loop l n hn l.length k 0 (by omega) (by omega) hk
  rw [show ((0 : Nat) : Int) = 0 from rfl, List.drop_zero] at this
  exact this

theorem mark_loop (l : List Int) (n : Int) (z : List S60) (hn : l.length ≤ 1048576) (d : Nat) : ∀ (k j : Nat), j ≤ l.length → l.length - j = d → d < k →
    spec_l3Mark.l0 k l l l.length j n z = some (decide ((l.length : Int) = n) && (l.drop j).all (fun x => decide (0 ≤ x ∧ x ≤ 9))) := by
  induction d with
  | zero =>
    intro k j hj hd hk
    obtain ⟨k, rfl⟩ : ∃ m, k = m + 1 := ⟨k - 1, by omega⟩
    simp only [spec_l3Mark.l0]; rw [if_neg (by omega), List.drop_of_length_le (by omega)]; simp
    rfl
  | succ d ih =>
    intro k j hj hd hk
    obtain ⟨k, rfl⟩ : ∃ m, k = m + 1 := ⟨k - 1, by omega⟩
    simp only [spec_l3Mark.l0]; rw [if_pos (by omega), if_pos (by omega), if_pos (by omega), l1In_eq, rd_at, wrap_next (n := l.length) (by omega) (by omega), ih k (j + 1) (by omega) (by omega) (by omega), all_drop _ l j (by omega)]
    simp only [Option.bind_some]
    cases decide (0 ≤ l.getD j 0 ∧ l.getD j 0 ≤ 9) <;> simp

theorem spec_mark (l : List Int) (n : Int) (z : List S60) (hn : l.length ≤ 1048576) (k : Nat) (hk : l.length < k) : spec_l3Mark.f k n z l = impl_isMarking.f l n := by
  unfold spec_l3Mark.f impl_isMarking.f
  have := mark_loop l n z hn l.length k 0 (by omega) (by omega) hk
  rw [show ((0 : Nat) : Int) = 0 from rfl, List.drop_zero] at this
  exact this

theorem wo_loop (x y : List Int) (hx : x.length ≤ 1048576) (hxy : x.length = y.length) (d : Nat) : ∀ (k j : Nat) (a : Int), j ≤ x.length → x.length - j = d → d < k →
    ∃ r, spec_WeightOf.l0 k y a x x.length j = some r ∧ impl_WeightOf.l0 k x a y y.length j = some r := by
  induction d with
  | zero =>
    intro k j a hj hd hk
    obtain ⟨k, rfl⟩ : ∃ m, k = m + 1 := ⟨k - 1, by omega⟩
    simp only [spec_WeightOf.l0, impl_WeightOf.l0]; rw [if_neg (by omega), if_neg (by omega)]
    exact ⟨_, rfl, rfl⟩
  | succ d ih =>
    intro k j a hj hd hk
    obtain ⟨k, rfl⟩ : ∃ m, k = m + 1 := ⟨k - 1, by omega⟩
    simp only [spec_WeightOf.l0, impl_WeightOf.l0]; rw [if_pos (by omega), if_pos (by omega), if_pos (by omega), if_pos (by omega), if_pos (by omega), if_pos (by omega), if_pos (by omega), if_pos (by omega), rd_at, rd_at, wrap_next (n := x.length) (by omega) (by omega), Int.mul_comm (y.getD j 0)]
    exact ih k (j + 1) _ (by omega) (by omega) (by omega)

theorem weightOf_both (x y : List Int) (hx : x.length ≤ 1048576) (hy : y.length ≤ 1048576) (k : Nat) (hk : 1048580 < k) : ∃ r, spec_WeightOf.f k x y = some r ∧ impl_WeightOf.f k x y = some r := by
  unfold spec_WeightOf.f impl_WeightOf.f
  rw [in_eq, l1In_eq, spec_mark x _ _ hx k (by omega), spec_weights y _ hy k (by omega)]
  obtain ⟨m, rfl⟩ : ∃ m, k = m + 1 := ⟨k - 1, by omega⟩
  obtain ⟨M, hM⟩ : ∃ M, impl_isMarking.f x x.length = some M := ⟨_, rfl⟩
  obtain ⟨W, hW, hWl⟩ : ∃ W, impl_weightsOk.f y x.length = some W ∧ (W = true → (y.length : Int) = x.length) := ⟨_, rfl, fun h => by rw [Bool.and_eq_true, decide_eq_true_eq] at h; exact h.1⟩
  rw [hM, hW]
  simp only [Option.bind_some, spec_WeightOf.j0, impl_WeightOf.j0]
  cases decide (1 ≤ (x.length : Int) ∧ (x.length : Int) ≤ 8)
  · exact ⟨_, rfl, rfl⟩
  · cases M
    · exact ⟨_, rfl, rfl⟩
    · cases W
      · exact ⟨_, rfl, rfl⟩
      · have e := hWl rfl
        exact wo_loop x y hx (by omega) x.length m 0 0 (by omega) (by omega) (by omega)

/-- THE PURE STATEMENT of the law. -/
def FnExactWeightOf_Pure : Prop := ∀ (l0 : (List Int)) (l1 : (List Int)), (l0.length ≤ 9223372036854775807 ∧ ∀ y ∈ l0, (Lit.int .i64 y).wf = true) → (l1.length ≤ 9223372036854775807 ∧ ∀ y ∈ l1, (Lit.int .i64 y).wf = true) → ∃ k, laws_FnExactWeightOf.f k l0 l1 = some true

theorem FnExactWeightOf : FnExactWeightOf_Pure := by
  intro x y hx hy
  obtain ⟨m, hm⟩ : ∃ m, m = 2097160 := ⟨_, rfl⟩
  refine ⟨m + 1, ?_⟩
  unfold laws_FnExactWeightOf.f
  by_cases h1 : (x.length : Int) > 1048576
  · rw [if_pos h1]
  · rw [if_neg h1]
    by_cases h2 : (y.length : Int) > 1048576
    · rw [if_pos h2]
    · rw [if_neg h2, toIntS_eq x (by omega) _ (by omega), toIntS_eq y (by omega) _ (by omega)]; simp only [Option.bind_some]
      obtain ⟨r, h3, h4⟩ := weightOf_both x y (by omega) (by omega) (m + 1) (by omega)
      rw [h3, h4]; simp only [Option.bind_some]
      rw [if_pos trivial]
      simp only [laws_FnExactWeightOf.j0, bne_self_eq_false, Bool.false_eq_true, if_false]
      rw [toIntS_eq x (by omega) _ (by omega), toIntS_eq y (by omega) _ (by omega)]; simp only [Option.bind_some]
      rw [eqIntS_self x (by omega) _ (by omega), eqIntS_self y (by omega) _ (by omega)]; simp

end Go.Proofs.Ytnfafdlglhbijaa.Pure
