/- The program compares every two vectors as the reference does: the law answers true. No conditions but the reach of a slice. -/
import Derived.Test.YtmhhjmadpnkelaaPFnExactCompareVecx2
namespace Go.Proofs.Ytmhhjmadpnkelaa.Pure
open Go.RowKit Go.Proofs.Ytmhhjmadpnkelaa.PFnExactCompareVec Go.Proofs.YtmhhjmadpnkelaaW.PrintWords Go.Proofs.YtmhhjmadpnkelaaW.PrintLast

theorem wrap_small {x : Int} (h0 : -9223372036854775808 ≤ x) (h1 : x ≤ 9223372036854775807) : wrap64 x = x := by
  unfold wrap64
  omega

theorem wrap_next {j n : Nat} (h : j < n) (hn : n ≤ 140737488351232) : wrap64 ((j : Int) + 1) = ((j + 1 : Nat) : Int) := by
  rw [wrap_small (by omega) (by omega)]; rfl

theorem rd_at (l : List Int) (j : Nat) : rd l (j : Int) = l.getD j 0 := by
  unfold rd; rw [Int.toNat_natCast]

theorem drop_at (l : List Int) (j : Nat) (h : j < l.length) : l.drop j = l.getD j 0 :: l.drop (j + 1) := by
  rw [List.drop_eq_getElem_cons h, List.getD_eq_getElem?_getD, List.getElem?_eq_getElem h]; rfl

theorem take_at (l : List Int) (j : Nat) (h : j < l.length) : l.take (j + 1) = l.take j ++ [l.getD j 0] := by
  rw [List.take_succ_eq_append_getElem h, List.getD_eq_getElem?_getD, List.getElem?_eq_getElem h]; rfl

theorem toIntS_loop (l : List Int) (hn : l.length ≤ 140737488351232) (d : Nat) : ∀ (k j : Nat) (x : List Int), x.length = l.length → x.take j = l.take j → j ≤ l.length → l.length - j = d → d < k →
    laws_toIntS.l0 k l x j = some l := by
  induction d with
  | zero =>
    intro k j x hx ht hj hd hk
    obtain ⟨k, rfl⟩ : ∃ m, k = m + 1 := ⟨k - 1, by omega⟩
    simp only [laws_toIntS.l0]; rw [if_neg (by omega)]
    rw [List.take_of_length_le (by omega), List.take_of_length_le (by omega)] at ht; rw [ht]
  | succ d ih =>
    intro k j x hx ht hj hd hk
    obtain ⟨k, rfl⟩ : ∃ m, k = m + 1 := ⟨k - 1, by omega⟩
    simp only [laws_toIntS.l0]; rw [if_pos (by omega), if_pos (by omega), if_pos (by omega), wrap_next (n := l.length) (by omega) hn, rd_at, Int.toNat_natCast]
    refine ih k (j + 1) _ (by rw [List.length_set]; exact hx) ?_ (by omega) (by omega) (by omega)
    rw [take_at l j (by omega), List.take_succ_eq_append_getElem (by rw [List.length_set]; omega), List.getElem_set_self, List.take_set_of_le (by omega), ht]

theorem toIntS_eq (l : List Int) (hn : l.length ≤ 17592186044416) (k : Nat) (hk : l.length < k) : laws_toIntS.f k l = some l := by
  unfold laws_toIntS.f
  rw [if_pos (by omega), Int.toNat_natCast, if_pos (by omega)]
  exact toIntS_loop l (by omega) l.length k 0 _ (by simp) (by simp) (by omega) (by omega) hk

theorem eqIntS_loop (a b : List Int) (hn : a.length ≤ 140737488351232) (hab : a.length = b.length) (d : Nat) : ∀ (k j : Nat), j ≤ a.length → a.length - j = d → d < k →
    laws_eqIntS.l0 k a b j = some (decide (a.drop j = b.drop j)) := by
  induction d with
  | zero =>
    intro k j hj hd hk
    obtain ⟨k, rfl⟩ : ∃ m, k = m + 1 := ⟨k - 1, by omega⟩
    simp only [laws_eqIntS.l0]; rw [if_neg (by omega), List.drop_of_length_le (by omega), List.drop_of_length_le (by omega)]; simp
  | succ d ih =>
    intro k j hj hd hk
    obtain ⟨k, rfl⟩ : ∃ m, k = m + 1 := ⟨k - 1, by omega⟩
    simp only [laws_eqIntS.l0]; rw [if_pos (by omega), if_pos (by omega), if_pos (by omega), wrap_next (n := a.length) (by omega) hn, rd_at, rd_at, drop_at a j (by omega), drop_at b j (by omega)]
    by_cases h : a.getD j 0 = b.getD j 0
    · rw [if_pos h, ih k (j + 1) (by omega) (by omega) (by omega)]; simp only [List.cons.injEq, h, true_and]
    · rw [if_neg h]; simp only [List.cons.injEq, h, false_and, decide_false]

theorem eqIntS_eq (a b : List Int) (hn : a.length ≤ 140737488351232) (k : Nat) (hk : a.length < k) : laws_eqIntS.f k a b = some (decide (a = b)) := by
  unfold laws_eqIntS.f
  by_cases h : a.length = b.length
  · rw [if_pos (by omega)]
    have := eqIntS_loop a b hn h a.length k 0 (by omega) (by omega) hk
    simpa using this
  · rw [if_neg (by omega), decide_eq_false (fun e => h (by rw [e]))]

theorem eqIntS_self (a : List Int) (hn : a.length ≤ 140737488351232) (k : Nat) (hk : a.length < k) : laws_eqIntS.f k a a = some true := by
  rw [eqIntS_eq a a hn k hk]; simp

/-- some number of the first is less -/
def lessL : List Int → List Int → Bool
  | x :: a, y :: b => decide (x < y) || lessL a b
  | _, _ => false

/-- some number of the first is greater -/
def moreL : List Int → List Int → Bool
  | x :: a, y :: b => decide (x > y) || moreL a b
  | _, _ => false

theorem more_less (a : List Int) : ∀ b, moreL b a = lessL a b := by
  induction a with
  | nil => intro b; cases b <;> rfl
  | cons x a ih => intro b; cases b with
    | nil => rfl
    | cons y b => simp [moreL, lessL, ih b]

theorem eq_of_neither (a : List Int) : ∀ b, a.length = b.length → (a = b ↔ lessL a b = false ∧ moreL a b = false) := by
  induction a with
  | nil => intro b h; cases b with
    | nil => simp [lessL, moreL]
    | cons y b => simp at h
  | cons x a ih => intro b h; cases b with
    | nil => simp at h
    | cons y b =>
      have := ih b (by simpa using h)
      simp only [List.cons.injEq, this, lessL, moreL, Bool.or_eq_false_iff, decide_eq_false_iff_not]
      constructor
      · rintro ⟨rfl, h1, h2⟩; exact ⟨⟨by omega, h1⟩, by omega, h2⟩
      · rintro ⟨⟨h1, h2⟩, h3, h4⟩; exact ⟨by omega, h2, h4⟩

/-- what both answer -/
def told (l m : Bool) : Int := if l = true then (if m = true then 2 else -1) else if m = true then 1 else 0

theorem spec_cmp_end (k : Nat) (hk : 0 < k) (l m : Bool) : (if l = true then spec_CompareVec.j2 k l m m else spec_CompareVec.j2 k l m false) = some (told l m, true) := by
  obtain ⟨k, rfl⟩ : ∃ q, k = q + 1 := ⟨k - 1, by omega⟩
  cases l <;> cases m <;> simp [spec_CompareVec.j2, told]

theorem spec_cmp_loop (a b : List Int) (hab : a.length = b.length) (hn : a.length ≤ 140737488351232) (d : Nat) : ∀ (k j : Nat) (l m : Bool), j ≤ a.length → a.length - j = d → d + 1 < k →
    spec_CompareVec.l0 k a b l m a.length j = some (told (l || lessL (a.drop j) (b.drop j)) (m || moreL (a.drop j) (b.drop j)), true) := by
  induction d with
  | zero =>
    intro k j l m hj hd hk
    obtain ⟨k, rfl⟩ : ∃ q, k = q + 1 := ⟨k - 1, by omega⟩
    simp only [spec_CompareVec.l0]; rw [if_neg (by omega), List.drop_of_length_le (by omega), List.drop_of_length_le (by omega), spec_cmp_end k (by omega)]; simp [lessL, moreL]
  | succ d ih =>
    intro k j l m hj hd hk
    obtain ⟨k, rfl⟩ : ∃ q, k = q + 1 := ⟨k - 1, by omega⟩
    simp only [spec_CompareVec.l0]
    rw [if_pos (by omega), wrap_next (n := a.length) (by omega) hn, rd_at, rd_at, drop_at a j (by omega), drop_at b j (by omega)]
    have i1 := fun l m => ih k (j + 1) l m (by omega) (by omega) (by omega)
    simp only [i1]
    have p1 : (0 : Int) ≤ (j : Int) := by omega
    have p2 : (j : Int) < (a.length : Int) := by omega
    have p3 : (j : Int) < (b.length : Int) := by omega
    cases l <;> cases m <;> simp [p1, p2, p3, lessL, moreL]

theorem below_loop (a b : List Int) (hab : a.length = b.length) (hn : a.length ≤ 140737488351232) (d : Nat) : ∀ (k j : Nat), j ≤ a.length → a.length - j = d → d < k →
    impl_below.l0 k b a a.length j = some (!moreL (a.drop j) (b.drop j)) := by
  induction d with
  | zero =>
    intro k j hj hd hk
    obtain ⟨k, rfl⟩ : ∃ q, k = q + 1 := ⟨k - 1, by omega⟩
    simp only [impl_below.l0]; rw [if_neg (by omega), List.drop_of_length_le (by omega), List.drop_of_length_le (by omega)]; rfl
  | succ d ih =>
    intro k j hj hd hk
    obtain ⟨k, rfl⟩ : ∃ q, k = q + 1 := ⟨k - 1, by omega⟩
    simp only [impl_below.l0]
    rw [if_pos (by omega), if_pos (by omega), if_pos (by omega), if_pos (by omega), wrap_next (n := a.length) (by omega) hn, rd_at, rd_at, drop_at a j (by omega), drop_at b j (by omega)]
    by_cases h : a.getD j 0 > b.getD j 0
    · rw [if_pos h]; simp only [moreL]; rw [decide_eq_true h]; rfl
    · rw [if_neg h, ih k (j + 1) (by omega) (by omega) (by omega)]; simp only [moreL]; rw [decide_eq_false h]; rfl

theorem below_eq (a b : List Int) (hab : a.length = b.length) (hn : a.length ≤ 140737488351232) (k : Nat) (hk : a.length < k) : impl_below.f k a b = some (!moreL a b) := by
  unfold impl_below.f
  have := below_loop a b hab hn a.length k 0 (by omega) (by omega) hk
  simpa using this

theorem Equal_loop (a b : List Int) (hab : a.length = b.length) (hn : a.length ≤ 140737488351232) (d : Nat) : ∀ (k j : Nat), j ≤ a.length → a.length - j = d → d < k →
    slices_Equal_int_int.l0 k a b a.length j = some (decide (a.drop j = b.drop j)) := by
  induction d with
  | zero =>
    intro k j hj hd hk
    obtain ⟨k, rfl⟩ : ∃ m, k = m + 1 := ⟨k - 1, by omega⟩
    simp only [slices_Equal_int_int.l0]; rw [if_neg (by omega), List.drop_of_length_le (by omega), List.drop_of_length_le (by omega)]; simp
  | succ d ih =>
    intro k j hj hd hk
    obtain ⟨k, rfl⟩ : ∃ m, k = m + 1 := ⟨k - 1, by omega⟩
    simp only [slices_Equal_int_int.l0]; rw [if_pos (by omega), if_pos (by omega), if_pos (by omega), if_pos (by omega), wrap_next (n := a.length) (by omega) hn, rd_at, rd_at, drop_at a j (by omega), drop_at b j (by omega)]
    by_cases h : a.getD j 0 = b.getD j 0
    · rw [if_pos h, ih k (j + 1) (by omega) (by omega) (by omega)]; simp only [List.cons.injEq, h, true_and]
    · rw [if_neg h]; simp only [List.cons.injEq, h, false_and, decide_false]

theorem Equal_eq (a b : List Int) (hn : a.length ≤ 140737488351232) (k : Nat) (hk : a.length < k) : slices_Equal_int_int.f k a b = some (decide (a = b)) := by
  unfold slices_Equal_int_int.f
  by_cases h : a.length = b.length
  · rw [if_pos (by omega)]
    have := Equal_loop a b h hn a.length k 0 (by omega) (by omega) hk
    simpa using this
  · rw [if_neg (by omega), decide_eq_false (fun e => h (by rw [e]))]

/-- what both answer -/
def cmpOf (a b : List Int) : Int × Bool := if a.length = b.length ∧ a.length ≤ 6 then (told (lessL a b) (moreL a b), true) else (0, false)

theorem spec_CompareVec_eq (a b : List Int) (k : Nat) (hk : 9 < k) : spec_CompareVec.f k a b = some (cmpOf a b) := by
  obtain ⟨k, rfl⟩ : ∃ m, k = m + 1 := ⟨k - 1, by omega⟩
  unfold spec_CompareVec.f cmpOf
  by_cases h : a.length = b.length
  · rw [if_pos (by omega)]
    simp only [spec_CompareVec.j0]
    by_cases h6 : a.length ≤ 6
    · rw [if_neg (by simp; omega), if_pos ⟨h, h6⟩]
      have := spec_cmp_loop a b h (by omega) a.length k 0 false false (by omega) (by omega) (by omega)
      simpa using this
    · rw [if_pos (by simp; omega), if_neg (by omega)]
  · rw [if_neg (by omega)]
    simp only [spec_CompareVec.j0]; rw [if_pos trivial, if_neg (by omega)]

theorem impl_CompareVec_eq (a b : List Int) (k : Nat) (hk : 8 < k) : impl_CompareVec.f k a b = some (cmpOf a b) := by
  unfold impl_CompareVec.f impl_pairOk.f cmpOf
  by_cases h : a.length = b.length
  · rw [if_pos (by omega)]
    by_cases h6 : a.length ≤ 6
    · rw [if_pos ⟨h, h6⟩, decide_eq_true (by omega)]
      simp only [Option.bind_some, if_true]
      rw [Equal_eq a b (by omega) k (by omega), below_eq a b h (by omega) k (by omega), below_eq b a h.symm (by omega) k (by omega), more_less a b]
      have := eq_of_neither a b h
      cases h1 : lessL a b <;> cases h2 : moreL a b <;> simp [h1, h2, told] at * <;> simp [this]
    · rw [if_neg (by omega), decide_eq_false (by omega)]; simp
  · rw [if_neg (by omega), if_neg (by omega)]; simp

/-- THE PURE STATEMENT of the law. -/
def FnExactCompareVec_Pure : Prop := ∀ (l0 : (List Int)) (l1 : (List Int)), (l0.length ≤ 9223372036854775807 ∧ ∀ y ∈ l0, (Lit.int .i64 y).wf = true) → (l1.length ≤ 9223372036854775807 ∧ ∀ y ∈ l1, (Lit.int .i64 y).wf = true) → ∃ k, laws_FnExactCompareVec.f k l0 l1 = some true

theorem FnExactCompareVec : FnExactCompareVec_Pure := by
  intro a b _ _
  by_cases ha : (a.length : Int) > 1048576
  · exact ⟨0, by unfold laws_FnExactCompareVec.f; rw [if_pos ha]⟩
  by_cases hb : (b.length : Int) > 1048576
  · exact ⟨0, by unfold laws_FnExactCompareVec.f; rw [if_neg ha, if_pos hb]⟩
  refine ⟨a.length + b.length + 15, ?_⟩
  unfold laws_FnExactCompareVec.f
  rw [if_neg ha, if_neg hb, toIntS_eq a (by omega) _ (by omega)]
  simp only [Option.bind_some]
  rw [toIntS_eq b (by omega) _ (by omega)]
  simp only [Option.bind_some]
  rw [spec_CompareVec_eq a b _ (by omega), impl_CompareVec_eq a b _ (by omega)]
  simp only [Option.bind_some, if_true, bne_self_eq_false]
  rw [show a.length + b.length + 15 = (a.length + b.length + 14) + 1 from rfl]
  simp only [laws_FnExactCompareVec.j0, Bool.false_eq_true, if_false]
  rw [toIntS_eq a (by omega) _ (by omega)]; simp only [Option.bind_some]
  rw [eqIntS_self _ (by omega) _ (by omega)]; simp only [Option.bind_some, if_true]
  rw [toIntS_eq b (by omega) _ (by omega)]; simp only [Option.bind_some]
  rw [eqIntS_self _ (by omega) _ (by omega)]; simp only [Option.bind_some, if_true]

end Go.Proofs.Ytmhhjmadpnkelaa.Pure
