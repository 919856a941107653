/- Vectors are joined in any order, to the least one that is at least both: the law answers true. No conditions but the reach of a slice. -/
import Derived.Test.YtmhhjmadpnkelaaPFnVectorsx4
namespace Go.Proofs.Ytmhhjmadpnkelaa.Pure
open Go.RowKit Go.Proofs.Ytmhhjmadpnkelaa.PFnVectors Go.Proofs.YtmhhjmadpnkelaaW.PrintWords Go.Proofs.YtmhhjmadpnkelaaW.PrintLast
set_option linter.unusedVariables false
set_option linter.unusedSimpArgs false

theorem wrap_small {x : Int} (h0 : -9223372036854775808 ≤ x) (h1 : x ≤ 9223372036854775807) : wrap64 x = x := by
  unfold wrap64
  omega

theorem wrap_next {j n : Nat} (h : j < n) (hn : n ≤ 140737488351232) : wrap64 ((j : Int) + 1) = ((j + 1 : Nat) : Int) := by
  rw [wrap_small (by omega) (by omega)]; rfl

theorem rd_at (l : List Int) (j : Nat) : rd l (j : Int) = l.getD j 0 := by
  unfold rd; rw [Int.toNat_natCast]

theorem drop_at (l : List Int) (j : Nat) (h : j < l.length) : l.drop j = l.getD j 0 :: l.drop (j + 1) := by
  rw [List.drop_eq_getElem_cons h, List.getD_eq_getElem?_getD, List.getElem?_eq_getElem h]; rfl

theorem take_at (l : List Int) (j : Nat) (h : j < l.length) : l.take (j + 1) = l.take j ++ [l.getD j 0] := by
  rw [List.take_succ_eq_append_getElem h, List.getD_eq_getElem?_getD, List.getElem?_eq_getElem h]; rfl

theorem spec_join_loop (a b : List Int) (hab : a.length = b.length) (hn : a.length ≤ 140737488351232) (d : Nat) : ∀ (k j : Nat) (x : List Int), j ≤ a.length → a.length - j = d → x.length + d ≤ 17592186044416 → d < k →
    spec_JoinVec.l0 k a b x a.length j = some (x ++ List.zipWith mx (a.drop j) (b.drop j), true) := by
  induction d with
  | zero =>
    intro k j x hj hd hx hk
    obtain ⟨k, rfl⟩ : ∃ m, k = m + 1 := ⟨k - 1, by omega⟩
    simp only [spec_JoinVec.l0]; rw [if_neg (by omega), List.drop_of_length_le (by omega)]; simp
  | succ d ih =>
    intro k j x hj hd hx hk
    obtain ⟨k, rfl⟩ : ∃ m, k = m + 1 := ⟨k - 1, by omega⟩
    simp only [spec_JoinVec.l0]; rw [if_pos (by omega), if_pos (by omega), if_pos (by omega), if_pos (by omega), wrap_next (n := a.length) (by omega) hn, rd_at, rd_at, drop_at a j (by omega), drop_at b j (by omega)]
    have e : ∀ v, v = mx (a.getD j 0) (b.getD j 0) → spec_JoinVec.l0 k a b (x ++ [v]) a.length ((j + 1 : Nat) : Int) = some (x ++ List.zipWith mx (a.getD j 0 :: a.drop (j + 1)) (b.getD j 0 :: b.drop (j + 1)), true) := by
      intro v hv
      rw [ih k (j + 1) (x ++ [v]) (by omega) (by omega) (by simp; omega) (by omega), hv]; simp
    by_cases h : b.getD j 0 > a.getD j 0
    · rw [if_pos h, if_pos (by omega)]; exact e _ (by unfold mx; omega)
    · rw [if_neg h, if_pos (by omega)]; exact e _ (by unfold mx; omega)

theorem impl_join_loop (a b : List Int) (hab : a.length = b.length) (hn : a.length ≤ 140737488351232) (d : Nat) : ∀ (k j : Nat) (x : List Int), j ≤ a.length → a.length - j = d → x.length + d ≤ 17592186044416 → d < k →
    impl_joined.l0 k b x a a.length j = some (x ++ List.zipWith mx (a.drop j) (b.drop j)) := by
  induction d with
  | zero =>
    intro k j x hj hd hx hk
    obtain ⟨k, rfl⟩ : ∃ m, k = m + 1 := ⟨k - 1, by omega⟩
    simp only [impl_joined.l0]; rw [if_neg (by omega), List.drop_of_length_le (by omega)]; simp
  | succ d ih =>
    intro k j x hj hd hx hk
    obtain ⟨k, rfl⟩ : ∃ m, k = m + 1 := ⟨k - 1, by omega⟩
    simp only [impl_joined.l0]; rw [if_pos (by omega), if_pos (by omega), if_pos (by omega), if_pos (by omega), if_pos (by omega), wrap_next (n := a.length) (by omega) hn, rd_at, rd_at, drop_at a j (by omega), drop_at b j (by omega)]
    rw [ih k (j + 1) (x ++ [_]) (by omega) (by omega) (by simp; omega) (by omega)]; simp

/-- what both answer -/
def joinOf (a b : List Int) : List Int × Bool := if a.length = b.length ∧ a.length ≤ 6 then (List.zipWith mx a b, true) else ([], false)

theorem joinOf_length (a b : List Int) : (joinOf a b).1.length ≤ 6 := by
  unfold joinOf; split
  · simp; omega
  · simp

theorem spec_JoinVec_eq (a b : List Int) (k : Nat) (hk : 8 < k) : spec_JoinVec.f k a b = some (joinOf a b) := by
  obtain ⟨k, rfl⟩ : ∃ m, k = m + 1 := ⟨k - 1, by omega⟩
  unfold spec_JoinVec.f joinOf
  by_cases h : a.length = b.length
  · rw [if_pos (by omega)]
    simp only [spec_JoinVec.j0]
    by_cases h6 : a.length ≤ 6
    · rw [if_neg (by simp; omega), if_pos ⟨h, h6⟩]
      have := spec_join_loop a b h (by omega) a.length k 0 [] (by omega) (by omega) (by simp; omega) (by omega)
      simpa using this
    · rw [if_pos (by simp; omega), if_neg (by omega)]
  · rw [if_neg (by omega)]
    simp only [spec_JoinVec.j0]; rw [if_pos trivial, if_neg (by omega)]

theorem impl_joined_eq (a b : List Int) (h : a.length = b.length) (h6 : a.length ≤ 100) (k : Nat) (hk : a.length < k) : impl_joined.f k a b = some (List.zipWith mx a b) := by
  unfold impl_joined.f
  have := impl_join_loop a b h (by omega) a.length k 0 [] (by omega) (by omega) (by simp; omega) (by omega)
  simpa using this

theorem impl_JoinVec_eq (a b : List Int) (k : Nat) (hk : 8 < k) : impl_JoinVec.f k a b = some (joinOf a b) := by
  unfold impl_JoinVec.f impl_pairOk.f joinOf
  by_cases h : a.length = b.length
  · rw [if_pos (by omega)]
    by_cases h6 : a.length ≤ 6
    · rw [if_pos ⟨h, h6⟩, decide_eq_true (by omega)]
      simp only [Option.bind_some, if_true]
      rw [impl_joined_eq a b h (by omega) k (by omega)]; rfl
    · rw [if_neg (by omega), decide_eq_false (by omega)]; simp
  · rw [if_neg (by omega), if_neg (by omega)]; simp

/-- some number of the first is less -/
def lessL : List Int → List Int → Bool
  | x :: a, y :: b => decide (x < y) || lessL a b
  | _, _ => false

/-- some number of the first is greater -/
def moreL : List Int → List Int → Bool
  | x :: a, y :: b => decide (x > y) || moreL a b
  | _, _ => false

theorem more_less (a : List Int) : ∀ b, moreL b a = lessL a b := by
  induction a with
  | nil => intro b; cases b <;> rfl
  | cons x a ih => intro b; cases b with
    | nil => rfl
    | cons y b => simp [moreL, lessL, ih b]

theorem eq_of_neither (a : List Int) : ∀ b, a.length = b.length → (a = b ↔ lessL a b = false ∧ moreL a b = false) := by
  induction a with
  | nil => intro b h; cases b with
    | nil => simp [lessL, moreL]
    | cons y b => simp at h
  | cons x a ih => intro b h; cases b with
    | nil => simp at h
    | cons y b =>
      have := ih b (by simpa using h)
      simp only [List.cons.injEq, this, lessL, moreL, Bool.or_eq_false_iff, decide_eq_false_iff_not]
      constructor
      · rintro ⟨rfl, h1, h2⟩; exact ⟨⟨by omega, h1⟩, by omega, h2⟩
      · rintro ⟨⟨h1, h2⟩, h3, h4⟩; exact ⟨by omega, h2, h4⟩

/-- what both answer -/
def told (l m : Bool) : Int := if l = true then (if m = true then 2 else -1) else if m = true then 1 else 0

theorem spec_cmp_end (k : Nat) (hk : 0 < k) (l m : Bool) : (if l = true then spec_CompareVec.j2 k l m m else spec_CompareVec.j2 k l m false) = some (told l m, true) := by
  obtain ⟨k, rfl⟩ : ∃ q, k = q + 1 := ⟨k - 1, by omega⟩
  cases l <;> cases m <;> simp [spec_CompareVec.j2, told]

theorem spec_cmp_loop (a b : List Int) (hab : a.length = b.length) (hn : a.length ≤ 140737488351232) (d : Nat) : ∀ (k j : Nat) (l m : Bool), j ≤ a.length → a.length - j = d → d + 1 < k →
    spec_CompareVec.l0 k a b l m a.length j = some (told (l || lessL (a.drop j) (b.drop j)) (m || moreL (a.drop j) (b.drop j)), true) := by
  induction d with
  | zero =>
    intro k j l m hj hd hk
    obtain ⟨k, rfl⟩ : ∃ q, k = q + 1 := ⟨k - 1, by omega⟩
    simp only [spec_CompareVec.l0]; rw [if_neg (by omega), List.drop_of_length_le (by omega), List.drop_of_length_le (by omega), spec_cmp_end k (by omega)]; simp [lessL, moreL]
  | succ d ih =>
    intro k j l m hj hd hk
    obtain ⟨k, rfl⟩ : ∃ q, k = q + 1 := ⟨k - 1, by omega⟩
    simp only [spec_CompareVec.l0]
    rw [if_pos (by omega), wrap_next (n := a.length) (by omega) hn, rd_at, rd_at, drop_at a j (by omega), drop_at b j (by omega)]
    have i1 := fun l m => ih k (j + 1) l m (by omega) (by omega) (by omega)
    simp only [i1]
    have p1 : (0 : Int) ≤ (j : Int) := by omega
    have p2 : (j : Int) < (a.length : Int) := by omega
    have p3 : (j : Int) < (b.length : Int) := by omega
    cases l <;> cases m <;> simp [p1, p2, p3, lessL, moreL]

theorem below_loop (a b : List Int) (hab : a.length = b.length) (hn : a.length ≤ 140737488351232) (d : Nat) : ∀ (k j : Nat), j ≤ a.length → a.length - j = d → d < k →
    impl_below.l0 k b a a.length j = some (!moreL (a.drop j) (b.drop j)) := by
  induction d with
  | zero =>
    intro k j hj hd hk
    obtain ⟨k, rfl⟩ : ∃ q, k = q + 1 := ⟨k - 1, by omega⟩
    simp only [impl_below.l0]; rw [if_neg (by omega), List.drop_of_length_le (by omega), List.drop_of_length_le (by omega)]; rfl
  | succ d ih =>
    intro k j hj hd hk
    obtain ⟨k, rfl⟩ : ∃ q, k = q + 1 := ⟨k - 1, by omega⟩
    simp only [impl_below.l0]
    rw [if_pos (by omega), if_pos (by omega), if_pos (by omega), if_pos (by omega), wrap_next (n := a.length) (by omega) hn, rd_at, rd_at, drop_at a j (by omega), drop_at b j (by omega)]
    by_cases h : a.getD j 0 > b.getD j 0
    · rw [if_pos h]; simp only [moreL]; rw [decide_eq_true h]; rfl
    · rw [if_neg h, ih k (j + 1) (by omega) (by omega) (by omega)]; simp only [moreL]; rw [decide_eq_false h]; rfl

theorem below_eq (a b : List Int) (hab : a.length = b.length) (hn : a.length ≤ 140737488351232) (k : Nat) (hk : a.length < k) : impl_below.f k a b = some (!moreL a b) := by
  unfold impl_below.f
  have := below_loop a b hab hn a.length k 0 (by omega) (by omega) hk
  simpa using this

theorem Equal_loop (a b : List Int) (hab : a.length = b.length) (hn : a.length ≤ 140737488351232) (d : Nat) : ∀ (k j : Nat), j ≤ a.length → a.length - j = d → d < k →
    slices_Equal_int_int.l0 k a b a.length j = some (decide (a.drop j = b.drop j)) := by
  induction d with
  | zero =>
    intro k j hj hd hk
    obtain ⟨k, rfl⟩ : ∃ m, k = m + 1 := ⟨k - 1, by omega⟩
    simp only [slices_Equal_int_int.l0]; rw [if_neg (by omega), List.drop_of_length_le (by omega), List.drop_of_length_le (by omega)]; simp
  | succ d ih =>
    intro k j hj hd hk
    obtain ⟨k, rfl⟩ : ∃ m, k = m + 1 := ⟨k - 1, by omega⟩
    simp only [slices_Equal_int_int.l0]; rw [if_pos (by omega), if_pos (by omega), if_pos (by omega), if_pos (by omega), wrap_next (n := a.length) (by omega) hn, rd_at, rd_at, drop_at a j (by omega), drop_at b j (by omega)]
    by_cases h : a.getD j 0 = b.getD j 0
    · rw [if_pos h, ih k (j + 1) (by omega) (by omega) (by omega)]; simp only [List.cons.injEq, h, true_and]
    · rw [if_neg h]; simp only [List.cons.injEq, h, false_and, decide_false]

theorem Equal_eq (a b : List Int) (hn : a.length ≤ 140737488351232) (k : Nat) (hk : a.length < k) : slices_Equal_int_int.f k a b = some (decide (a = b)) := by
  unfold slices_Equal_int_int.f
  by_cases h : a.length = b.length
  · rw [if_pos (by omega)]
    have := Equal_loop a b h hn a.length k 0 (by omega) (by omega) hk
    simpa using this
  · rw [if_neg (by omega), decide_eq_false (fun e => h (by rw [e]))]

/-- what both answer -/
def cmpOf (a b : List Int) : Int × Bool := if a.length = b.length ∧ a.length ≤ 6 then (told (lessL a b) (moreL a b), true) else (0, false)

theorem spec_CompareVec_eq (a b : List Int) (k : Nat) (hk : 9 < k) : spec_CompareVec.f k a b = some (cmpOf a b) := by
  obtain ⟨k, rfl⟩ : ∃ m, k = m + 1 := ⟨k - 1, by omega⟩
  unfold spec_CompareVec.f cmpOf
  by_cases h : a.length = b.length
  · rw [if_pos (by omega)]
    simp only [spec_CompareVec.j0]
    by_cases h6 : a.length ≤ 6
    · rw [if_neg (by simp; omega), if_pos ⟨h, h6⟩]
      have := spec_cmp_loop a b h (by omega) a.length k 0 false false (by omega) (by omega) (by omega)
      simpa using this
    · rw [if_pos (by simp; omega), if_neg (by omega)]
  · rw [if_neg (by omega)]
    simp only [spec_CompareVec.j0]; rw [if_pos trivial, if_neg (by omega)]

theorem impl_CompareVec_eq (a b : List Int) (k : Nat) (hk : 8 < k) : impl_CompareVec.f k a b = some (cmpOf a b) := by
  unfold impl_CompareVec.f impl_pairOk.f cmpOf
  by_cases h : a.length = b.length
  · rw [if_pos (by omega)]
    by_cases h6 : a.length ≤ 6
    · rw [if_pos ⟨h, h6⟩, decide_eq_true (by omega)]
      simp only [Option.bind_some, if_true]
      rw [Equal_eq a b (by omega) k (by omega), below_eq a b h (by omega) k (by omega), below_eq b a h.symm (by omega) k (by omega), more_less a b]
      have := eq_of_neither a b h
      cases h1 : lessL a b <;> cases h2 : moreL a b <;> simp [h1, h2, told] at * <;> simp [this]
    · rw [if_neg (by omega), decide_eq_false (by omega)]; simp
  · rw [if_neg (by omega), if_neg (by omega)]; simp

theorem same_loop (a b : List Int) (hab : a.length = b.length) (hn : a.length ≤ 140737488351232) (d : Nat) : ∀ (k j : Nat), j ≤ a.length → a.length - j = d → d < k →
    laws_sameInts.l0 k a b a.length j = some (decide (a.drop j = b.drop j)) := by
  induction d with
  | zero =>
    intro k j hj hd hk
    obtain ⟨k, rfl⟩ : ∃ m, k = m + 1 := ⟨k - 1, by omega⟩
    simp only [laws_sameInts.l0]; rw [if_neg (by omega), List.drop_of_length_le (by omega), List.drop_of_length_le (by omega)]; simp
  | succ d ih =>
    intro k j hj hd hk
    obtain ⟨k, rfl⟩ : ∃ m, k = m + 1 := ⟨k - 1, by omega⟩
    simp only [laws_sameInts.l0]; rw [if_pos (by omega), if_pos (by omega), if_pos (by omega), if_pos (by omega), wrap_next (n := a.length) (by omega) hn, rd_at, rd_at, drop_at a j (by omega), drop_at b j (by omega)]
    by_cases h : a.getD j 0 = b.getD j 0
    · rw [if_pos h, ih k (j + 1) (by omega) (by omega) (by omega)]; simp only [List.cons.injEq, h, true_and]
    · rw [if_neg h]; simp only [List.cons.injEq, h, false_and, decide_false]

theorem same_eq (a b : List Int) (hn : a.length ≤ 140737488351232) (k : Nat) (hk : a.length < k) : laws_sameInts.f k a b = some (decide (a = b)) := by
  unfold laws_sameInts.f
  by_cases h : a.length = b.length
  · rw [if_pos (by omega)]
    have := same_loop a b h hn a.length k 0 (by omega) (by omega) hk
    simpa using this
  · rw [if_neg (by omega), decide_eq_false (fun e => h (by rw [e]))]

theorem next_ok (l : List Int) (s t : Int) (h0 : 0 ≤ s) (h1 : s ≤ 1000000000000) (hl : l.length ≤ 1048576) : ∃ v t', spec_l1Cur_next.f l s t = some (v, s + 1, t') := by
  unfold spec_l1Cur_next.f
  rw [wrap_small (x := s + 1) (by omega) (by omega)]
  by_cases h : s < l.length
  · rw [if_pos h, if_pos h0, if_pos (by omega)]; exact ⟨_, _, rfl⟩
  · rw [if_neg h, if_neg (by omega)]; exact ⟨_, _, rfl⟩

theorem tmod_lt (v n : Int) (hn : 0 < n) : -n < Int.tmod v n ∧ Int.tmod v n < n := by
  have h1 := Int.tmod_lt_of_pos v hn
  have h2 := Int.tmod_lt_of_pos (-v) hn
  rw [Int.neg_tmod] at h2
  omega

theorem pick_ok (l : List Int) (s t n : Int) (h0 : 0 ≤ s) (h1 : s ≤ 100000000000) (hl : l.length ≤ 1048576) (hn : 1 < n) (hn2 : n ≤ 200) : ∃ v s' t', spec_l1Cur_pick.f l s t n = some (v, s', t') ∧ -n < v ∧ v < n ∧ 0 ≤ s' ∧ s' ≤ s + 1 := by
  obtain ⟨v, t', h⟩ := next_ok l s t h0 (by omega) hl
  unfold spec_l1Cur_pick.f
  rw [if_neg (by omega), h]; simp only [Option.bind_some]
  rw [if_neg (by omega), if_neg (by omega)]
  have := tmod_lt v n (by omega)
  exact ⟨_, _, _, rfl, this.1, this.2, by omega, by omega⟩

theorem one_ok (l : List Int) (s t n : Int) (h0 : 0 ≤ s) (h1 : s ≤ 100000000000) (hl : l.length ≤ 1048576) (hn : 1 < n) (hn2 : n ≤ 200) : ∃ v s' t', spec_l1Cur_one.f l s t n = some (v, s', t') ∧ 0 ≤ s' ∧ s' ≤ s + 1 := by
  obtain ⟨v, s', t', h, _, _, h2, h3⟩ := pick_ok l s t n h0 h1 hl hn hn2
  unfold spec_l1Cur_one.f
  rw [h]; exact ⟨_, _, _, rfl, h2, h3⟩

theorem vec_loop (l : List Int) (hl : l.length ≤ 1048576) (d : Nat) : ∀ (n : Int) (x : List Int) (s t : Int), n.toNat = d → x.length + d ≤ 1000000 → 0 ≤ s → s + d ≤ 1000000000 →
    ∃ y s' t', Ev (fun k => spec_l1Cur_vec.l0 k n x l s t) (y, s', t') ∧ y.length = x.length + d ∧ 0 ≤ s' ∧ s' ≤ s + d := by
  induction d with
  | zero =>
    intro n x s t hn hx h0 h1
    refine ⟨x, s, t, Ev.step (f := fun _ => some (x, s, t)) (fun k => ?_) (Ev.now _), by omega, h0, by omega⟩
    simp only [spec_l1Cur_vec.l0]; rw [if_neg (by omega)]
  | succ d ih =>
    intro n x s t hn hx h0 h1
    obtain ⟨v, s', t', h, _, _, h2, h3⟩ := pick_ok l s t 4 h0 (by omega) hl (by omega) (by omega)
    obtain ⟨y, s2, t2, hy, hyl, h4, h5⟩ := ih (n - 1) (x ++ [v]) s' t' (by omega) (by simp; omega) h2 (by omega)
    refine ⟨y, s2, t2, Ev.step (fun k => ?_) hy, by rw [hyl]; simp; omega, h4, by omega⟩
    simp only [spec_l1Cur_vec.l0]; rw [if_pos (by omega), h]; simp only [Option.bind_some]
    rw [if_pos (by omega), wrap_small (by omega) (by omega)]

theorem drawvec_ok (l : List Int) (hl : l.length ≤ 1048576) : ∃ a b, Ev (fun k => spec_DrawCompareVec.f k l) (a, b) ∧ a.length ≤ 9 ∧ b.length ≤ 9 := by
  obtain ⟨p, s1, t1, hp, hp1, hp2, h1, h2⟩ := pick_ok l 0 0 8 (by omega) (by omega) hl (by omega) (by omega)
  obtain ⟨o, s2, t2, ho, h3, h4⟩ := one_ok l s1 t1 12 h1 (by omega) hl (by omega) (by omega)
  obtain ⟨a, s3, t3, ⟨Ka, ha⟩, hal, h5, h6⟩ := vec_loop l hl p.toNat p [] s2 t2 rfl (by simp; omega) h3 (by omega)
  obtain ⟨b, s4, t4, ⟨Kb, hb⟩, hbl, h7, h8⟩ := vec_loop l hl (if o = true then p + 1 else p).toNat (if o = true then p + 1 else p) [] s3 t3 rfl (by simp; split <;> omega) h5 (by split <;> omega)
  replace ha : ∀ k, Ka ≤ k → spec_l1Cur_vec.l0 k p [] l s2 t2 = some (a, s3, t3) := ha
  replace hb : ∀ k, Kb ≤ k → spec_l1Cur_vec.l0 k (if o = true then p + 1 else p) [] l s3 t3 = some (b, s4, t4) := hb
  refine ⟨a, b, ⟨Ka + Kb, fun k hk => ?_⟩, by rw [hal]; simp; omega, by rw [hbl]; simp; split <;> omega⟩
  show spec_DrawCompareVec.f k l = some (a, b)
  unfold spec_DrawCompareVec.f spec_l1Cur_vec.f
  rw [hp]; simp only [Option.bind_some]
  rw [ho]; simp only [Option.bind_some]
  rw [ha k (by omega)]; simp only [Option.bind_some]
  rw [wrap_small (x := p + 1) (by omega) (by omega), hb k (by omega)]; rfl

theorem more_join : ∀ a b : List Int, a.length = b.length → moreL a (List.zipWith mx a b) = false ∧ moreL b (List.zipWith mx a b) = false
  | [], [], _ => ⟨rfl, rfl⟩
  | [], _ :: _, h => by simp at h
  | _ :: _, [], h => by simp at h
  | x :: a, y :: b, h => by
    have ih := more_join a b (by simpa using h)
    simp only [List.zipWith_cons_cons, moreL, ih.1, ih.2, Bool.or_false]
    exact ⟨decide_eq_false (by unfold mx; omega), decide_eq_false (by unfold mx; omega)⟩
theorem join_comm : ∀ a b : List Int, List.zipWith mx a b = List.zipWith mx b a
  | [], [] => rfl
  | [], _ :: _ => rfl
  | _ :: _, [] => rfl
  | x :: a, y :: b => by
    rw [List.zipWith_cons_cons, List.zipWith_cons_cons, join_comm a b]
    congr 1
    unfold mx; omega
theorem join_self : ∀ a : List Int, List.zipWith mx a a = a
  | [] => rfl
  | x :: a => by
    rw [List.zipWith_cons_cons, join_self a]
    congr 1
    unfold mx; omega
theorem join_less : ∀ a b : List Int, a.length = b.length → moreL a b = false → List.zipWith mx a b = b
  | [], [], _, _ => rfl
  | [], _ :: _, h, _ => by simp at h
  | _ :: _, [], h, _ => by simp at h
  | x :: a, y :: b, h, hm => by
    simp only [moreL, Bool.or_eq_false_iff, decide_eq_false_iff_not] at hm
    rw [List.zipWith_cons_cons, join_less a b (by simpa using h) hm.2]
    congr 1
    unfold mx; omega

/-- THE PURE STATEMENT of the law. -/
def FnVectors_Pure : Prop := ∀ (l0 : (List Int)), (l0.length ≤ 9223372036854775807 ∧ ∀ y ∈ l0, (Lit.int .u8 y).wf = true) → ∃ k, laws_FnVectors.f k l0 = some true

theorem FnVectors : FnVectors_Pure := by
  intro l _
  by_cases h1 : (l.length : Int) > 1048576
  · exact ⟨0, by unfold laws_FnVectors.f; rw [if_pos h1]⟩
  obtain ⟨a, b, ⟨K, hK⟩, ha9, hb9⟩ := drawvec_ok l (by omega)
  replace hK : ∀ k, K ≤ k → spec_DrawCompareVec.f k l = some (a, b) := hK
  obtain ⟨m, hm⟩ : ∃ m, m = K + 100 := ⟨_, rfl⟩
  have hj := joinOf_length a b
  refine ⟨m + 1, ?_⟩
  unfold laws_FnVectors.f spec_DrawJoinVec.f
  rw [if_neg h1, hK _ (by omega)]; simp only [Option.bind_some]
  rw [impl_JoinVec_eq a b _ (by omega), spec_JoinVec_eq a b _ (by omega), impl_CompareVec_eq a b _ (by omega), spec_CompareVec_eq a b _ (by omega)]; simp only [Option.bind_some, bne_self_eq_false, Bool.false_eq_true, if_false]
  rw [same_eq _ _ (by omega) _ (by omega)]; simp only [Option.bind_some, decide_true, if_true, laws_FnVectors.j0, Bool.false_eq_true, if_false]
  by_cases hok : a.length = b.length ∧ a.length ≤ 6
  · have ej : joinOf a b = (List.zipWith mx a b, true) := by unfold joinOf; rw [if_pos hok]
    obtain ⟨j, hjj⟩ : ∃ j, j = List.zipWith mx a b := ⟨_, rfl⟩
    have hjl : j.length = a.length := by rw [hjj, List.length_zipWith]; omega
    have hm1 := more_join a b hok.1
    rw [← hjj] at ej hm1
    have ec : cmpOf a b = (told (lessL a b) (moreL a b), true) := by unfold cmpOf; rw [if_pos hok]
    have e1 : joinOf b a = (j, true) := by unfold joinOf; rw [if_pos (by omega), join_comm, hjj]
    have e2 : cmpOf a j = (told (lessL a j) false, true) := by unfold cmpOf; rw [if_pos (by omega), hm1.1]
    have e3 : cmpOf b j = (told (lessL b j) false, true) := by unfold cmpOf; rw [if_pos (by omega), hm1.2]
    have e4 : cmpOf b a = (told (moreL a b) (lessL a b), true) := by unfold cmpOf; rw [if_pos (by omega), more_less, ← more_less b a]
    have e5 : joinOf j j = (j, true) := by unfold joinOf; rw [if_pos (by omega), join_self]
    rw [impl_JoinVec_eq b a _ (by omega), impl_JoinVec_eq, impl_CompareVec_eq _ _ _ (by omega), impl_CompareVec_eq _ _ _ (by omega), impl_CompareVec_eq _ _ _ (by omega)]
    · rw [ej, ec]; simp only [Option.bind_some, if_true]
      rw [e1, e2, e3, e4, e5]; simp only [Option.bind_some, if_true]
      rw [same_eq _ _ (by omega) _ (by omega)]; simp only [Option.bind_some, decide_true, if_true]
      have t1 : told (lessL a j) false ≤ 0 := by cases lessL a j <;> simp [told]
      have t2 : told (lessL b j) false ≤ 0 := by cases lessL b j <;> simp [told]
      rw [if_pos t1, if_pos t2, same_eq _ _ (by omega) _ (by omega)]
      have key : moreL a b = false → j = b := fun h => by rw [hjj]; exact join_less a b hok.1 h
      cases hl : lessL a b <;> cases hmm : moreL a b
      · simp [told, wrap64]
      · simp [told, wrap64]
      · have := key hmm; simp [told, wrap64, this]
      · simp [told, wrap64]
    · omega
  · have ej : joinOf a b = ([], false) := by unfold joinOf; rw [if_neg hok]
    rw [ej]; simp

end Go.Proofs.Ytmhhjmadpnkelaa.Pure
