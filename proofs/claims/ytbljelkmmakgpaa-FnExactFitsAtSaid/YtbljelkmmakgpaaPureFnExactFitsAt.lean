/- The program tells whether a time fits a cron as the reference does: the law answers true. No conditions but the reach of a slice. -/
import Derived.Test.YtbljelkmmakgpaaPFnExactFitsAtx3
namespace Go.Proofs.Ytbljelkmmakgpaa.Pure
open Go.RowKit Go.Proofs.Ytbljelkmmakgpaa.PFnExactFitsAt Go.Proofs.YtbljelkmmakgpaaW.PrintWords Go.Proofs.YtbljelkmmakgpaaW.PrintLast

theorem wrap_small {x : Int} (h0 : -9223372036854775808 ≤ x) (h1 : x ≤ 9223372036854775807) : wrap64 x = x := by
  unfold wrap64
  omega

theorem wrap_next {j n : Nat} (h : j < n) (hn : n ≤ 140737488351232) : wrap64 ((j : Int) + 1) = ((j + 1 : Nat) : Int) := by
  rw [wrap_small (by omega) (by omega)]; rfl

theorem rd_at (l : List Int) (j : Nat) : rd l (j : Int) = l.getD j 0 := by
  unfold rd; rw [Int.toNat_natCast]

theorem drop_at (l : List Int) (j : Nat) (h : j < l.length) : l.drop j = l.getD j 0 :: l.drop (j + 1) := by
  rw [List.drop_eq_getElem_cons h, List.getD_eq_getElem?_getD, List.getElem?_eq_getElem h]; rfl

theorem take_at (l : List Int) (j : Nat) (h : j < l.length) : l.take (j + 1) = l.take j ++ [l.getD j 0] := by
  rw [List.take_succ_eq_append_getElem h, List.getD_eq_getElem?_getD, List.getElem?_eq_getElem h]; rfl

theorem toIntS_loop (l : List Int) (hn : l.length ≤ 140737488351232) (d : Nat) : ∀ (k j : Nat) (x : List Int), x.length = l.length → x.take j = l.take j → j ≤ l.length → l.length - j = d → d < k →
    laws_toIntS.l0 k l x j = some l := by
  induction d with
  | zero =>
    intro k j x hx ht hj hd hk
    obtain ⟨k, rfl⟩ : ∃ m, k = m + 1 := ⟨k - 1, by omega⟩
    simp only [laws_toIntS.l0]; rw [if_neg (by omega)]
    rw [List.take_of_length_le (by omega), List.take_of_length_le (by omega)] at ht; rw [ht]
  | succ d ih =>
    intro k j x hx ht hj hd hk
    obtain ⟨k, rfl⟩ : ∃ m, k = m + 1 := ⟨k - 1, by omega⟩
    simp only [laws_toIntS.l0]; rw [if_pos (by omega), if_pos (by omega), if_pos (by omega), wrap_next (n := l.length) (by omega) hn, rd_at, Int.toNat_natCast]
    refine ih k (j + 1) _ (by rw [List.length_set]; exact hx) ?_ (by omega) (by omega) (by omega)
    rw [take_at l j (by omega), List.take_succ_eq_append_getElem (by rw [List.length_set]; omega), List.getElem_set_self, List.take_set_of_le (by omega), ht]

theorem toIntS_eq (l : List Int) (hn : l.length ≤ 17592186044416) (k : Nat) (hk : l.length < k) : laws_toIntS.f k l = some l := by
  unfold laws_toIntS.f
  rw [if_pos (by omega), Int.toNat_natCast, if_pos (by omega)]
  exact toIntS_loop l (by omega) l.length k 0 _ (by simp) (by simp) (by omega) (by omega) hk

theorem eqIntS_loop (a b : List Int) (hn : a.length ≤ 140737488351232) (hab : a.length = b.length) (d : Nat) : ∀ (k j : Nat), j ≤ a.length → a.length - j = d → d < k →
    laws_eqIntS.l0 k a b j = some (decide (a.drop j = b.drop j)) := by
  induction d with
  | zero =>
    intro k j hj hd hk
    obtain ⟨k, rfl⟩ : ∃ m, k = m + 1 := ⟨k - 1, by omega⟩
    simp only [laws_eqIntS.l0]; rw [if_neg (by omega), List.drop_of_length_le (by omega), List.drop_of_length_le (by omega)]; simp
  | succ d ih =>
    intro k j hj hd hk
    obtain ⟨k, rfl⟩ : ∃ m, k = m + 1 := ⟨k - 1, by omega⟩
    simp only [laws_eqIntS.l0]; rw [if_pos (by omega), if_pos (by omega), if_pos (by omega), wrap_next (n := a.length) (by omega) hn, rd_at, rd_at, drop_at a j (by omega), drop_at b j (by omega)]
    by_cases h : a.getD j 0 = b.getD j 0
    · rw [if_pos h, ih k (j + 1) (by omega) (by omega) (by omega)]; simp only [List.cons.injEq, h, true_and]
    · rw [if_neg h]; simp only [List.cons.injEq, h, false_and, decide_false]

theorem eqIntS_eq (a b : List Int) (hn : a.length ≤ 140737488351232) (k : Nat) (hk : a.length < k) : laws_eqIntS.f k a b = some (decide (a = b)) := by
  unfold laws_eqIntS.f
  by_cases h : a.length = b.length
  · rw [if_pos (by omega)]
    have := eqIntS_loop a b hn h a.length k 0 (by omega) (by omega) hk
    simpa using this
  · rw [if_neg (by omega), decide_eq_false (fun e => h (by rw [e]))]

theorem eqIntS_self (a : List Int) (hn : a.length ≤ 140737488351232) (k : Nat) (hk : a.length < k) : laws_eqIntS.f k a a = some true := by
  rw [eqIntS_eq a a hn k hk]; simp

theorem in_eq (a b c : Int) : impl_in.f a b c = some (decide (b ≤ a ∧ a ≤ c)) := by
  unfold impl_in.f
  by_cases h : a ≥ b
  · rw [if_pos h]; congr 1; simp only [decide_eq_decide]; omega
  · rw [if_neg h, decide_eq_false (by omega)]
theorem l1In_eq (a b c : Int) : spec_l1In.f a b c = some (decide (b ≤ a ∧ a ≤ c)) := by
  unfold spec_l1In.f
  by_cases h : a ≥ b
  · rw [if_pos h]; congr 1; simp only [decide_eq_decide]; omega
  · rw [if_neg h, decide_eq_false (by omega)]

theorem szInt_eq (l : List Int) (a : Int) (h : l.length ≤ 9223372036854775807) (h0 : 0 ≤ a) (h1 : a ≤ 1048576) : laws_szIntS.f l a = some (if (l.length : Int) ≤ a then a - (l.length : Int) else -1) := by
  unfold laws_szIntS.f
  rw [wrap_small (by omega) (by omega)]
  by_cases h1 : (l.length : Int) ≤ a
  · rw [if_neg (by omega), if_pos h1]
  · rw [if_pos (by omega), if_neg h1]

theorem szCron_eq (a b c : List Int) (ha : a.length ≤ 9223372036854775807) (hb : b.length ≤ 9223372036854775807) (hc : c.length ≤ 9223372036854775807) :
    ∃ r, laws_szCron.f a b c 1048576 = some r ∧ (r < 0 ∨ (¬ r < 0 ∧ a.length ≤ 1048576 ∧ b.length ≤ 1048576 ∧ c.length ≤ 1048576)) := by
  unfold laws_szCron.f
  rw [szInt_eq a _ ha (by omega) (by omega)]; simp only [Option.bind_some]
  by_cases h1 : (a.length : Int) ≤ 1048576
  · rw [if_pos h1, if_neg (by omega), szInt_eq b _ hb (by omega) (by omega)]; simp only [Option.bind_some]
    by_cases h2 : (b.length : Int) ≤ 1048576 - (a.length : Int)
    · rw [if_pos h2, if_neg (by omega), szInt_eq c _ hc (by omega) (by omega)]; simp only [Option.bind_some]
      by_cases h3 : (c.length : Int) ≤ 1048576 - (a.length : Int) - (b.length : Int)
      · rw [if_pos h3, if_neg (by omega)]; exact ⟨_, rfl, .inr ⟨by omega, by omega, by omega, by omega⟩⟩
      · rw [if_neg h3, if_pos (by omega)]; exact ⟨_, rfl, .inl (by omega)⟩
    · rw [if_neg h2, if_pos (by omega)]; exact ⟨_, rfl, .inl (by omega)⟩
  · rw [if_neg h1, if_pos (by omega)]; exact ⟨_, rfl, .inl (by omega)⟩

theorem toCron_eq (a b c : List Int) (ha : a.length ≤ 1048576) (hb : b.length ≤ 1048576) (hc : c.length ≤ 1048576) (k : Nat) (hk : 1048576 < k) : laws_toCron.f k a b c = some (a, b, c) := by
  unfold laws_toCron.f
  rw [toIntS_eq a (by omega) k (by omega)]; simp only [Option.bind_some]
  rw [toIntS_eq b (by omega) k (by omega)]; simp only [Option.bind_some]
  rw [toIntS_eq c (by omega) k (by omega)]; simp only [Option.bind_some]

theorem eqCron_self (a b c : List Int) (ha : a.length ≤ 1048576) (hb : b.length ≤ 1048576) (hc : c.length ≤ 1048576) (k : Nat) (hk : 1048576 < k) : laws_eqCron.f k a b c a b c = some true := by
  unfold laws_eqCron.f
  rw [eqIntS_self a (by omega) k (by omega)]; simp only [Option.bind_some, if_true]
  rw [eqIntS_self b (by omega) k (by omega)]; simp only [Option.bind_some, if_true]
  rw [eqIntS_self c (by omega) k (by omega)]; simp only [Option.bind_some, if_true]

/-- element j lies in 0..q and is above the one ahead of it -/
def riseOk (l : List Int) (q : Int) (j : Nat) : Bool := decide (0 ≤ l.getD j 0 ∧ l.getD j 0 ≤ q ∧ (0 < j → l.getD (j - 1) 0 < l.getD j 0))
def riseFrom (l : List Int) (q : Int) (j : Nat) : Nat → Bool
  | 0 => true
  | d + 1 => riseOk l q j && riseFrom l q (j + 1) d

theorem rise_round (l : List Int) (q : Int) (j : Nat) (x : Option Bool) (hn : l.length ≤ 1048576) (hj : j < l.length) :
    ((some (decide (0 ≤ l.getD j 0 ∧ l.getD j 0 ≤ q)) : Option Bool).bind fun t => (if t = true then (if (j : Int) > 0 then (if 0 ≤ (wrap64 ((j : Int) - 1)) then (if (wrap64 ((j : Int) - 1)) < (l.length : Int) then (if (rd l (wrap64 ((j : Int) - 1))) ≥ l.getD j 0 then (some false) else x) else (none)) else (none)) else x) else (some false)))
      = if riseOk l q j = true then x else some false := by
  simp only [Option.bind_some]
  by_cases h1 : 0 ≤ l.getD j 0 ∧ l.getD j 0 ≤ q
  · rw [decide_eq_true h1, if_pos rfl]
    by_cases h2 : (j : Int) > 0
    · have e : wrap64 ((j : Int) - 1) = ((j - 1 : Nat) : Int) := by rw [wrap_small (by omega) (by omega)]; omega
      rw [if_pos h2, e, if_pos (by omega), if_pos (by omega), rd_at]
      by_cases h3 : l.getD (j - 1) 0 ≥ l.getD j 0
      · rw [if_pos h3, if_neg (by unfold riseOk; simp only [decide_eq_true_eq]; intro h; have := h.2.2 (by omega); omega)]
      · rw [if_neg h3, if_pos (by unfold riseOk; simp only [decide_eq_true_eq]; exact ⟨h1.1, h1.2, fun _ => by omega⟩)]
    · rw [if_neg h2, if_pos (by unfold riseOk; simp only [decide_eq_true_eq]; exact ⟨h1.1, h1.2, fun h => by omega⟩)]
  · rw [decide_eq_false h1, if_neg (by simp), if_neg (by unfold riseOk; simp only [decide_eq_true_eq]; exact fun h => h1 ⟨h.1, h.2.1⟩)]

theorem l6List_loop (l : List Int) (q : Int) (hn : l.length ≤ 1048576) (d : Nat) : ∀ (k j : Nat), j ≤ l.length → l.length - j = d → d < k →
    spec_l6List.l0 k l q l l.length j = some (riseFrom l q j d && decide (0 < l.length)) := by
  induction d with
  | zero =>
    intro k j hj hd hk
    obtain ⟨k, rfl⟩ : ∃ m, k = m + 1 := ⟨k - 1, by omega⟩
    simp only [spec_l6List.l0]; rw [if_neg (by omega)]; simp only [riseFrom, Bool.true_and]; congr 1; simp only [decide_eq_decide]; omega
  | succ d ih =>
    intro k j hj hd hk
    obtain ⟨k, rfl⟩ : ∃ m, k = m + 1 := ⟨k - 1, by omega⟩
    simp only [spec_l6List.l0]; rw [if_pos (by omega), if_pos (by omega), if_pos (by omega), l1In_eq, wrap_next (n := l.length) (by omega) (by omega), rd_at, rise_round l q j _ hn (by omega), ih k (j + 1) (by omega) (by omega) (by omega)]
    simp only [riseFrom]
    cases riseOk l q j <;> simp

theorem l6List_eq (l : List Int) (q : Int) (hn : l.length ≤ 1048576) (k : Nat) (hk : l.length < k) : spec_l6List.f k l q = some (riseFrom l q 0 l.length && decide (0 < l.length)) := by
  unfold spec_l6List.f
  exact l6List_loop l q hn l.length k 0 (by omega) (by omega) hk

theorem rising_loop (l : List Int) (b : Int) (hn : l.length ≤ 1048576) (d : Nat) : ∀ (k j : Nat), j ≤ l.length → l.length - j = d → d < k →
    impl_rising.l0 k l b l l.length j = some (riseFrom l (wrap64 (b - 1)) j d) := by
  induction d with
  | zero =>
    intro k j hj hd hk
    obtain ⟨k, rfl⟩ : ∃ m, k = m + 1 := ⟨k - 1, by omega⟩
    simp only [impl_rising.l0]; rw [if_neg (by omega)]; rfl
  | succ d ih =>
    intro k j hj hd hk
    obtain ⟨k, rfl⟩ : ∃ m, k = m + 1 := ⟨k - 1, by omega⟩
    simp only [impl_rising.l0]; rw [if_pos (by omega), if_pos (by omega), if_pos (by omega), in_eq, wrap_next (n := l.length) (by omega) (by omega), rd_at, rise_round l _ j _ hn (by omega), ih k (j + 1) (by omega) (by omega) (by omega)]
    simp only [riseFrom]
    cases riseOk l (wrap64 (b - 1)) j <;> simp

theorem rising_eq (l : List Int) (b : Int) (hn : l.length ≤ 1048576) (k : Nat) (hk : l.length < k) : impl_rising.f k l b = some (riseFrom l (wrap64 (b - 1)) 0 l.length) := by
  unfold impl_rising.f
  exact rising_loop l b hn l.length k 0 (by omega) (by omega) hk

/-- a list of a good cron -/
def listOk (l : List Int) (q : Int) : Bool := riseFrom l q 0 l.length && decide (0 < l.length)
def cronOk (a b c : List Int) : Bool := listOk a 59 && (listOk b 23 && listOk c 6)

theorem spec_GoodCron_eq (a b c : List Int) (ha : a.length ≤ 1048576) (hb : b.length ≤ 1048576) (hc : c.length ≤ 1048576) (k : Nat) (hk : 1048576 < k) : spec_GoodCron.f k a b c = some (cronOk a b c) := by
  unfold spec_GoodCron.f cronOk
  rw [l6List_eq a 59 ha k (by omega), l6List_eq b 23 hb k (by omega), l6List_eq c 6 hc k (by omega)]
  show ((some (listOk a 59) : Option Bool).bind fun t => (if t = true then ((some (listOk b 23) : Option Bool).bind fun t => (if t = true then ((some (listOk c 6) : Option Bool).bind fun t => some t) else some false)) else some false)) = _
  cases listOk a 59 <;> cases listOk b 23 <;> simp

theorem w60 : wrap64 (60 - 1) = 59 := wrap_small (by omega) (by omega)
theorem w24 : wrap64 (24 - 1) = 23 := wrap_small (by omega) (by omega)
theorem w7 : wrap64 (7 - 1) = 6 := wrap_small (by omega) (by omega)
theorem n1 : wrap64 (0 + 1) = 1 := wrap_small (by omega) (by omega)
theorem n2 : wrap64 (1 + 1) = 2 := wrap_small (by omega) (by omega)
theorem n3 : wrap64 (2 + 1) = 3 := wrap_small (by omega) (by omega)

theorem impl_GoodCron_eq (a b c : List Int) (ha : a.length ≤ 1048576) (hb : b.length ≤ 1048576) (hc : c.length ≤ 1048576) (k : Nat) (hk : 1048580 < k) : impl_GoodCron.f k a b c = some (cronOk a b c) := by
  obtain ⟨k, rfl⟩ : ∃ m, k = m + 4 := ⟨k - 4, by omega⟩
  unfold impl_GoodCron.f cronOk
  have e0 : impl_GoodCron.L a b c 0 = a := rfl
  have e1 : impl_GoodCron.L a b c 1 = b := rfl
  have e2 : impl_GoodCron.L a b c 2 = c := rfl
  have r0 : rd [60, 24, 7] 0 = 60 := rfl
  have r1 : rd [60, 24, 7] 1 = 24 := rfl
  have r2 : rd [60, 24, 7] 2 = 7 := rfl
  simp only [impl_GoodCron.l0, impl_bounds.f, Option.bind_some, e0, n1, e1, n2, e2, n3, r0, r1, r2]
  rw [if_pos (show (0 : Int) < 3 by omega), if_pos (show (1 : Int) < 3 by omega), if_pos (show (2 : Int) < 3 by omega), if_neg (show ¬ (3 : Int) < 3 by omega)]
  rw [rising_eq a 60 ha _ (by omega), rising_eq b 24 hb _ (by omega), rising_eq c 7 hc _ (by omega), w60, w24, w7]
  simp only [Option.bind_some, listOk]
  by_cases z0 : a.length = 0
  · rw [if_pos (by omega), decide_eq_false (p := 0 < a.length) (by omega)]; simp
  rw [if_neg (by omega), decide_eq_true (p := 0 < a.length) (by omega)]
  cases riseFrom a 59 0 a.length <;> simp only [Bool.false_eq_true, if_false, if_true, Bool.false_and, Bool.and_true, Bool.true_and]
  by_cases z1 : b.length = 0
  · rw [if_pos (by omega), decide_eq_false (p := 0 < b.length) (by omega)]; simp
  rw [if_neg (by omega), decide_eq_true (p := 0 < b.length) (by omega)]
  cases riseFrom b 23 0 b.length <;> simp only [Bool.false_eq_true, if_false, if_true, Bool.false_and, Bool.and_true, Bool.true_and]
  by_cases z2 : c.length = 0
  · rw [if_pos (by omega), decide_eq_false (p := 0 < c.length) (by omega)]; simp
  rw [if_neg (by omega), decide_eq_true (p := 0 < c.length) (by omega)]
  cases riseFrom c 6 0 c.length <;> simp

theorem l1Has_loop (l : List Int) (x : Int) (hn : l.length ≤ 1048576) (d : Nat) : ∀ (k j : Nat), j ≤ l.length → l.length - j = d → d < k →
    spec_l1Has.l0 k x l l.length j = some (decide (x ∈ l.drop j)) := by
  induction d with
  | zero =>
    intro k j hj hd hk
    obtain ⟨k, rfl⟩ : ∃ m, k = m + 1 := ⟨k - 1, by omega⟩
    simp only [spec_l1Has.l0]; rw [if_neg (by omega), List.drop_of_length_le (by omega)]; simp
  | succ d ih =>
    intro k j hj hd hk
    obtain ⟨k, rfl⟩ : ∃ m, k = m + 1 := ⟨k - 1, by omega⟩
    simp only [spec_l1Has.l0]; rw [if_pos (by omega), if_pos (by omega), if_pos (by omega), wrap_next (n := l.length) (by omega) (by omega), rd_at, drop_at l j (by omega)]
    by_cases h : l.getD j 0 = x
    · rw [if_pos h, ← h]; simp
    · rw [if_neg h, ih k (j + 1) (by omega) (by omega) (by omega)]; congr 1; simp only [decide_eq_decide, List.mem_cons]
      constructor
      · exact .inr
      · rintro (h1 | h1)
        · exact absurd h1.symm h
        · exact h1

theorem l1Has_eq (l : List Int) (x : Int) (hn : l.length ≤ 1048576) (k : Nat) (hk : l.length < k) : spec_l1Has.f k l x = some (decide (x ∈ l)) := by
  unfold spec_l1Has.f
  have := l1Has_loop l x hn l.length k 0 (by omega) (by omega) hk
  simpa using this

theorem Index_loop (l : List Int) (x : Int) (hn : l.length ≤ 1048576) (d : Nat) : ∀ (k j : Nat), j ≤ l.length → l.length - j = d → d < k →
    ∃ r, slices_Index_int_int.l0 k l x l.length j = some r ∧ decide (r ≥ 0) = decide (x ∈ l.drop j) := by
  induction d with
  | zero =>
    intro k j hj hd hk
    obtain ⟨k, rfl⟩ : ∃ m, k = m + 1 := ⟨k - 1, by omega⟩
    refine ⟨-1, ?_, ?_⟩
    · simp only [slices_Index_int_int.l0]; rw [if_neg (by omega)]
    · rw [List.drop_of_length_le (by omega)]; simp
  | succ d ih =>
    intro k j hj hd hk
    obtain ⟨k, rfl⟩ : ∃ m, k = m + 1 := ⟨k - 1, by omega⟩
    by_cases h : x = l.getD j 0
    · refine ⟨j, ?_, ?_⟩
      · simp only [slices_Index_int_int.l0]; rw [if_pos (by omega), if_pos (by omega), if_pos (by omega), rd_at, if_pos h]
      · rw [drop_at l j (by omega), ← h, decide_eq_true (by omega)]; simp
    · obtain ⟨r, hr, hd2⟩ := ih k (j + 1) (by omega) (by omega) (by omega)
      refine ⟨r, ?_, ?_⟩
      · simp only [slices_Index_int_int.l0]; rw [if_pos (by omega), if_pos (by omega), if_pos (by omega), rd_at, if_neg h, wrap_next (n := l.length) (by omega) (by omega), hr]
      · rw [hd2, drop_at l j (by omega)]; simp only [decide_eq_decide, List.mem_cons]
        constructor
        · exact .inr
        · rintro (h1 | h1)
          · exact absurd h1 h
          · exact h1

theorem Contains_eq (l : List Int) (x : Int) (hn : l.length ≤ 1048576) (k : Nat) (hk : l.length < k) : slices_Contains_int_int.f k l x = some (decide (x ∈ l)) := by
  unfold slices_Contains_int_int.f slices_Index_int_int.f
  obtain ⟨r, hr, hd⟩ := Index_loop l x hn l.length k 0 (by omega) (by omega) hk
  rw [show (0 : Int) = ((0 : Nat) : Int) from rfl, hr]; simp only [Option.bind_some]
  rw [show ((0 : Nat) : Int) = 0 from rfl, hd]; simp

/-- a time fits -/
def fitsB (a b c : List Int) (t : Int) : Bool := decide (Int.tmod t 60 ∈ a) && (decide (Int.tmod (wrap64 (Int.tdiv t 60)) 24 ∈ b) && decide (Int.tmod (wrap64 (Int.tdiv t 1440)) 7 ∈ c))

theorem spec_fits_eq (a b c : List Int) (t : Int) (ha : a.length ≤ 1048576) (hb : b.length ≤ 1048576) (hc : c.length ≤ 1048576) (k : Nat) (hk : 1048576 < k) : spec_l6Fits.f k a b c t = some (fitsB a b c t) := by
  unfold spec_l6Fits.f fitsB
  rw [l1Has_eq a _ ha k (by omega), l1Has_eq b _ hb k (by omega), l1Has_eq c _ hc k (by omega)]
  simp only [Option.bind_some]
  cases decide (Int.tmod t 60 ∈ a) <;> cases decide (Int.tmod (wrap64 (Int.tdiv t 60)) 24 ∈ b) <;> simp

theorem impl_fits_eq (a b c : List Int) (t : Int) (ha : a.length ≤ 1048576) (hb : b.length ≤ 1048576) (hc : c.length ≤ 1048576) (k : Nat) (hk : 1048576 < k) : impl_Cron_fits.f k a b c t = some (fitsB a b c t) := by
  unfold impl_Cron_fits.f fitsB
  rw [Contains_eq a _ ha k (by omega), Contains_eq b _ hb k (by omega), Contains_eq c _ hc k (by omega)]
  simp only [Option.bind_some]
  cases decide (Int.tmod t 60 ∈ a) <;> cases decide (Int.tmod (wrap64 (Int.tdiv t 60)) 24 ∈ b) <;> simp

/-- THE PURE STATEMENT of the law. -/
def FnExactFitsAt_Pure : Prop := ∀ (l0_0 : (List Int)) (l0_1 : (List Int)) (l0_2 : (List Int)) (a1 : Int), (l0_0.length ≤ 9223372036854775807 ∧ ∀ y ∈ l0_0, (Lit.int .i64 y).wf = true) → (l0_1.length ≤ 9223372036854775807 ∧ ∀ y ∈ l0_1, (Lit.int .i64 y).wf = true) → (l0_2.length ≤ 9223372036854775807 ∧ ∀ y ∈ l0_2, (Lit.int .i64 y).wf = true) → (Lit.int .i64 a1).wf = true → ∃ k, laws_FnExactFitsAt.f k l0_0 l0_1 l0_2 a1 = some true

theorem FnExactFitsAt : FnExactFitsAt_Pure := by
  intro a b c t qa qb qc _
  obtain ⟨r, hs, hr | ⟨hr, ha, hb, hc⟩⟩ := szCron_eq a b c qa.1 qb.1 qc.1
  · exact ⟨0, by unfold laws_FnExactFitsAt.f; rw [hs]; simp only [Option.bind_some]; rw [if_pos hr]⟩
  · have hm : ∃ v : Bool × Bool, ∀ k, 1060000 < k → spec_FitsAt.f k a b c t = some v ∧ impl_FitsAt.f k a b c t = some v := by
      refine ⟨if cronOk a b c = true then (if 0 ≤ t ∧ t ≤ 1000000 then (fitsB a b c t, true) else (false, false)) else (false, false), fun k hk => ?_⟩
      unfold spec_FitsAt.f impl_FitsAt.f impl_isTime.f
      rw [spec_GoodCron_eq a b c ha hb hc _ (by omega), impl_GoodCron_eq a b c ha hb hc _ (by omega), spec_fits_eq a b c t ha hb hc _ (by omega), impl_fits_eq a b c t ha hb hc _ (by omega), in_eq, l1In_eq]
      cases cronOk a b c <;> by_cases ht : 0 ≤ t ∧ t ≤ 1000000 <;> simp [ht]
    obtain ⟨v, hv⟩ := hm
    refine ⟨1060010 + 1, ?_⟩
    unfold laws_FnExactFitsAt.f
    rw [hs]; simp only [Option.bind_some]
    rw [if_neg hr, toCron_eq a b c ha hb hc _ (by omega)]; simp only [Option.bind_some]
    rw [(hv _ (by omega)).1, (hv _ (by omega)).2]; simp only [Option.bind_some, bne_self_eq_false, if_true, laws_FnExactFitsAt.j0, Bool.false_eq_true, if_false]
    rw [toCron_eq a b c ha hb hc _ (by omega)]; simp only [Option.bind_some]
    rw [eqCron_self a b c ha hb hc _ (by omega)]; simp

end Go.Proofs.Ytbljelkmmakgpaa.Pure
