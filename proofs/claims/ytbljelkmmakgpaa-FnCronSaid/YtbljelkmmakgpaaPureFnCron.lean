/- The next time fits, and none between does, and a week has as many as are told: the law answers true. No conditions but the reach of a slice. -/
import Derived.Test.YtbljelkmmakgpaaPFnCronx7
namespace Go.Proofs.Ytbljelkmmakgpaa.Pure
open Go.RowKit Go.Proofs.Ytbljelkmmakgpaa.PFnCron Go.Proofs.YtbljelkmmakgpaaW.PrintWords Go.Proofs.YtbljelkmmakgpaaW.PrintLast
set_option linter.unusedVariables false
set_option linter.unusedSimpArgs false

theorem wrap_small {x : Int} (h0 : -9223372036854775808 ≤ x) (h1 : x ≤ 9223372036854775807) : wrap64 x = x := by
  unfold wrap64
  omega

theorem wrap_next {j n : Nat} (h : j < n) (hn : n ≤ 140737488351232) : wrap64 ((j : Int) + 1) = ((j + 1 : Nat) : Int) := by
  rw [wrap_small (by omega) (by omega)]; rfl

theorem rd_at (l : List Int) (j : Nat) : rd l (j : Int) = l.getD j 0 := by
  unfold rd; rw [Int.toNat_natCast]

theorem drop_at (l : List Int) (j : Nat) (h : j < l.length) : l.drop j = l.getD j 0 :: l.drop (j + 1) := by
  rw [List.drop_eq_getElem_cons h, List.getD_eq_getElem?_getD, List.getElem?_eq_getElem h]; rfl

theorem take_at (l : List Int) (j : Nat) (h : j < l.length) : l.take (j + 1) = l.take j ++ [l.getD j 0] := by
  rw [List.take_succ_eq_append_getElem h, List.getD_eq_getElem?_getD, List.getElem?_eq_getElem h]; rfl

theorem in_eq (a b c : Int) : impl_in.f a b c = some (decide (b ≤ a ∧ a ≤ c)) := by
  unfold impl_in.f
  by_cases h : a ≥ b
  · rw [if_pos h]; congr 1; simp only [decide_eq_decide]; omega
  · rw [if_neg h, decide_eq_false (by omega)]
theorem l1In_eq (a b c : Int) : spec_l1In.f a b c = some (decide (b ≤ a ∧ a ≤ c)) := by
  unfold spec_l1In.f
  by_cases h : a ≥ b
  · rw [if_pos h]; congr 1; simp only [decide_eq_decide]; omega
  · rw [if_neg h, decide_eq_false (by omega)]

/-- element j lies in 0..q and is above the one ahead of it -/
def riseOk (l : List Int) (q : Int) (j : Nat) : Bool := decide (0 ≤ l.getD j 0 ∧ l.getD j 0 ≤ q ∧ (0 < j → l.getD (j - 1) 0 < l.getD j 0))
def riseFrom (l : List Int) (q : Int) (j : Nat) : Nat → Bool
  | 0 => true
  | d + 1 => riseOk l q j && riseFrom l q (j + 1) d

theorem rise_round (l : List Int) (q : Int) (j : Nat) (x : Option Bool) (hn : l.length ≤ 1048576) (hj : j < l.length) :
    ((some (decide (0 ≤ l.getD j 0 ∧ l.getD j 0 ≤ q)) : Option Bool).bind fun t => (if t = true then (if (j : Int) > 0 then (if 0 ≤ (wrap64 ((j : Int) - 1)) then (if (wrap64 ((j : Int) - 1)) < (l.length : Int) then (if (rd l (wrap64 ((j : Int) - 1))) ≥ l.getD j 0 then (some false) else x) else (none)) else (none)) else x) else (some false)))
      = if riseOk l q j = true then x else some false := by
  simp only [Option.bind_some]
  by_cases h1 : 0 ≤ l.getD j 0 ∧ l.getD j 0 ≤ q
  · rw [decide_eq_true h1, if_pos rfl]
    by_cases h2 : (j : Int) > 0
    · have e : wrap64 ((j : Int) - 1) = ((j - 1 : Nat) : Int) := by rw [wrap_small (by omega) (by omega)]; omega
      rw [if_pos h2, e, if_pos (by omega), if_pos (by omega), rd_at]
      by_cases h3 : l.getD (j - 1) 0 ≥ l.getD j 0
      · rw [if_pos h3, if_neg (by unfold riseOk; simp only [decide_eq_true_eq]; intro h; have := h.2.2 (by omega); omega)]
      · rw [if_neg h3, if_pos (by unfold riseOk; simp only [decide_eq_true_eq]; exact ⟨h1.1, h1.2, fun _ => by omega⟩)]
    · rw [if_neg h2, if_pos (by unfold riseOk; simp only [decide_eq_true_eq]; exact ⟨h1.1, h1.2, fun h => by omega⟩)]
  · rw [decide_eq_false h1, if_neg (by simp), if_neg (by unfold riseOk; simp only [decide_eq_true_eq]; exact fun h => h1 ⟨h.1, h.2.1⟩)]

theorem rising_loop (l : List Int) (b : Int) (hn : l.length ≤ 1048576) (d : Nat) : ∀ (k j : Nat), j ≤ l.length → l.length - j = d → d < k →
    impl_rising.l0 k l b l l.length j = some (riseFrom l (wrap64 (b - 1)) j d) := by
  induction d with
  | zero =>
    intro k j hj hd hk
    obtain ⟨k, rfl⟩ : ∃ m, k = m + 1 := ⟨k - 1, by omega⟩
    simp only [impl_rising.l0]; rw [if_neg (by omega)]; rfl
  | succ d ih =>
    intro k j hj hd hk
    obtain ⟨k, rfl⟩ : ∃ m, k = m + 1 := ⟨k - 1, by omega⟩
    simp only [impl_rising.l0]; rw [if_pos (by omega), if_pos (by omega), if_pos (by omega), in_eq, wrap_next (n := l.length) (by omega) (by omega), rd_at, rise_round l _ j _ hn (by omega), ih k (j + 1) (by omega) (by omega) (by omega)]
    simp only [riseFrom]
    cases riseOk l (wrap64 (b - 1)) j <;> simp

theorem rising_eq (l : List Int) (b : Int) (hn : l.length ≤ 1048576) (k : Nat) (hk : l.length < k) : impl_rising.f k l b = some (riseFrom l (wrap64 (b - 1)) 0 l.length) := by
  unfold impl_rising.f
  exact rising_loop l b hn l.length k 0 (by omega) (by omega) hk

theorem l6List_loop (l : List Int) (q : Int) (hn : l.length ≤ 1048576) (d : Nat) : ∀ (k j : Nat), j ≤ l.length → l.length - j = d → d < k →
    spec_l6List.l0 k l q l l.length j = some (riseFrom l q j d && decide (0 < l.length)) := by
  induction d with
  | zero =>
    intro k j hj hd hk
    obtain ⟨k, rfl⟩ : ∃ m, k = m + 1 := ⟨k - 1, by omega⟩
    simp only [spec_l6List.l0]; rw [if_neg (by omega)]; simp only [riseFrom, Bool.true_and]; congr 1; simp only [decide_eq_decide]; omega
  | succ d ih =>
    intro k j hj hd hk
    obtain ⟨k, rfl⟩ : ∃ m, k = m + 1 := ⟨k - 1, by omega⟩
    simp only [spec_l6List.l0]; rw [if_pos (by omega), if_pos (by omega), if_pos (by omega), l1In_eq, wrap_next (n := l.length) (by omega) (by omega), rd_at, rise_round l q j _ hn (by omega), ih k (j + 1) (by omega) (by omega) (by omega)]
    simp only [riseFrom]
    cases riseOk l q j <;> simp

theorem l6List_eq (l : List Int) (q : Int) (hn : l.length ≤ 1048576) (k : Nat) (hk : l.length < k) : spec_l6List.f k l q = some (riseFrom l q 0 l.length && decide (0 < l.length)) := by
  unfold spec_l6List.f
  exact l6List_loop l q hn l.length k 0 (by omega) (by omega) hk

/-- a list of a good cron -/
def listOk (l : List Int) (q : Int) : Bool := riseFrom l q 0 l.length && decide (0 < l.length)
def cronOk (a b c : List Int) : Bool := listOk a 59 && (listOk b 23 && listOk c 6)

theorem spec_GoodCron_eq (a b c : List Int) (ha : a.length ≤ 1048576) (hb : b.length ≤ 1048576) (hc : c.length ≤ 1048576) (k : Nat) (hk : 1048576 < k) : spec_GoodCron.f k a b c = some (cronOk a b c) := by
  unfold spec_GoodCron.f cronOk
  rw [l6List_eq a 59 ha k (by omega), l6List_eq b 23 hb k (by omega), l6List_eq c 6 hc k (by omega)]
  show ((some (listOk a 59) : Option Bool).bind fun t => (if t = true then ((some (listOk b 23) : Option Bool).bind fun t => (if t = true then ((some (listOk c 6) : Option Bool).bind fun t => some t) else some false)) else some false)) = _
  cases listOk a 59 <;> cases listOk b 23 <;> simp

theorem w60 : wrap64 (60 - 1) = 59 := wrap_small (by omega) (by omega)
theorem w24 : wrap64 (24 - 1) = 23 := wrap_small (by omega) (by omega)
theorem w7 : wrap64 (7 - 1) = 6 := wrap_small (by omega) (by omega)
theorem n1 : wrap64 (0 + 1) = 1 := wrap_small (by omega) (by omega)
theorem n2 : wrap64 (1 + 1) = 2 := wrap_small (by omega) (by omega)
theorem n3 : wrap64 (2 + 1) = 3 := wrap_small (by omega) (by omega)

theorem impl_GoodCron_eq (a b c : List Int) (ha : a.length ≤ 1048576) (hb : b.length ≤ 1048576) (hc : c.length ≤ 1048576) (k : Nat) (hk : 1048580 < k) : impl_GoodCron.f k a b c = some (cronOk a b c) := by
  obtain ⟨k, rfl⟩ : ∃ m, k = m + 4 := ⟨k - 4, by omega⟩
  unfold impl_GoodCron.f cronOk
  have e0 : impl_GoodCron.L a b c 0 = a := rfl
  have e1 : impl_GoodCron.L a b c 1 = b := rfl
  have e2 : impl_GoodCron.L a b c 2 = c := rfl
  have r0 : rd [60, 24, 7] 0 = 60 := rfl
  have r1 : rd [60, 24, 7] 1 = 24 := rfl
  have r2 : rd [60, 24, 7] 2 = 7 := rfl
  simp only [impl_GoodCron.l0, impl_bounds.f, Option.bind_some, e0, n1, e1, n2, e2, n3, r0, r1, r2]
  rw [if_pos (show (0 : Int) < 3 by omega), if_pos (show (1 : Int) < 3 by omega), if_pos (show (2 : Int) < 3 by omega), if_neg (show ¬ (3 : Int) < 3 by omega)]
  rw [rising_eq a 60 ha _ (by omega), rising_eq b 24 hb _ (by omega), rising_eq c 7 hc _ (by omega), w60, w24, w7]
  simp only [Option.bind_some, listOk]
  by_cases z0 : a.length = 0
  · rw [if_pos (by omega), decide_eq_false (p := 0 < a.length) (by omega)]; simp
  rw [if_neg (by omega), decide_eq_true (p := 0 < a.length) (by omega)]
  cases riseFrom a 59 0 a.length <;> simp only [Bool.false_eq_true, if_false, if_true, Bool.false_and, Bool.and_true, Bool.true_and]
  by_cases z1 : b.length = 0
  · rw [if_pos (by omega), decide_eq_false (p := 0 < b.length) (by omega)]; simp
  rw [if_neg (by omega), decide_eq_true (p := 0 < b.length) (by omega)]
  cases riseFrom b 23 0 b.length <;> simp only [Bool.false_eq_true, if_false, if_true, Bool.false_and, Bool.and_true, Bool.true_and]
  by_cases z2 : c.length = 0
  · rw [if_pos (by omega), decide_eq_false (p := 0 < c.length) (by omega)]; simp
  rw [if_neg (by omega), decide_eq_true (p := 0 < c.length) (by omega)]
  cases riseFrom c 6 0 c.length <;> simp

theorem l1Has_loop (l : List Int) (x : Int) (hn : l.length ≤ 1048576) (d : Nat) : ∀ (k j : Nat), j ≤ l.length → l.length - j = d → d < k →
    spec_l1Has.l0 k x l l.length j = some (decide (x ∈ l.drop j)) := by
  induction d with
  | zero =>
    intro k j hj hd hk
    obtain ⟨k, rfl⟩ : ∃ m, k = m + 1 := ⟨k - 1, by omega⟩
    simp only [spec_l1Has.l0]; rw [if_neg (by omega), List.drop_of_length_le (by omega)]; simp
  | succ d ih =>
    intro k j hj hd hk
    obtain ⟨k, rfl⟩ : ∃ m, k = m + 1 := ⟨k - 1, by omega⟩
    simp only [spec_l1Has.l0]; rw [if_pos (by omega), if_pos (by omega), if_pos (by omega), wrap_next (n := l.length) (by omega) (by omega), rd_at, drop_at l j (by omega)]
    by_cases h : l.getD j 0 = x
    · rw [if_pos h, ← h]; simp
    · rw [if_neg h, ih k (j + 1) (by omega) (by omega) (by omega)]; congr 1; simp only [decide_eq_decide, List.mem_cons]
      constructor
      · exact .inr
      · rintro (h1 | h1)
        · exact absurd h1.symm h
        · exact h1

theorem l1Has_eq (l : List Int) (x : Int) (hn : l.length ≤ 1048576) (k : Nat) (hk : l.length < k) : spec_l1Has.f k l x = some (decide (x ∈ l)) := by
  unfold spec_l1Has.f
  have := l1Has_loop l x hn l.length k 0 (by omega) (by omega) hk
  simpa using this

theorem Index_loop (l : List Int) (x : Int) (hn : l.length ≤ 1048576) (d : Nat) : ∀ (k j : Nat), j ≤ l.length → l.length - j = d → d < k →
    ∃ r, slices_Index_int_int.l0 k l x l.length j = some r ∧ decide (r ≥ 0) = decide (x ∈ l.drop j) := by
  induction d with
  | zero =>
    intro k j hj hd hk
    obtain ⟨k, rfl⟩ : ∃ m, k = m + 1 := ⟨k - 1, by omega⟩
    refine ⟨-1, ?_, ?_⟩
    · simp only [slices_Index_int_int.l0]; rw [if_neg (by omega)]
    · rw [List.drop_of_length_le (by omega)]; simp
  | succ d ih =>
    intro k j hj hd hk
    obtain ⟨k, rfl⟩ : ∃ m, k = m + 1 := ⟨k - 1, by omega⟩
    by_cases h : x = l.getD j 0
    · refine ⟨j, ?_, ?_⟩
      · simp only [slices_Index_int_int.l0]; rw [if_pos (by omega), if_pos (by omega), if_pos (by omega), rd_at, if_pos h]
      · rw [drop_at l j (by omega), ← h, decide_eq_true (by omega)]; simp
    · obtain ⟨r, hr, hd2⟩ := ih k (j + 1) (by omega) (by omega) (by omega)
      refine ⟨r, ?_, ?_⟩
      · simp only [slices_Index_int_int.l0]; rw [if_pos (by omega), if_pos (by omega), if_pos (by omega), rd_at, if_neg h, wrap_next (n := l.length) (by omega) (by omega), hr]
      · rw [hd2, drop_at l j (by omega)]; simp only [decide_eq_decide, List.mem_cons]
        constructor
        · exact .inr
        · rintro (h1 | h1)
          · exact absurd h1 h
          · exact h1

theorem Contains_eq (l : List Int) (x : Int) (hn : l.length ≤ 1048576) (k : Nat) (hk : l.length < k) : slices_Contains_int_int.f k l x = some (decide (x ∈ l)) := by
  unfold slices_Contains_int_int.f slices_Index_int_int.f
  obtain ⟨r, hr, hd⟩ := Index_loop l x hn l.length k 0 (by omega) (by omega) hk
  rw [show (0 : Int) = ((0 : Nat) : Int) from rfl, hr]; simp only [Option.bind_some]
  rw [show ((0 : Nat) : Int) = 0 from rfl, hd]; simp

/-- a time fits -/
def fitsB (a b c : List Int) (t : Int) : Bool := decide (Int.tmod t 60 ∈ a) && (decide (Int.tmod (wrap64 (Int.tdiv t 60)) 24 ∈ b) && decide (Int.tmod (wrap64 (Int.tdiv t 1440)) 7 ∈ c))

theorem spec_fits_eq (a b c : List Int) (t : Int) (ha : a.length ≤ 1048576) (hb : b.length ≤ 1048576) (hc : c.length ≤ 1048576) (k : Nat) (hk : 1048576 < k) : spec_l6Fits.f k a b c t = some (fitsB a b c t) := by
  unfold spec_l6Fits.f fitsB
  rw [l1Has_eq a _ ha k (by omega), l1Has_eq b _ hb k (by omega), l1Has_eq c _ hc k (by omega)]
  simp only [Option.bind_some]
  cases decide (Int.tmod t 60 ∈ a) <;> cases decide (Int.tmod (wrap64 (Int.tdiv t 60)) 24 ∈ b) <;> simp

theorem impl_fits_eq (a b c : List Int) (t : Int) (ha : a.length ≤ 1048576) (hb : b.length ≤ 1048576) (hc : c.length ≤ 1048576) (k : Nat) (hk : 1048576 < k) : impl_Cron_fits.f k a b c t = some (fitsB a b c t) := by
  unfold impl_Cron_fits.f fitsB
  rw [Contains_eq a _ ha k (by omega), Contains_eq b _ hb k (by omega), Contains_eq c _ hc k (by omega)]
  simp only [Option.bind_some]
  cases decide (Int.tmod t 60 ∈ a) <;> cases decide (Int.tmod (wrap64 (Int.tdiv t 60)) 24 ∈ b) <;> simp

theorem riseFrom_at (l : List Int) (q : Int) (d : Nat) : ∀ j, riseFrom l q j d = true → ∀ i, j ≤ i → i < j + d → 0 ≤ l.getD i 0 ∧ l.getD i 0 ≤ q := by
  induction d with
  | zero => intro j _ i h1 h2; omega
  | succ d ih =>
    intro j h i h1 h2
    simp only [riseFrom, Bool.and_eq_true] at h
    by_cases e : i = j
    · subst e
      have := h.1
      simp only [riseOk, decide_eq_true_eq] at this
      exact ⟨this.1, this.2.1⟩
    · exact ih (j + 1) h.2 i (by omega) (by omega)

theorem listOk_head (l : List Int) (q : Int) (h : listOk l q = true) : ∃ x, x ∈ l ∧ 0 ≤ x ∧ x ≤ q := by
  simp only [listOk, Bool.and_eq_true, decide_eq_true_eq] at h
  have := riseFrom_at l q l.length 0 h.1 0 (by omega) (by omega)
  refine ⟨l.getD 0 0, ?_, this⟩
  rw [List.getD_eq_getElem?_getD, List.getElem?_eq_getElem h.2]; exact List.getElem_mem _

theorem fits_some (a b c : List Int) (h : cronOk a b c = true) (t : Int) (h0 : 0 ≤ t) (h1 : t ≤ 2000000) : ∃ m : Nat, m ≤ 10080 ∧ fitsB a b c (t + m) = true := by
  simp only [cronOk, Bool.and_eq_true] at h
  obtain ⟨x, hx, x0, x1⟩ := listOk_head a 59 h.1
  obtain ⟨y, hy, y0, y1⟩ := listOk_head b 23 h.2.1
  obtain ⟨z, hz, z0, z1⟩ := listOk_head c 6 h.2.2
  refine ⟨((1440 * z + 60 * y + x - t) % 10080).toNat, by omega, ?_⟩
  have e : t + (((1440 * z + 60 * y + x - t) % 10080).toNat : Int) = t + (1440 * z + 60 * y + x - t) % 10080 := by omega
  rw [e]
  generalize hu : t + (1440 * z + 60 * y + x - t) % 10080 = u
  have hq : ∃ q : Int, u = 10080 * q + (1440 * z + 60 * y + x) := ⟨-((1440 * z + 60 * y + x - t) / 10080), by omega⟩
  obtain ⟨q, hq⟩ := hq
  have u0 : 0 ≤ u := by omega
  have u1 : u ≤ 3000000 := by omega
  have e1 : Int.tmod u 60 = x := by rw [Int.tmod_eq_emod_of_nonneg u0]; omega
  have e2 : Int.tmod (wrap64 (Int.tdiv u 60)) 24 = y := by
    rw [Int.tdiv_eq_ediv_of_nonneg u0, wrap_small (by omega) (by omega), Int.tmod_eq_emod_of_nonneg (by omega)]; omega
  have e3 : Int.tmod (wrap64 (Int.tdiv u 1440)) 7 = z := by
    rw [Int.tdiv_eq_ediv_of_nonneg u0, wrap_small (by omega) (by omega), Int.tmod_eq_emod_of_nonneg (by omega)]; omega
  unfold fitsB
  rw [e1, e2, e3, decide_eq_true hx, decide_eq_true hy, decide_eq_true hz]; rfl

theorem next_loop (a b c : List Int) (ha : a.length ≤ 1048576) (hb : b.length ≤ 1048576) (hc : c.length ≤ 1048576) (m : Nat) : ∀ t : Int, 0 ≤ t → t + m ≤ 4000000 → fitsB a b c (t + m) = true →
    ∃ r, t ≤ r ∧ r ≤ t + m ∧ fitsB a b c r = true ∧ (∀ u, t ≤ u → u < r → fitsB a b c u = false) ∧ ∀ k, 1048576 + m + 2 < k → spec_NextAfter.l0 k t a b c = some (r, true) ∧ impl_NextAfter.l0 k a b c t = some (r, true) := by
  induction m with
  | zero =>
    intro t h0 h1 hf
    rw [show t + ((0 : Nat) : Int) = t by omega] at hf
    refine ⟨t, by omega, by omega, hf, fun u h2 h3 => by omega, fun k hk => ?_⟩
    obtain ⟨k, rfl⟩ : ∃ m, k = m + 1 := ⟨k - 1, by omega⟩
    constructor
    · simp only [spec_NextAfter.l0]; rw [spec_fits_eq a b c t ha hb hc k (by omega)]; simp only [Option.bind_some]; rw [if_pos hf]
    · simp only [impl_NextAfter.l0]; rw [impl_fits_eq a b c t ha hb hc k (by omega)]; simp only [Option.bind_some]; rw [if_pos hf]
  | succ m ih =>
    intro t h0 h1 hf
    cases hf0 : fitsB a b c t with
    | true =>
      refine ⟨t, by omega, by omega, hf0, fun u h2 h3 => by omega, fun k hk => ?_⟩
      obtain ⟨k, rfl⟩ : ∃ m, k = m + 1 := ⟨k - 1, by omega⟩
      constructor
      · simp only [spec_NextAfter.l0]; rw [spec_fits_eq a b c t ha hb hc k (by omega)]; simp only [Option.bind_some]; rw [if_pos hf0]
      · simp only [impl_NextAfter.l0]; rw [impl_fits_eq a b c t ha hb hc k (by omega)]; simp only [Option.bind_some]; rw [if_pos hf0]
    | false =>
      obtain ⟨r, r0, r1, hr, hb1, hk1⟩ := ih (t + 1) (by omega) (by omega) (by rw [show t + 1 + (m : Int) = t + ((m + 1 : Nat) : Int) by omega]; exact hf)
      refine ⟨r, by omega, by omega, hr, ?_, fun k hk => ?_⟩
      · intro u h2 h3
        by_cases e : u = t
        · rw [e]; exact hf0
        · exact hb1 u (by omega) h3
      obtain ⟨k, rfl⟩ : ∃ m, k = m + 1 := ⟨k - 1, by omega⟩
      have hw : wrap64 (t + 1) = t + 1 := wrap_small (by omega) (by omega)
      constructor
      · simp only [spec_NextAfter.l0]; rw [spec_fits_eq a b c t ha hb hc k (by omega)]; simp only [Option.bind_some]; rw [hf0, if_neg (by decide), hw]; exact (hk1 k (by omega)).1
      · simp only [impl_NextAfter.l0]; rw [impl_fits_eq a b c t ha hb hc k (by omega)]; simp only [Option.bind_some]; rw [hf0, if_neg (by decide), hw]; exact (hk1 k (by omega)).2

theorem isTime_eq (t : Int) : impl_isTime.f t = some (decide (0 ≤ t ∧ t ≤ 1000000)) := by unfold impl_isTime.f; rw [in_eq]; rfl

theorem next_both (a b c : List Int) (t : Int) (ha : a.length ≤ 1048576) (hb : b.length ≤ 1048576) (hc : c.length ≤ 1048576) :
    ∃ r : Int × Bool, ∀ k, 1060000 < k → spec_NextAfter.f k a b c t = some r ∧ impl_NextAfter.f k a b c t = some r := by
  cases hg : cronOk a b c with
  | false =>
    refine ⟨(0, false), fun k hk => ?_⟩
    obtain ⟨k, rfl⟩ : ∃ m, k = m + 1 := ⟨k - 1, by omega⟩
    unfold spec_NextAfter.f impl_NextAfter.f
    rw [spec_GoodCron_eq a b c ha hb hc _ (by omega), impl_GoodCron_eq a b c ha hb hc _ (by omega), hg]; simp [spec_NextAfter.j0]
  | true =>
    by_cases ht : 0 ≤ t ∧ t ≤ 1000000
    · obtain ⟨m, hm, hf⟩ := fits_some a b c hg (t + 1) (by omega) (by omega)
      obtain ⟨r, _, _, _, _, hr⟩ := next_loop a b c ha hb hc m (t + 1) (by omega) (by omega) hf
      have hw : wrap64 (t + 1) = t + 1 := wrap_small (by omega) (by omega)
      refine ⟨(r, true), fun k hk => ?_⟩
      obtain ⟨k, rfl⟩ : ∃ m, k = m + 1 := ⟨k - 1, by omega⟩
      unfold spec_NextAfter.f impl_NextAfter.f
      rw [spec_GoodCron_eq a b c ha hb hc _ (by omega), impl_GoodCron_eq a b c ha hb hc _ (by omega), hg, isTime_eq, l1In_eq, decide_eq_true ht]
      simp only [Option.bind_some, if_true, Bool.not_true, spec_NextAfter.j0, Bool.false_eq_true, if_false]
      rw [hw]
      exact ⟨(hr k (by omega)).1, (hr (k + 1) (by omega)).2⟩
    · refine ⟨(0, false), fun k hk => ?_⟩
      obtain ⟨k, rfl⟩ : ∃ m, k = m + 1 := ⟨k - 1, by omega⟩
      unfold spec_NextAfter.f impl_NextAfter.f
      rw [spec_GoodCron_eq a b c ha hb hc _ (by omega), impl_GoodCron_eq a b c ha hb hc _ (by omega), hg, isTime_eq, l1In_eq, decide_eq_false ht]; simp [spec_NextAfter.j0]



theorem same_loop (a b : List Int) (hab : a.length = b.length) (hn : a.length ≤ 140737488351232) (d : Nat) : ∀ (k j : Nat), j ≤ a.length → a.length - j = d → d < k →
    laws_sameInts.l0 k a b a.length j = some (decide (a.drop j = b.drop j)) := by
  induction d with
  | zero =>
    intro k j hj hd hk
    obtain ⟨k, rfl⟩ : ∃ m, k = m + 1 := ⟨k - 1, by omega⟩
    simp only [laws_sameInts.l0]; rw [if_neg (by omega), List.drop_of_length_le (by omega), List.drop_of_length_le (by omega)]; simp
  | succ d ih =>
    intro k j hj hd hk
    obtain ⟨k, rfl⟩ : ∃ m, k = m + 1 := ⟨k - 1, by omega⟩
    simp only [laws_sameInts.l0]; rw [if_pos (by omega), if_pos (by omega), if_pos (by omega), if_pos (by omega), wrap_next (n := a.length) (by omega) hn, rd_at, rd_at, drop_at a j (by omega), drop_at b j (by omega)]
    by_cases h : a.getD j 0 = b.getD j 0
    · rw [if_pos h, ih k (j + 1) (by omega) (by omega) (by omega)]; simp only [List.cons.injEq, h, true_and]
    · rw [if_neg h]; simp only [List.cons.injEq, h, false_and, decide_false]

theorem same_eq (a b : List Int) (hn : a.length ≤ 140737488351232) (k : Nat) (hk : a.length < k) : laws_sameInts.f k a b = some (decide (a = b)) := by
  unfold laws_sameInts.f
  by_cases h : a.length = b.length
  · rw [if_pos (by omega)]
    have := same_loop a b h hn a.length k 0 (by omega) (by omega) hk
    simpa using this
  · rw [if_neg (by omega), decide_eq_false (fun e => h (by rw [e]))]

def BytesIn (l : List Int) : Prop := ∀ x ∈ l, 0 ≤ x ∧ x ≤ 255
theorem bytesIn_of {l : List Int} (h : ∀ x ∈ l, (Lit.int .u8 x).wf = true) : BytesIn l := fun x hx => by
  have := h x hx
  simp only [Lit.wf, Bool.and_eq_true, decide_eq_true_eq] at this
  exact ⟨this.1, this.2⟩
theorem rd_byte {l : List Int} (h : BytesIn l) (i : Int) : 0 ≤ rd l i ∧ rd l i ≤ 255 := by
  unfold rd
  rw [List.getD_eq_getElem?_getD]
  by_cases c : i.toNat < l.length
  · rw [List.getElem?_eq_getElem c]; exact h _ (List.getElem_mem c)
  · rw [List.getElem?_eq_none (by omega)]; simp
theorem and_byte (x : Int) (h0 : 0 ≤ x) (h1 : x < 18446744073709551616) : 0 ≤ Go.bits .and .u64 x 255 ∧ Go.bits .and .u64 x 255 ≤ 255 := by
  rw [u64_and x 255 h0 h1 (by omega) (by omega)]
  have : x.toNat &&& (255 : Int).toNat ≤ (255 : Int).toNat := Nat.and_le_right
  simp only [Int.reduceToNat] at this ⊢
  omega
theorem u64_range (x : Int) : 0 ≤ IntKind.u64.wrap x ∧ IntKind.u64.wrap x < 18446744073709551616 := by rw [IntKind.wrap_u64]; omega
theorem and_wrap (y : Int) : 0 ≤ wrap64 (Go.bits .and .u64 (IntKind.u64.wrap y / 1099511627776) 255) ∧ wrap64 (Go.bits .and .u64 (IntKind.u64.wrap y / 1099511627776) 255) ≤ 255 := by
  have h := u64_range y
  have := and_byte (IntKind.u64.wrap y / 1099511627776) (by omega) (by omega)
  rw [wrap_small (by omega) (by omega)]; exact this
theorem next_b {l : List Int} (hb : BytesIn l) (s t : Int) (h0 : 0 ≤ s) (h1 : s ≤ 1000000000000) : ∃ v t', spec_l1Cur_next.f l s t = some (v, s + 1, t') ∧ 0 ≤ v ∧ v ≤ 255 := by
  unfold spec_l1Cur_next.f
  have hr := rd_byte hb s
  rw [wrap_small (x := s + 1) (by omega) (by omega), wrap_small (x := rd l s) (by omega) (by omega)]
  by_cases h : s < l.length
  · rw [if_pos h, if_pos h0, if_pos (by omega)]
    exact ⟨_, _, rfl, hr.1, hr.2⟩
  · rw [if_neg h, if_neg (by omega)]
    have := and_wrap (IntKind.u64.wrap (IntKind.u64.wrap (t * 6364136223846793005) + 0) + 1442695040888963407)
    exact ⟨_, _, rfl, this.1, this.2⟩
theorem pick_b {l : List Int} (hb : BytesIn l) (s t n : Int) (h0 : 0 ≤ s) (h1 : s ≤ 100000000000) (hn : n ≤ 70000) : ∃ v s' t', spec_l1Cur_pick.f l s t n = some (v, s', t') ∧ 0 ≤ v ∧ (v < n ∨ v = 0) ∧ s ≤ s' ∧ s' ≤ s + 2 := by
  unfold spec_l1Cur_pick.f
  by_cases c : n ≤ 1
  · rw [if_pos c]; exact ⟨_, _, _, rfl, by omega, .inr rfl, by omega, by omega⟩
  rw [if_neg c]
  obtain ⟨v, t', hv, hv0, hv1⟩ := next_b hb s t h0 (by omega)
  rw [hv]; simp only [Option.bind_some]
  by_cases c2 : n > 200
  · obtain ⟨u, t2, hu, hu0, hu1⟩ := next_b hb (s + 1) t' (by omega) (by omega)
    rw [if_pos c2, hu]; simp only [Option.bind_some]
    rw [if_neg (by omega), wrap_small (x := v * 256) (by omega) (by omega), wrap_small (x := v * 256 + u) (by omega) (by omega), Int.tmod_eq_emod_of_nonneg (by omega)]
    exact ⟨_, _, _, rfl, Int.emod_nonneg _ (by omega), .inl (Int.emod_lt_of_pos _ (by omega)), by omega, by omega⟩
  · rw [if_neg c2, if_neg (by omega), Int.tmod_eq_emod_of_nonneg hv0]
    exact ⟨_, _, _, rfl, Int.emod_nonneg _ (by omega), .inl (Int.emod_lt_of_pos _ (by omega)), by omega, by omega⟩
theorem one_b {l : List Int} (hb : BytesIn l) (s t n : Int) (h0 : 0 ≤ s) (h1 : s ≤ 100000000000) (hn : n ≤ 70000) : ∃ v s' t', spec_l1Cur_one.f l s t n = some (v, s', t') ∧ s ≤ s' ∧ s' ≤ s + 2 := by
  obtain ⟨v, s', t', h, _, _, h2, h3⟩ := pick_b hb s t n h0 h1 hn
  unfold spec_l1Cur_one.f
  rw [h]; exact ⟨_, _, _, rfl, h2, h3⟩

theorem field_all (q : Int) (hq : q = 59 ∨ q = 23 ∨ q = 6) : ∃ v : List Int × Bool, v.1.length ≤ 60 ∧ ∀ k, 300 ≤ k → spec_l6Field.f k (⟨#[42]⟩ : ByteArray) q = some v := by
  have key : ∀ (q : Int) (v : List Int × Bool), spec_l6Field.f 300 (⟨#[42]⟩ : ByteArray) q = some v → ∀ k, 300 ≤ k → spec_l6Field.f k (⟨#[42]⟩ : ByteArray) q = some v := fun q v h k hk => at_rounds (g := fun k => spec_l6Field.f k (⟨#[42]⟩ : ByteArray) q) (fun k => spec_l6Field.mono _ _ k) hk h
  have e59 : (spec_l6Field.f 300 (⟨#[42]⟩ : ByteArray) 59).any (fun v => decide (v.1.length ≤ 60)) = true := by decide +kernel
  have e23 : (spec_l6Field.f 300 (⟨#[42]⟩ : ByteArray) 23).any (fun v => decide (v.1.length ≤ 60)) = true := by decide +kernel
  have e6 : (spec_l6Field.f 300 (⟨#[42]⟩ : ByteArray) 6).any (fun v => decide (v.1.length ≤ 60)) = true := by decide +kernel
  rcases hq with rfl | rfl | rfl
  · obtain ⟨v, h1, h2⟩ := (Option.any_eq_true_iff_get _ _).1 e59 |> fun ⟨h, h2⟩ => (⟨_, (Option.some_get h).symm, h2⟩ : ∃ v, spec_l6Field.f 300 (⟨#[42]⟩ : ByteArray) 59 = some v ∧ decide (v.1.length ≤ 60) = true)
    exact ⟨v, of_decide_eq_true h2, key _ v h1⟩
  · obtain ⟨v, h1, h2⟩ := (Option.any_eq_true_iff_get _ _).1 e23 |> fun ⟨h, h2⟩ => (⟨_, (Option.some_get h).symm, h2⟩ : ∃ v, spec_l6Field.f 300 (⟨#[42]⟩ : ByteArray) 23 = some v ∧ decide (v.1.length ≤ 60) = true)
    exact ⟨v, of_decide_eq_true h2, key _ v h1⟩
  · obtain ⟨v, h1, h2⟩ := (Option.any_eq_true_iff_get _ _).1 e6 |> fun ⟨h, h2⟩ => (⟨_, (Option.some_get h).symm, h2⟩ : ∃ v, spec_l6Field.f 300 (⟨#[42]⟩ : ByteArray) 6 = some v ∧ decide (v.1.length ≤ 60) = true)
    exact ⟨v, of_decide_eq_true h2, key _ v h1⟩
theorem cronList_loop {c : List Int} (hb : BytesIn c) (q : Int) (hq : q ≤ 59) (d : Nat) : ∀ (n : Int) (x : List Int) (v s t : Int), n.toNat = d → x.length + d ≤ 10 → 0 ≤ v → v ≤ 1000000 → 0 ≤ s → s + 2 * d ≤ 100000 →
    ∃ y s' t', Ev (fun k => spec_l1Cur_cronList.l0 k q x v n c s t) (y, s', t') ∧ y.length ≤ x.length + d ∧ s ≤ s' ∧ s' ≤ s + 2 * d := by
  induction d with
  | zero =>
    intro n x v s t hn hx hv0 hv1 h0 h1
    refine ⟨x, s, t, Ev.step (f := fun _ => some (x, s, t)) (fun k => ?_) (Ev.now _), by omega, by omega, by omega⟩
    simp only [spec_l1Cur_cronList.l0]; rw [if_neg (by omega)]
  | succ d ih =>
    intro n x v s t hn hx hv0 hv1 h0 h1
    by_cases c1 : v ≤ q
    · obtain ⟨u, s1, t1, hu, hu0, hu1, h2, h3⟩ := pick_b hb s t 20 h0 (by omega) (by omega)
      obtain ⟨y, s2, t2, e1, e2, e3, e4⟩ := ih (n - 1) (x ++ [v]) (v + (1 + u)) s1 t1 (by omega) (by simp; omega) (by omega) (by omega) (by omega) (by omega)
      refine ⟨y, s2, t2, Ev.step (fun k => ?_) e1, by rw [List.length_append] at e2; simp at e2; omega, by omega, by omega⟩
      simp only [spec_l1Cur_cronList.l0]; rw [if_pos (by omega), if_pos c1, if_pos (by omega), hu]; simp only [Option.bind_some]; rw [wrap_small (x := 1 + u) (by omega) (by omega), wrap_small (x := v + (1 + u)) (by omega) (by omega), wrap_small (x := n - 1) (by omega) (by omega)]
    · refine ⟨x, s, t, Ev.step (f := fun _ => some (x, s, t)) (fun k => ?_) (Ev.now _), by omega, by omega, by omega⟩
      simp only [spec_l1Cur_cronList.l0]; rw [if_pos (by omega), if_neg c1]
theorem cronList_b {c : List Int} (hb : BytesIn c) (q : Int) (hq : q = 59 ∨ q = 23 ∨ q = 6) (s t : Int) (h0 : 0 ≤ s) (h1 : s ≤ 10000) : ∃ y s' t', Ev (fun k => spec_l1Cur_cronList.f k c s t q) (y, s', t') ∧ y.length ≤ 60 ∧ s ≤ s' ∧ s' ≤ s + 20 := by
  obtain ⟨o, s1, t1, ho, h2, h3⟩ := one_b hb s t 4 h0 (by omega) (by omega)
  cases o with
  | true =>
    obtain ⟨v, hv1, hv2⟩ := field_all q hq
    refine ⟨v.1, s1, t1, ⟨300, fun k hk => ?_⟩, hv1, by omega, by omega⟩
    show spec_l1Cur_cronList.f k c s t q = _
    unfold spec_l1Cur_cronList.f
    rw [ho]; simp only [Option.bind_some, if_true]; rw [hv2 k hk]; rfl
  | false =>
    obtain ⟨v, s2, t2, hv, hv0, hv1, h4, h5⟩ := pick_b hb s1 t1 (q + 1) (by omega) (by omega) (by omega)
    obtain ⟨u, s3, t3, hu, hu0, hu1, h6, h7⟩ := pick_b hb s2 t2 4 (by omega) (by omega) (by omega)
    obtain ⟨y, s4, t4, ⟨K, hK⟩, e2, e3, e4⟩ := cronList_loop hb q (by omega) (1 + u).toNat (1 + u) [] v s3 t3 rfl (by simp; omega) hv0 (by omega) (by omega) (by omega)
    refine ⟨y, s4, t4, ⟨K, fun k hk => ?_⟩, by simp at e2; omega, by omega, by omega⟩
    show spec_l1Cur_cronList.f k c s t q = _
    unfold spec_l1Cur_cronList.f
    rw [ho]; simp only [Option.bind_some]; rw [if_neg (by decide), wrap_small (x := q + 1) (by omega) (by omega), hv]; simp only [Option.bind_some]; rw [hu]; simp only [Option.bind_some]; rw [wrap_small (x := 1 + u) (by omega) (by omega)]
    exact hK k hk
theorem cron_b {c : List Int} (hb : BytesIn c) (s t : Int) (h0 : 0 ≤ s) (h1 : s ≤ 100) : ∃ x y z s' t', Ev (fun k => spec_l1Cur_cron.f k c s t) (x, y, z, s', t') ∧ x.length ≤ 60 ∧ y.length ≤ 60 ∧ z.length ≤ 60 ∧ 0 ≤ s' ∧ s' ≤ 300 := by
  obtain ⟨x, s1, t1, ⟨K1, hK1⟩, hx, h2, h3⟩ := cronList_b hb 59 (.inl rfl) s t h0 (by omega)
  obtain ⟨y, s2, t2, ⟨K2, hK2⟩, hy, h4, h5⟩ := cronList_b hb 23 (.inr (.inl rfl)) s1 t1 (by omega) (by omega)
  obtain ⟨z, s3, t3, ⟨K3, hK3⟩, hz, h6, h7⟩ := cronList_b hb 6 (.inr (.inr rfl)) s2 t2 (by omega) (by omega)
  obtain ⟨v, s4, t4, hv, hv0, hv1, h8, h9⟩ := pick_b hb s3 t3 40 (by omega) (by omega) (by omega)
  have key : ∀ k, K1 + K2 + K3 ≤ k → spec_l1Cur_cron.f k c s t = if v = 0 then some (x, [], z, s4, t4) else if v = 1 then some (x, y, [7], s4, t4) else some (x, y, z, s4, t4) := fun k hk => by
    unfold spec_l1Cur_cron.f
    rw [show spec_l1Cur_cronList.f k c s t 59 = _ from hK1 k (by omega)]; simp only [Option.bind_some]
    rw [show spec_l1Cur_cronList.f k c s1 t1 23 = _ from hK2 k (by omega)]; simp only [Option.bind_some]
    rw [show spec_l1Cur_cronList.f k c s2 t2 6 = _ from hK3 k (by omega)]; simp only [Option.bind_some]
    rw [hv]; simp only [Option.bind_some]
  by_cases c0 : v = 0
  · exact ⟨x, [], z, s4, t4, ⟨K1 + K2 + K3, fun k hk => by show spec_l1Cur_cron.f k c s t = _; rw [key k hk, if_pos c0]⟩, hx, by simp, hz, by omega, by omega⟩
  by_cases c1 : v = 1
  · exact ⟨x, y, [7], s4, t4, ⟨K1 + K2 + K3, fun k hk => by show spec_l1Cur_cron.f k c s t = _; rw [key k hk, if_neg c0, if_pos c1]⟩, hx, hy, by simp, by omega, by omega⟩
  · exact ⟨x, y, z, s4, t4, ⟨K1 + K2 + K3, fun k hk => by show spec_l1Cur_cron.f k c s t = _; rw [key k hk, if_neg c0, if_neg c1]⟩, hx, hy, hz, by omega, by omega⟩

/-- the sum of the first n -/
def S0 (f : Nat → Nat) : Nat → Nat
  | 0 => 0
  | n + 1 => S0 f n + f n
theorem S0_congr {f g : Nat → Nat} (n : Nat) (h : ∀ i, i < n → f i = g i) : S0 f n = S0 g n := by
  induction n with
  | zero => rfl
  | succ n ih => simp only [S0]; rw [ih (fun i hi => h i (by omega)), h n (by omega)]
theorem S0_add (f : Nat → Nat) (p q : Nat) : S0 f (p + q) = S0 f p + S0 (fun r => f (p + r)) q := by
  induction q with
  | zero => rfl
  | succ q ih => rw [show p + (q + 1) = (p + q) + 1 from rfl]; simp only [S0]; rw [ih]; omega
theorem S0_block (f : Nat → Nat) (m n : Nat) : S0 f (n * m) = S0 (fun q => S0 (fun r => f (q * m + r)) m) n := by
  induction n with
  | zero => simp [S0]
  | succ n ih => rw [Nat.succ_mul, S0_add, ih]; rfl
theorem S0_mul (f : Nat → Nat) (w n : Nat) : S0 (fun r => f r * w) n = S0 f n * w := by
  induction n with
  | zero => simp [S0]
  | succ n ih => simp only [S0]; rw [ih, Nat.add_mul]
theorem S0_mul' (f : Nat → Nat) (w n : Nat) : S0 (fun r => w * f r) n = w * S0 f n := by
  induction n with
  | zero => simp [S0]
  | succ n ih => simp only [S0]; rw [ih, Nat.mul_add]
theorem S0_plus (f g : Nat → Nat) (n : Nat) : S0 (fun r => f r + g r) n = S0 f n + S0 g n := by
  induction n with
  | zero => rfl
  | succ n ih => simp only [S0]; rw [ih]; omega
theorem S0_period (f : Nat → Nat) (P : Nat) (h : ∀ i, f (i + P) = f i) (T : Nat) : S0 f (T + P) = S0 f T + S0 f P := by
  induction T with
  | zero => simp [S0]
  | succ T ih =>
    rw [show T + 1 + P = (T + P) + 1 by omega]
    simp only [S0]
    rw [ih, h]; omega
theorem S0_one (x n : Nat) (h : x < n) : S0 (fun i => if i = x then 1 else 0) n = 1 := by
  have z : ∀ m, m ≤ x → S0 (fun i => if i = x then 1 else 0) m = 0 := by
    intro m
    induction m with
    | zero => intro _; rfl
    | succ m ih => intro hm; simp only [S0]; rw [ih (by omega), if_neg (by omega)]
  obtain ⟨d, rfl⟩ : ∃ d, n = (x + 1) + d := ⟨n - (x + 1), by omega⟩
  rw [S0_add]
  simp only [S0]
  rw [z x (Nat.le_refl _), if_pos trivial]
  have : S0 (fun r => if x + 1 + r = x then 1 else 0) d = 0 := by
    rw [S0_congr d (g := fun _ => 0) (fun i _ => if_neg (by omega))]
    induction d with
    | zero => rfl
    | succ d ih => simp only [S0]; rw [ih (by omega)]
  omega
def inB (l : List Int) (i : Nat) : Nat := if (i : Int) ∈ l then 1 else 0
theorem S0_in (l : List Int) : ∀ n : Nat, l.Pairwise (· < ·) → (∀ x ∈ l, 0 ≤ x ∧ x < n) → S0 (inB l) n = l.length := by
  induction l with
  | nil =>
    intro n _ _
    have z : ∀ m, S0 (inB []) m = 0 := by
      intro m
      induction m with
      | zero => rfl
      | succ m ih => simp only [S0]; rw [ih]; simp [inB]
    exact z n
  | cons x l ih =>
    intro n hp hr
    rw [List.pairwise_cons] at hp
    have hx := hr x List.mem_cons_self
    obtain ⟨m, rfl⟩ := Int.eq_ofNat_of_zero_le hx.1
    rw [S0_congr n (g := fun i => (if i = m then 1 else 0) + inB l i) (fun i hi => ?_), S0_plus, S0_one m n (by omega), ih n hp.2 (fun y hy => hr y (List.mem_cons_of_mem _ hy)), List.length_cons]
    · omega
    · unfold inB
      by_cases c : i = m
      · subst c
        rw [if_pos List.mem_cons_self, if_pos rfl, if_neg (fun hm => by have := hp.1 _ hm; omega)]
      · rw [if_neg c]
        have : ((i : Int) ∈ (m : Int) :: l) ↔ (i : Int) ∈ l := by
          rw [List.mem_cons]
          constructor
          · rintro (h | h)
            · exact absurd (by omega) c
            · exact h
          · exact .inr
        by_cases c2 : (i : Int) ∈ l
        · rw [if_pos (this.2 c2), if_pos c2]
        · rw [if_neg (fun h => c2 (this.1 h)), if_neg c2]
theorem rise_pair (l : List Int) (q : Int) (h : riseFrom l q 0 l.length = true) : l.Pairwise (· < ·) ∧ ∀ x ∈ l, 0 ≤ x ∧ x ≤ q := by
  have hall : ∀ (d j : Nat), riseFrom l q j d = true → ∀ i, j ≤ i → i < j + d → riseOk l q i = true := by
    intro d
    induction d with
    | zero => intro j _ i h1 h2; omega
    | succ d ih =>
      intro j h i h1 h2
      simp only [riseFrom, Bool.and_eq_true] at h
      by_cases e : i = j
      · subst e; exact h.1
      · exact ih (j + 1) h.2 i (by omega) (by omega)
  have ok := fun i (hi : i < l.length) => hall l.length 0 h i (by omega) (by omega)
  have eg : ∀ i (hi : i < l.length), l.getD i 0 = l[i] := fun i hi => by rw [List.getD_eq_getElem?_getD, List.getElem?_eq_getElem hi]; rfl
  constructor
  · have up : ∀ d i, i + d + 1 < l.length → l.getD i 0 < l.getD (i + d + 1) 0 := by
      intro d
      induction d with
      | zero =>
        intro i hi
        have := ok (i + 1) (by omega)
        simp only [riseOk, decide_eq_true_eq] at this
        have h3 := this.2.2 (by omega)
        simpa using h3
      | succ d ih =>
        intro i hi
        have h1 := ih i (by omega)
        have := ok (i + (d + 1) + 1) (by omega)
        simp only [riseOk, decide_eq_true_eq] at this
        have h3 := this.2.2 (by omega)
        rw [show i + (d + 1) + 1 - 1 = i + d + 1 by omega] at h3
        omega
    rw [List.pairwise_iff_getElem]
    intro i j hi hj hij
    have := up (j - i - 1) i (by omega)
    rw [show i + (j - i - 1) + 1 = j by omega, eg i hi, eg j hj] at this
    exact this
  · intro x hx
    obtain ⟨i, hi, rfl⟩ := List.getElem_of_mem hx
    have := ok i hi
    simp only [riseOk, decide_eq_true_eq] at this
    rw [eg i hi] at this
    exact ⟨this.1, this.2.1⟩
def fitN (a b c : List Int) (t : Nat) : Nat := if fitsB a b c t = true then 1 else 0
theorem fitN_eq (a b c : List Int) (t : Nat) (ht : t ≤ 1000000000) : fitN a b c t = inB a (t % 60) * (inB b (t / 60 % 24) * inB c (t / 1440 % 7)) := by
  unfold fitN fitsB inB
  have e1 : Int.tmod (t : Int) 60 = ((t % 60 : Nat) : Int) := by rw [Int.tmod_eq_emod_of_nonneg (by omega)]; omega
  have e2 : Int.tmod (wrap64 (Int.tdiv (t : Int) 60)) 24 = ((t / 60 % 24 : Nat) : Int) := by
    rw [Int.tdiv_eq_ediv_of_nonneg (by omega), wrap_small (by omega) (by omega), Int.tmod_eq_emod_of_nonneg (by omega)]; omega
  have e3 : Int.tmod (wrap64 (Int.tdiv (t : Int) 1440)) 7 = ((t / 1440 % 7 : Nat) : Int) := by
    rw [Int.tdiv_eq_ediv_of_nonneg (by omega), wrap_small (by omega) (by omega), Int.tmod_eq_emod_of_nonneg (by omega)]; omega
  rw [e1, e2, e3]
  by_cases c1 : ((t % 60 : Nat) : Int) ∈ a <;> by_cases c2 : ((t / 60 % 24 : Nat) : Int) ∈ b <;> by_cases c3 : ((t / 1440 % 7 : Nat) : Int) ∈ c <;> simp only [c1, c2, c3, decide_true, decide_false, Bool.and_true, Bool.and_false, Bool.true_and, Bool.false_and, if_true, if_false, Bool.false_eq_true, Nat.mul_one, Nat.mul_zero, Nat.zero_mul]
/-- a week has as many as are told -/
theorem week_count (a b c : List Int) (h : cronOk a b c = true) (T : Nat) (hT : T ≤ 10000000) : S0 (fun i => fitN a b c (T + i)) 10080 = a.length * b.length * c.length := by
  simp only [cronOk, listOk, Bool.and_eq_true] at h
  have ra := rise_pair a 59 h.1.1
  have rb := rise_pair b 23 h.2.1.1
  have rc := rise_pair c 6 h.2.2.1
  obtain ⟨g, hg⟩ : ∃ g : Nat → Nat, g = fun t => inB a (t % 60) * (inB b (t / 60 % 24) * inB c (t / 1440 % 7)) := ⟨_, rfl⟩
  have hper : ∀ i, g (i + 10080) = g i := fun i => by
    rw [hg]
    simp only
    rw [show (i + 10080) % 60 = i % 60 by omega, show (i + 10080) / 60 % 24 = i / 60 % 24 by omega, show (i + 10080) / 1440 % 7 = i / 1440 % 7 by omega]
  have e1 : S0 (fun i => fitN a b c (T + i)) 10080 = S0 (fun i => g (T + i)) 10080 := S0_congr _ (fun i hi => by rw [fitN_eq a b c _ (by omega), hg])
  have e2 := S0_add g T 10080
  have e3 := S0_period g 10080 hper T
  have e4 : S0 g 10080 = a.length * b.length * c.length := by
    rw [show 10080 = 168 * 60 from rfl, S0_block]
    rw [S0_congr 168 (g := fun q => S0 (inB a) 60 * (inB b (q % 24) * inB c (q / 24 % 7))) (fun q hq => ?_), S0_mul', show 168 = 7 * 24 from rfl, S0_block]
    · rw [S0_congr 7 (g := fun p => S0 (inB b) 24 * inB c p) (fun p hp => ?_), S0_mul', S0_in a 60 ra.1 (fun x hx => by have := ra.2 x hx; omega), S0_in b 24 rb.1 (fun x hx => by have := rb.2 x hx; omega), S0_in c 7 rc.1 (fun x hx => by have := rc.2 x hx; omega), Nat.mul_assoc]
      rw [S0_congr 24 (g := fun r => inB b r * inB c p) (fun r hr => by rw [show (p * 24 + r) % 24 = r by omega, show (p * 24 + r) / 24 % 7 = p by omega]), S0_mul]
    · rw [S0_congr 60 (g := fun r => inB a r * (inB b (q % 24) * inB c (q / 24 % 7))) (fun r hr => by
        rw [hg]
        simp only
        rw [show (q * 60 + r) % 60 = r by omega, show (q * 60 + r) / 60 % 24 = q % 24 by omega, show (q * 60 + r) / 1440 % 7 = q / 24 % 7 by omega]), S0_mul]
  omega

/-- the times that fit, d from t on -/
def fitL (a b c : List Int) : Nat → Nat → List Int
  | 0, _ => []
  | d + 1, t => if fitsB a b c t = true then (t : Int) :: fitL a b c d (t + 1) else fitL a b c d (t + 1)
theorem fitL_length (a b c : List Int) (d : Nat) : ∀ t, (fitL a b c d t).length = S0 (fun i => fitN a b c (t + i)) d := by
  induction d with
  | zero => intro t; rfl
  | succ d ih =>
    intro t
    have e := S0_add (fun i => fitN a b c (t + i)) 1 d
    rw [show 1 + d = d + 1 by omega] at e
    rw [e]
    have e2 : S0 (fun i => fitN a b c (t + i)) 1 = fitN a b c t := by simp [S0]
    have e3 : S0 (fun r => (fun i => fitN a b c (t + i)) (1 + r)) d = S0 (fun i => fitN a b c (t + 1 + i)) d := S0_congr d (fun i _ => by show fitN a b c (t + (1 + i)) = _; rw [show t + (1 + i) = t + 1 + i by omega])
    rw [e2, e3, ← ih]
    simp only [fitL, fitN]
    by_cases h : fitsB a b c t = true
    · rw [if_pos h, if_pos h, List.length_cons]; omega
    · rw [if_neg h, if_neg h]; omega
theorem fitL_le (a b c : List Int) (d t : Nat) : (fitL a b c d t).length ≤ d := by
  induction d generalizing t with
  | zero => simp [fitL]
  | succ d ih => simp only [fitL]; have := ih (t + 1); split <;> simp <;> omega
theorem fitL_none (a b c : List Int) (d : Nat) : ∀ t : Nat, (∀ u : Int, (t : Int) ≤ u → u < (t : Int) + d → fitsB a b c u = false) → fitL a b c d t = [] := by
  induction d with
  | zero => intro t _; rfl
  | succ d ih =>
    intro t h
    simp only [fitL]
    rw [h t (by omega) (by omega), if_neg (by decide)]
    exact ih (t + 1) (fun u h1 h2 => h u (by omega) (by omega))
theorem times_loop (a b c : List Int) (ha : a.length ≤ 1048576) (hb : b.length ≤ 1048576) (hc : c.length ≤ 1048576) (lim : Nat) (hto : lim ≤ 1000000) (d : Nat) : ∀ (t : Nat) (out : List Int), lim - t = d → t ≤ lim → out.length + d ≤ 900000 →
    ∀ k, 1048580 + d < k → impl_TimesIn.l0 k a b c lim out t = some (out ++ fitL a b c d t, true) ∧ spec_TimesIn.l0 k lim out t a b c = some (out ++ fitL a b c d t, true) := by
  induction d with
  | zero =>
    intro t out hd ht ho k hk
    obtain ⟨k, rfl⟩ : ∃ m, k = m + 1 := ⟨k - 1, by omega⟩
    simp only [impl_TimesIn.l0, spec_TimesIn.l0, fitL]
    rw [if_neg (by omega), if_neg (by omega), List.append_nil]; exact ⟨rfl, rfl⟩
  | succ d ih =>
    intro t out hd ht ho k hk
    obtain ⟨k, rfl⟩ : ∃ m, k = m + 1 := ⟨k - 1, by omega⟩
    simp only [impl_TimesIn.l0, spec_TimesIn.l0, fitL]
    rw [if_pos (show (t : Int) < (lim : Int) by omega), if_pos (show (t : Int) < (lim : Int) by omega), impl_fits_eq a b c t ha hb hc k (by omega), spec_fits_eq a b c t ha hb hc k (by omega), wrap_next (n := lim) (by omega) (by omega)]; simp only [Option.bind_some]
    by_cases h : fitsB a b c t = true
    · have := ih (t + 1) (out ++ [(t : Int)]) (by omega) (by omega) (by simp; omega) k (by omega)
      rw [if_pos h, if_pos h, if_pos h, if_pos (show out.length < 1000000 by omega), if_pos (show out.length < 17592186044416 by omega), this.1, this.2, List.append_assoc, List.singleton_append]; exact ⟨rfl, rfl⟩
    · have := ih (t + 1) out (by omega) (by omega) (by omega) k (by omega)
      rw [if_neg h, if_neg h, if_neg h, this.1, this.2]; exact ⟨rfl, rfl⟩
/-- both tell the times between two, the later one being a time, too -/
theorem times_both (a b c : List Int) (ha : a.length ≤ 1048576) (hb : b.length ≤ 1048576) (hc : c.length ≤ 1048576) (f t : Int) (hf : -1000000000 ≤ f) (hf2 : f ≤ 1000000000) (ht : t ≤ 1000000) :
    ∀ k, 2060000 < k → impl_TimesIn.f k a b c f t = some (if cronOk a b c = true ∧ 0 ≤ f ∧ f ≤ t ∧ t ≤ f + 20000 then (fitL a b c (t - f).toNat f.toNat, true) else ([], false)) ∧ spec_TimesIn.f k a b c f t = some (if cronOk a b c = true ∧ 0 ≤ f ∧ f ≤ t ∧ t ≤ f + 20000 then (fitL a b c (t - f).toNat f.toNat, true) else ([], false)) := by
  intro k hk
  obtain ⟨k, rfl⟩ : ∃ m, k = m + 1 := ⟨k - 1, by omega⟩
  unfold impl_TimesIn.f spec_TimesIn.f
  rw [spec_GoodCron_eq a b c ha hb hc _ (by omega), impl_GoodCron_eq a b c ha hb hc _ (by omega), isTime_eq, isTime_eq, in_eq, l1In_eq, l1In_eq, wrap_small (x := f + 20000) (by omega) (by omega)]
  simp only [Option.bind_some]
  cases hg : cronOk a b c with
  | false => simp only [Bool.false_eq_true, if_false, false_and, spec_TimesIn.j0, if_true]; exact ⟨trivial, trivial⟩
  | true =>
    simp only [if_true]
    by_cases h1 : 0 ≤ f ∧ f ≤ 1000000
    · rw [decide_eq_true h1]; simp only [if_true]
      by_cases h2 : f ≤ t ∧ t ≤ f + 20000
      · obtain ⟨F, rfl⟩ := Int.eq_ofNat_of_zero_le h1.1
        obtain ⟨U, rfl⟩ := Int.eq_ofNat_of_zero_le (show 0 ≤ t by omega)
        rw [decide_eq_true h2, decide_eq_true (show 0 ≤ (U : Int) ∧ (U : Int) ≤ 1000000 by omega)]
        simp only [if_true, Bool.not_true, spec_TimesIn.j0, Bool.false_eq_true, if_false]
        rw [if_pos ⟨trivial, h1.1, h2⟩, show ((U : Int) - (F : Int)).toNat = U - F by omega, Int.toNat_natCast]
        have e1 := (times_loop a b c ha hb hc U (by omega) (U - F) F [] rfl (by omega) (by simp; omega) (k + 1) (by omega)).1
        have e2 := (times_loop a b c ha hb hc U (by omega) (U - F) F [] rfl (by omega) (by simp; omega) k (by omega)).2
        rw [List.nil_append] at e1 e2
        exact ⟨e1, e2⟩
      · rw [decide_eq_false h2, if_neg (show ¬ (True ∧ 0 ≤ f ∧ f ≤ t ∧ t ≤ f + 20000) from fun h => h2 ⟨h.2.2.1, h.2.2.2⟩)]
        refine ⟨?_, by simp only [Bool.not_false, spec_TimesIn.j0]; rw [if_pos trivial]⟩
        by_cases h3 : 0 ≤ t ∧ t ≤ 1000000
        · rw [decide_eq_true h3]; rfl
        · rw [decide_eq_false h3]; rfl
    · rw [decide_eq_false h1, if_neg (show ¬ (True ∧ 0 ≤ f ∧ f ≤ t ∧ t ≤ f + 20000) from fun h => h1 ⟨h.2.1, by omega⟩)]
      simp only [Bool.false_eq_true, if_false, spec_TimesIn.j0, if_true]; exact ⟨trivial, trivial⟩
/-- the next time, with what is known of it -/
theorem next_info (a b c : List Int) (t : Int) (ha : a.length ≤ 1048576) (hb : b.length ≤ 1048576) (hc : c.length ≤ 1048576) :
    ∃ r : Int × Bool, (∀ k, 1060000 < k → spec_NextAfter.f k a b c t = some r ∧ impl_NextAfter.f k a b c t = some r) ∧ (r.2 = true → cronOk a b c = true ∧ 0 ≤ t ∧ t ≤ 1000000 ∧ t < r.1 ∧ r.1 ≤ t + 10081 ∧ fitsB a b c r.1 = true ∧ ∀ u, t < u → u < r.1 → fitsB a b c u = false) := by
  cases hg : cronOk a b c with
  | false =>
    refine ⟨(0, false), fun k hk => ?_, fun h => by cases h⟩
    obtain ⟨k, rfl⟩ : ∃ m, k = m + 1 := ⟨k - 1, by omega⟩
    unfold spec_NextAfter.f impl_NextAfter.f
    rw [spec_GoodCron_eq a b c ha hb hc _ (by omega), impl_GoodCron_eq a b c ha hb hc _ (by omega), hg]; simp [spec_NextAfter.j0]
  | true =>
    by_cases ht : 0 ≤ t ∧ t ≤ 1000000
    · obtain ⟨m, hm, hf⟩ := fits_some a b c hg (t + 1) (by omega) (by omega)
      obtain ⟨r, h1, h2, h3, h4, hr⟩ := next_loop a b c ha hb hc m (t + 1) (by omega) (by omega) hf
      have hw : wrap64 (t + 1) = t + 1 := wrap_small (by omega) (by omega)
      refine ⟨(r, true), fun k hk => ?_, fun _ => ⟨rfl, ht.1, ht.2, by show t < r; omega, by show r ≤ _; omega, h3, fun u h5 h6 => h4 u (by omega) h6⟩⟩
      obtain ⟨k, rfl⟩ : ∃ m, k = m + 1 := ⟨k - 1, by omega⟩
      unfold spec_NextAfter.f impl_NextAfter.f
      rw [spec_GoodCron_eq a b c ha hb hc _ (by omega), impl_GoodCron_eq a b c ha hb hc _ (by omega), hg, isTime_eq, l1In_eq, decide_eq_true ht]
      simp only [Option.bind_some, if_true, Bool.not_true, spec_NextAfter.j0, Bool.false_eq_true, if_false]
      rw [hw]
      exact ⟨(hr k (by omega)).1, (hr (k + 1) (by omega)).2⟩
    · refine ⟨(0, false), fun k hk => ?_, fun h => by cases h⟩
      obtain ⟨k, rfl⟩ : ∃ m, k = m + 1 := ⟨k - 1, by omega⟩
      unfold spec_NextAfter.f impl_NextAfter.f
      rw [spec_GoodCron_eq a b c ha hb hc _ (by omega), impl_GoodCron_eq a b c ha hb hc _ (by omega), hg, isTime_eq, l1In_eq, decide_eq_false ht]; simp [spec_NextAfter.j0]
theorem cron_j3 {c2 : List Int} (hb : BytesIn c2) : ∃ K, ∀ k, K ≤ k → laws_FnCron.j3 k c2 = some true := by
  obtain ⟨f, s1, t1, hf, hf0, hf1, h2, h3⟩ := pick_b hb 0 0 20000 (by omega) (by omega) (by omega)
  obtain ⟨x, y, z, s2, t2, ⟨K, hK⟩, hx, hy, hz, h4, h5⟩ := cron_b hb s1 t1 (by omega) (by omega)
  obtain ⟨p, s3, t3, hp, hp0, hp1, h6, h7⟩ := pick_b hb s2 t2 3000 h4 (by omega) (by omega)
  obtain ⟨q, s4, t4, hq, hq0, hq1, h8, h9⟩ := pick_b hb s3 t3 2 (by omega) (by omega) (by omega)
  refine ⟨K + 2060100, fun k hk => ?_⟩
  obtain ⟨k, rfl⟩ : ∃ m, k = m + 1 := ⟨k - 1, by omega⟩
  have ht := times_both x y z (by omega) (by omega) (by omega) f (f + p - q) (by omega) (by omega) (by omega) k (by omega)
  simp only [laws_FnCron.j3, spec_DrawTimesIn.f]
  rw [hf]; simp only [Option.bind_some]
  rw [show spec_l1Cur_cron.f k c2 s1 t1 = _ from hK k (by omega)]; simp only [Option.bind_some]
  rw [hp]; simp only [Option.bind_some]
  rw [hq]; simp only [Option.bind_some]
  rw [wrap_small (x := f + p) (by omega) (by omega), wrap_small (x := f + p - q) (by omega) (by omega), ht.1, ht.2]; simp only [Option.bind_some, beq_self_eq_true, if_true]
  rw [same_eq _ _ ?_ k ?_]
  · simp
  · split
    · have := fitL_le x y z (f + p - q - f).toNat f.toNat
      show (fitL x y z _ _).length ≤ _
      omega
    · simp
  · split
    · have := fitL_le x y z (f + p - q - f).toNat f.toNat
      show (fitL x y z _ _).length < _
      omega
    · simp; omega
theorem wrap_diff (n : Nat) (t : Int) (h0 : 0 ≤ t) (h1 : t ≤ 1000000) (h2 : (n : Int) ≤ 1000000) : wrap64 ((n : Int) - (t + 1)) = (n : Int) - (t + 1) := wrap_small (by omega) (by omega)
set_option maxHeartbeats 4000000 in
theorem cron_true {c2 : List Int} (K0 : Nat) (hK0 : ∀ k, K0 ≤ k → laws_FnCron.j3 k c2 = some true) (x y z : List Int) (hx : x.length ≤ 60) (hy : y.length ≤ 60) (hz : z.length ≤ 60) (t : Int) (ht : t ≤ 10082 ∨ 1000000 ≤ t) (r : Int)
    (hi : cronOk x y z = true ∧ 0 ≤ t ∧ t ≤ 1000000 ∧ t < r ∧ r ≤ t + 10081 ∧ fitsB x y z r = true ∧ ∀ u, t < u → u < r → fitsB x y z u = false) : ∃ K, ∀ k, K ≤ k → laws_FnCron.j0 k c2 t r true false x y z = some true := by
  obtain ⟨g, g0, g1, g2, g3, g4, g5⟩ := hi
  by_cases hn : r ≤ 1000000
  · have hv2 : t ≤ 10082 := by omega
    obtain ⟨n, hnn⟩ := Int.eq_ofNat_of_zero_le (show 0 ≤ r by omega)
    rw [hnn] at g2 g3 g4 g5 hn ⊢
    have hcount := week_count x y z g n (by omega)
    rw [← fitL_length] at hcount
    have hF0 := fitL_le x y z 10080 n
    have ht1 : ∀ k, 2060000 < k → impl_TimesIn.f k x y z n ((n : Int) + 10080) = some (fitL x y z 10080 n, true) := fun k hk => by
      have := (times_both x y z (by omega) (by omega) (by omega) n ((n : Int) + 10080) (by omega) (by omega) (by omega) k hk).1
      rw [if_pos ⟨g, by omega, by omega, by omega⟩, show ((n : Int) + 10080 - (n : Int)).toNat = 10080 by omega, Int.toNat_natCast] at this
      exact this
    generalize fitL x y z 10080 n = F at hcount hF0 ht1
    have hlen1 : x.length * y.length * z.length ≤ 10080 := by rw [← hcount]; exact hF0
    have hlen2 : x.length * y.length ≤ 3600 := Nat.mul_le_mul hx hy
    refine ⟨K0 + 3000000, fun k hk => ?_⟩
    obtain ⟨k, rfl⟩ : ∃ m, k = m + 3 := ⟨k - 3, by omega⟩
    have w1 : Aside0 (wrap64 ((n : Int) + 10080) = (n : Int) + 10080) := ⟨wrap_small (by omega) (by omega)⟩
    have w2 : Aside0 (wrap64 (t + 1) = t + 1) := ⟨wrap_small (by omega) (by omega)⟩
    have w3 : Aside0 (wrap64 ((n : Int) - (t + 1)) = (n : Int) - (t + 1)) := ⟨wrap_diff n t g0 g1 hn⟩
    have hfit : impl_FitsAt.f (k + 1) x y z n = some (true, true) := by
      unfold impl_FitsAt.f
      rw [impl_GoodCron_eq x y z (by omega) (by omega) (by omega) _ (by omega), g, isTime_eq, decide_eq_true (show 0 ≤ (n : Int) ∧ (n : Int) ≤ 1000000 by omega)]; simp only [Option.bind_some, if_true]
      rw [impl_fits_eq x y z n (by omega) (by omega) (by omega) _ (by omega), g4]; rfl
    have hmany : impl_ManyIn.f (k + 1) x y z = some (((x.length * y.length * z.length : Nat) : Int), true) := by
      unfold impl_ManyIn.f
      rw [impl_GoodCron_eq x y z (by omega) (by omega) (by omega) _ (by omega), g]; simp only [Option.bind_some, if_true]
      obtain ⟨A, hA⟩ : ∃ A, A = x.length * y.length := ⟨_, rfl⟩
      obtain ⟨B, hB⟩ : ∃ B, B = A * z.length := ⟨_, rfl⟩
      rw [← hA] at hlen1 hlen2 ⊢
      rw [← hB] at hlen1 ⊢
      rw [show (x.length : Int) * (y.length : Int) = (A : Int) by rw [hA]; exact (Int.natCast_mul _ _).symm, wrap_small (x := (A : Int)) (by omega) (by omega), show (A : Int) * (z.length : Int) = (B : Int) by rw [hB]; exact (Int.natCast_mul _ _).symm, wrap_small (x := (B : Int)) (by omega) (by omega)]
    have ht2 := (times_both x y z (by omega) (by omega) (by omega) (t + 1) n (by omega) (by omega) (by omega) k (by omega)).1
    obtain ⟨u, hu⟩ := Int.eq_ofNat_of_zero_le (show 0 ≤ t + 1 by omega)
    rw [if_pos ⟨g, by omega, by omega, by omega⟩, hu, Int.toNat_natCast, fitL_none x y z _ u (fun w a1 a2 => g5 w (by omega) (by omega))] at ht2
    simp only [laws_FnCron.j0]; rw [if_neg (by decide), if_pos trivial, decide_eq_true hn]
    simp only [laws_FnCron.j1, if_true]
    rw [hfit, hmany, w1.out, ht1 (k + 1) (by omega)]; simp only [Option.bind_some, if_true]
    rw [if_pos (show (F.length : Int) = ((x.length * y.length * z.length : Nat) : Int) by rw [hcount]), decide_eq_false (show ¬ (n : Int) ≤ t by omega)]
    simp only [laws_FnCron.j2]; rw [if_neg (by decide), w2.out, w3.out, if_pos (by omega), hu, ht2]; simp only [Option.bind_some, if_true]
    rw [if_pos (by rfl)]
    exact hK0 k (by omega)
  · refine ⟨K0 + 3, fun k hk => ?_⟩
    obtain ⟨k, rfl⟩ : ∃ m, k = m + 2 := ⟨k - 2, by omega⟩
    simp only [laws_FnCron.j0]; rw [if_neg (by decide), if_pos trivial, decide_eq_false hn]
    simp only [laws_FnCron.j1]; rw [if_neg (by decide)]
    exact hK0 k (by omega)
/-- THE PURE STATEMENT of the law. -/
def FnCron_Pure : Prop := ∀ (l0 : (List Int)) (l1 : (List Int)), (l0.length ≤ 9223372036854775807 ∧ ∀ y ∈ l0, (Lit.int .u8 y).wf = true) → l0.length * 1 ≤ 140737488351232 → (l1.length ≤ 9223372036854775807 ∧ ∀ y ∈ l1, (Lit.int .u8 y).wf = true) → l1.length * 1 ≤ 140737488351232 → ∃ k, laws_FnCron.f k l0 l1 = some true

theorem FnCron : FnCron_Pure := by
  intro c1 c2 hc1 hz1 hc2 hz2
  have hs : wrap64 ((c1.length : Int) + (c2.length : Int)) = (c1.length : Int) + (c2.length : Int) := wrap_small (by omega) (by omega)
  by_cases h1 : wrap64 ((c1.length : Int) + (c2.length : Int)) > 1048576
  · exact ⟨0, by unfold laws_FnCron.f; rw [if_pos h1]⟩
  have hb := bytesIn_of hc1.2
  have hb2 := bytesIn_of hc2.2
  obtain ⟨K0, hK0⟩ := cron_j3 hb2
  obtain ⟨x, y, z, s2, t2, ⟨K, hK⟩, hx, hy, hz, h4, h5⟩ := cron_b hb 0 0 (by omega) (by omega)
  obtain ⟨p, s3, t3, hp, hp0, hp1, h6, h7⟩ := pick_b hb s2 t2 10 h4 (by omega) (by omega)
  obtain ⟨q, s4, t4, hq, hq0, hq1, h8, h9⟩ := pick_b hb s3 t3 3 (by omega) (by omega) (by omega)
  obtain ⟨v, hv⟩ : ∃ v, v = rd [(-1), 0, 59, 60, 1439, 1440, 10079, 10080, 1000000, 1000001] p := ⟨_, rfl⟩
  have hvr : (-1 ≤ v ∧ v ≤ 10080) ∨ v = 1000000 ∨ v = 1000001 := by
    obtain ⟨n, rfl⟩ := Int.eq_ofNat_of_zero_le hp0
    rw [rd_at] at hv
    have : n < 10 := by omega
    rcases n with _ | _ | _ | _ | _ | _ | _ | _ | _ | _ | n <;> first | (simp at hv; omega) | omega
  have hw : wrap64 (v + q) = v + q := wrap_small (by omega) (by omega)
  obtain ⟨r, hr, hri⟩ := next_info x y z (v + q) (by omega) (by omega) (by omega)
  have tail : ∃ K, ∀ k, K ≤ k → laws_FnCron.j0 k c2 (v + q) r.1 r.2 false x y z = some true := by
    cases hr2 : r.2 with
    | false =>
      refine ⟨K0 + 3, fun k hk => ?_⟩
      obtain ⟨k, rfl⟩ : ∃ m, k = m + 2 := ⟨k - 2, by omega⟩
      simp only [laws_FnCron.j0]; rw [if_neg (by decide), if_neg (by decide)]
      simp only [laws_FnCron.j1]; rw [if_neg (by decide)]
      exact hK0 k (by omega)
    | true => exact cron_true K0 hK0 x y z hx hy hz (v + q) (by omega) r.1 (hri hr2)
  obtain ⟨K3, hK3⟩ := tail
  obtain ⟨m, hm⟩ : ∃ m, m = K + K0 + K3 + 1060100 := ⟨_, rfl⟩
  refine ⟨m, ?_⟩
  unfold laws_FnCron.f spec_DrawNextAfter.f spec_DrawFitsAt.f
  rw [if_neg h1, show spec_l1Cur_cron.f m c1 0 0 = _ from hK m (by omega)]; simp only [Option.bind_some]
  unfold spec_l1Cur_among.f
  rw [show ((([(-1), 0, 59, 60, 1439, 1440, 10079, 10080, 1000000, 1000001] : List Int).length : Nat) : Int) = 10 from rfl, hp]; simp only [Option.bind_some]
  rw [if_pos hp0, if_pos (by omega), ← hv]; simp only [Option.bind_some]
  rw [hq]; simp only [Option.bind_some]
  rw [hw, (hr m (by omega)).1, (hr m (by omega)).2]; simp only [Option.bind_some, bne_self_eq_false, Bool.false_eq_true, if_false]
  exact hK3 m (by omega)

end Go.Proofs.Ytbljelkmmakgpaa.Pure
