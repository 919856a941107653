/- The program makes of a plan the schedule that the reference makes: the law answers true. No conditions but the reach of a slice. -/
import Derived.Test.YtpgegjbnnbkhiaaPFnExactScheduleOfx10
namespace Go.Proofs.Ytpgegjbnnbkhiaa.Pure
open Go.RowKit Go.Proofs.Ytpgegjbnnbkhiaa.PFnExactScheduleOf Go.Proofs.YtpgegjbnnbkhiaaW.PrintWords Go.Proofs.YtpgegjbnnbkhiaaW.PrintLast
set_option linter.unusedVariables false
set_option linter.unusedSimpArgs false

theorem wrap_small {x : Int} (h0 : -9223372036854775808 ≤ x) (h1 : x ≤ 9223372036854775807) : wrap64 x = x := by
  unfold wrap64
  omega

theorem wrap_next {j n : Nat} (h : j < n) (hn : n ≤ 140737488351232) : wrap64 ((j : Int) + 1) = ((j + 1 : Nat) : Int) := by
  rw [wrap_small (by omega) (by omega)]; rfl

theorem rd_at (l : List Int) (j : Nat) : rd l (j : Int) = l.getD j 0 := by
  unfold rd; rw [Int.toNat_natCast]

theorem drop_at (l : List Int) (j : Nat) (h : j < l.length) : l.drop j = l.getD j 0 :: l.drop (j + 1) := by
  rw [List.drop_eq_getElem_cons h, List.getD_eq_getElem?_getD, List.getElem?_eq_getElem h]; rfl

theorem take_at (l : List Int) (j : Nat) (h : j < l.length) : l.take (j + 1) = l.take j ++ [l.getD j 0] := by
  rw [List.take_succ_eq_append_getElem h, List.getD_eq_getElem?_getD, List.getElem?_eq_getElem h]; rfl

theorem toIntS_loop (l : List Int) (hn : l.length ≤ 140737488351232) (d : Nat) : ∀ (k j : Nat) (x : List Int), x.length = l.length → x.take j = l.take j → j ≤ l.length → l.length - j = d → d < k →
    laws_toIntS.l0 k l x j = some l := by
  induction d with
  | zero =>
    intro k j x hx ht hj hd hk
    obtain ⟨k, rfl⟩ : ∃ m, k = m + 1 := ⟨k - 1, by omega⟩
    simp only [laws_toIntS.l0]; rw [if_neg (by omega)]
    rw [List.take_of_length_le (by omega), List.take_of_length_le (by omega)] at ht; rw [ht]
  | succ d ih =>
    intro k j x hx ht hj hd hk
    obtain ⟨k, rfl⟩ : ∃ m, k = m + 1 := ⟨k - 1, by omega⟩
    simp only [laws_toIntS.l0]; rw [if_pos (by omega), if_pos (by omega), if_pos (by omega), wrap_next (n := l.length) (by omega) hn, rd_at, Int.toNat_natCast]
    refine ih k (j + 1) _ (by rw [List.length_set]; exact hx) ?_ (by omega) (by omega) (by omega)
    rw [take_at l j (by omega), List.take_succ_eq_append_getElem (by rw [List.length_set]; omega), List.getElem_set_self, List.take_set_of_le (by omega), ht]

theorem toIntS_eq (l : List Int) (hn : l.length ≤ 17592186044416) (k : Nat) (hk : l.length < k) : laws_toIntS.f k l = some l := by
  unfold laws_toIntS.f
  rw [if_pos (by omega), Int.toNat_natCast, if_pos (by omega)]
  exact toIntS_loop l (by omega) l.length k 0 _ (by simp) (by simp) (by omega) (by omega) hk

theorem eqIntS_loop (a b : List Int) (hn : a.length ≤ 140737488351232) (hab : a.length = b.length) (d : Nat) : ∀ (k j : Nat), j ≤ a.length → a.length - j = d → d < k →
    laws_eqIntS.l0 k a b j = some (decide (a.drop j = b.drop j)) := by
  induction d with
  | zero =>
    intro k j hj hd hk
    obtain ⟨k, rfl⟩ : ∃ m, k = m + 1 := ⟨k - 1, by omega⟩
    simp only [laws_eqIntS.l0]; rw [if_neg (by omega), List.drop_of_length_le (by omega), List.drop_of_length_le (by omega)]; simp
  | succ d ih =>
    intro k j hj hd hk
    obtain ⟨k, rfl⟩ : ∃ m, k = m + 1 := ⟨k - 1, by omega⟩
    simp only [laws_eqIntS.l0]; rw [if_pos (by omega), if_pos (by omega), if_pos (by omega), wrap_next (n := a.length) (by omega) hn, rd_at, rd_at, drop_at a j (by omega), drop_at b j (by omega)]
    by_cases h : a.getD j 0 = b.getD j 0
    · rw [if_pos h, ih k (j + 1) (by omega) (by omega) (by omega)]; simp only [List.cons.injEq, h, true_and]
    · rw [if_neg h]; simp only [List.cons.injEq, h, false_and, decide_false]

theorem eqIntS_eq (a b : List Int) (hn : a.length ≤ 140737488351232) (k : Nat) (hk : a.length < k) : laws_eqIntS.f k a b = some (decide (a = b)) := by
  unfold laws_eqIntS.f
  by_cases h : a.length = b.length
  · rw [if_pos (by omega)]
    have := eqIntS_loop a b hn h a.length k 0 (by omega) (by omega) hk
    simpa using this
  · rw [if_neg (by omega), decide_eq_false (fun e => h (by rw [e]))]

theorem eqIntS_self (a : List Int) (hn : a.length ≤ 140737488351232) (k : Nat) (hk : a.length < k) : laws_eqIntS.f k a a = some true := by
  rw [eqIntS_eq a a hn k hk]; simp

theorem in_eq (a b c : Int) : impl_in.f a b c = some (decide (b ≤ a ∧ a ≤ c)) := by
  unfold impl_in.f
  by_cases h : a ≥ b
  · rw [if_pos h]; congr 1; simp only [decide_eq_decide]; omega
  · rw [if_neg h, decide_eq_false (by omega)]
theorem l1In_eq (a b c : Int) : spec_l1In.f a b c = some (decide (b ≤ a ∧ a ≤ c)) := by
  unfold spec_l1In.f
  by_cases h : a ≥ b
  · rw [if_pos h]; congr 1; simp only [decide_eq_decide]; omega
  · rw [if_neg h, decide_eq_false (by omega)]

/-- element j lies in 0..q and is above the one ahead of it -/
def riseOk (l : List Int) (q : Int) (j : Nat) : Bool := decide (0 ≤ l.getD j 0 ∧ l.getD j 0 ≤ q ∧ (0 < j → l.getD (j - 1) 0 < l.getD j 0))
def riseFrom (l : List Int) (q : Int) (j : Nat) : Nat → Bool
  | 0 => true
  | d + 1 => riseOk l q j && riseFrom l q (j + 1) d

theorem rise_round (l : List Int) (q : Int) (j : Nat) (x : Option Bool) (hn : l.length ≤ 1048576) (hj : j < l.length) :
    ((some (decide (0 ≤ l.getD j 0 ∧ l.getD j 0 ≤ q)) : Option Bool).bind fun t => (if t = true then (if (j : Int) > 0 then (if 0 ≤ (wrap64 ((j : Int) - 1)) then (if (wrap64 ((j : Int) - 1)) < (l.length : Int) then (if (rd l (wrap64 ((j : Int) - 1))) ≥ l.getD j 0 then (some false) else x) else (none)) else (none)) else x) else (some false)))
      = if riseOk l q j = true then x else some false := by
  simp only [Option.bind_some]
  by_cases h1 : 0 ≤ l.getD j 0 ∧ l.getD j 0 ≤ q
  · rw [decide_eq_true h1, if_pos rfl]
    by_cases h2 : (j : Int) > 0
    · have e : wrap64 ((j : Int) - 1) = ((j - 1 : Nat) : Int) := by rw [wrap_small (by omega) (by omega)]; omega
      rw [if_pos h2, e, if_pos (by omega), if_pos (by omega), rd_at]
      by_cases h3 : l.getD (j - 1) 0 ≥ l.getD j 0
      · rw [if_pos h3, if_neg (by unfold riseOk; simp only [decide_eq_true_eq]; intro h; have := h.2.2 (by omega); omega)]
      · rw [if_neg h3, if_pos (by unfold riseOk; simp only [decide_eq_true_eq]; exact ⟨h1.1, h1.2, fun _ => by omega⟩)]
    · rw [if_neg h2, if_pos (by unfold riseOk; simp only [decide_eq_true_eq]; exact ⟨h1.1, h1.2, fun h => by omega⟩)]
  · rw [decide_eq_false h1, if_neg (by simp), if_neg (by unfold riseOk; simp only [decide_eq_true_eq]; exact fun h => h1 ⟨h.1, h.2.1⟩)]

theorem rising_loop (l : List Int) (b : Int) (hn : l.length ≤ 1048576) (d : Nat) : ∀ (k j : Nat), j ≤ l.length → l.length - j = d → d < k →
    impl_rising.l0 k l b l l.length j = some (riseFrom l (wrap64 (b - 1)) j d) := by
  induction d with
  | zero =>
    intro k j hj hd hk
    obtain ⟨k, rfl⟩ : ∃ m, k = m + 1 := ⟨k - 1, by omega⟩
    simp only [impl_rising.l0]; rw [if_neg (by omega)]; rfl
  | succ d ih =>
    intro k j hj hd hk
    obtain ⟨k, rfl⟩ : ∃ m, k = m + 1 := ⟨k - 1, by omega⟩
    simp only [impl_rising.l0]; rw [if_pos (by omega), if_pos (by omega), if_pos (by omega), in_eq, wrap_next (n := l.length) (by omega) (by omega), rd_at, rise_round l _ j _ hn (by omega), ih k (j + 1) (by omega) (by omega) (by omega)]
    simp only [riseFrom]
    cases riseOk l (wrap64 (b - 1)) j <;> simp

theorem rising_eq (l : List Int) (b : Int) (hn : l.length ≤ 1048576) (k : Nat) (hk : l.length < k) : impl_rising.f k l b = some (riseFrom l (wrap64 (b - 1)) 0 l.length) := by
  unfold impl_rising.f
  exact rising_loop l b hn l.length k 0 (by omega) (by omega) hk

theorem l3List_loop (l : List Int) (b : Int) (hn : l.length ≤ 1048576) (d : Nat) : ∀ (k j : Nat), j ≤ l.length → l.length - j = d → d < k →
    spec_l3List.l0 k l b l l.length j = some (riseFrom l (wrap64 (b - 1)) j d) := by
  induction d with
  | zero =>
    intro k j hj hd hk
    obtain ⟨k, rfl⟩ : ∃ m, k = m + 1 := ⟨k - 1, by omega⟩
    simp only [spec_l3List.l0]; rw [if_neg (by omega)]; rfl
  | succ d ih =>
    intro k j hj hd hk
    obtain ⟨k, rfl⟩ : ∃ m, k = m + 1 := ⟨k - 1, by omega⟩
    simp only [spec_l3List.l0]; rw [if_pos (by omega), if_pos (by omega), if_pos (by omega), l1In_eq, wrap_next (n := l.length) (by omega) (by omega), rd_at, rise_round l _ j _ hn (by omega), ih k (j + 1) (by omega) (by omega) (by omega)]
    simp only [riseFrom]
    cases riseOk l (wrap64 (b - 1)) j <;> simp

theorem l3List_eq (l : List Int) (b : Int) (hn : l.length ≤ 1048576) (k : Nat) (hk : l.length < k) : spec_l3List.f k l b = some (riseFrom l (wrap64 (b - 1)) 0 l.length) := by
  unfold spec_l3List.f
  exact l3List_loop l b hn l.length k 0 (by omega) (by omega) hk

theorem l1Has_loop (l : List Int) (x : Int) (hn : l.length ≤ 1048576) (d : Nat) : ∀ (k j : Nat), j ≤ l.length → l.length - j = d → d < k →
    spec_l1Has.l0 k x l l.length j = some (decide (x ∈ l.drop j)) := by
  induction d with
  | zero =>
    intro k j hj hd hk
    obtain ⟨k, rfl⟩ : ∃ m, k = m + 1 := ⟨k - 1, by omega⟩
    simp only [spec_l1Has.l0]; rw [if_neg (by omega), List.drop_of_length_le (by omega)]; simp
  | succ d ih =>
    intro k j hj hd hk
    obtain ⟨k, rfl⟩ : ∃ m, k = m + 1 := ⟨k - 1, by omega⟩
    simp only [spec_l1Has.l0]; rw [if_pos (by omega), if_pos (by omega), if_pos (by omega), wrap_next (n := l.length) (by omega) (by omega), rd_at, drop_at l j (by omega)]
    by_cases h : l.getD j 0 = x
    · rw [if_pos h, ← h]; simp
    · rw [if_neg h, ih k (j + 1) (by omega) (by omega) (by omega)]; congr 1; simp only [decide_eq_decide, List.mem_cons]
      constructor
      · exact .inr
      · rintro (h1 | h1)
        · exact absurd h1.symm h
        · exact h1

theorem l1Has_eq (l : List Int) (x : Int) (hn : l.length ≤ 1048576) (k : Nat) (hk : l.length < k) : spec_l1Has.f k l x = some (decide (x ∈ l)) := by
  unfold spec_l1Has.f
  have := l1Has_loop l x hn l.length k 0 (by omega) (by omega) hk
  simpa using this

theorem Index_loop (l : List Int) (x : Int) (hn : l.length ≤ 1048576) (d : Nat) : ∀ (k j : Nat), j ≤ l.length → l.length - j = d → d < k →
    ∃ r, slices_Index_int_int.l0 k l x l.length j = some r ∧ decide (r ≥ 0) = decide (x ∈ l.drop j) := by
  induction d with
  | zero =>
    intro k j hj hd hk
    obtain ⟨k, rfl⟩ : ∃ m, k = m + 1 := ⟨k - 1, by omega⟩
    refine ⟨-1, ?_, ?_⟩
    · simp only [slices_Index_int_int.l0]; rw [if_neg (by omega)]
    · rw [List.drop_of_length_le (by omega)]; simp
  | succ d ih =>
    intro k j hj hd hk
    obtain ⟨k, rfl⟩ : ∃ m, k = m + 1 := ⟨k - 1, by omega⟩
    by_cases h : x = l.getD j 0
    · refine ⟨j, ?_, ?_⟩
      · simp only [slices_Index_int_int.l0]; rw [if_pos (by omega), if_pos (by omega), if_pos (by omega), rd_at, if_pos h]
      · rw [drop_at l j (by omega), ← h, decide_eq_true (by omega)]; simp
    · obtain ⟨r, hr, hd2⟩ := ih k (j + 1) (by omega) (by omega) (by omega)
      refine ⟨r, ?_, ?_⟩
      · simp only [slices_Index_int_int.l0]; rw [if_pos (by omega), if_pos (by omega), if_pos (by omega), rd_at, if_neg h, wrap_next (n := l.length) (by omega) (by omega), hr]
      · rw [hd2, drop_at l j (by omega)]; simp only [decide_eq_decide, List.mem_cons]
        constructor
        · exact .inr
        · rintro (h1 | h1)
          · exact absurd h1 h
          · exact h1

theorem Contains_eq (l : List Int) (x : Int) (hn : l.length ≤ 1048576) (k : Nat) (hk : l.length < k) : slices_Contains_int_int.f k l x = some (decide (x ∈ l)) := by
  unfold slices_Contains_int_int.f slices_Index_int_int.f
  obtain ⟨r, hr, hd⟩ := Index_loop l x hn l.length k 0 (by omega) (by omega) hk
  rw [show (0 : Int) = ((0 : Nat) : Int) from rfl, hr]; simp only [Option.bind_some]
  rw [show ((0 : Nat) : Int) = 0 from rfl, hd]; simp

theorem rd52_at (l : List S52) (j : Nat) : rd_T52 l (j : Int) = l.getD j z52 := by unfold rd_T52; rw [Int.toNat_natCast]
theorem rd53_at (l : List S53) (j : Nat) : rd_T53 l (j : Int) = l.getD j z53 := by unfold rd_T53; rw [Int.toNat_natCast]
theorem takeS_at {α : Type} (z : α) (l : List α) (j : Nat) (h : j < l.length) : l.take (j + 1) = l.take j ++ [l.getD j z] := by
  rw [List.take_succ_eq_append_getElem h, List.getD_eq_getElem?_getD, List.getElem?_eq_getElem h]; rfl
theorem dropS_at {α : Type} (z : α) (l : List α) (j : Nat) (h : j < l.length) : l.drop j = l.getD j z :: l.drop (j + 1) := by
  rw [List.drop_eq_getElem_cons h, List.getD_eq_getElem?_getD, List.getElem?_eq_getElem h]; rfl
theorem getD_mem {α : Type} (z : α) (l : List α) (j : Nat) (h : j < l.length) : l.getD j z ∈ l := by
  rw [List.getD_eq_getElem?_getD, List.getElem?_eq_getElem h]; exact List.getElem_mem h
def ShortT (x : S53) : Prop := x.f1.length ≤ 1048576
def taskOf (x : S52) : S53 := ⟨x.f0, x.f1⟩
def tasks (l : List S52) : List S53 := l.map taskOf
theorem tasks_length (l : List S52) : (tasks l).length = l.length := by unfold tasks; rw [List.length_map]
theorem getD_tasks (l : List S52) (j : Nat) (h : j < l.length) : (tasks l).getD j z53 = taskOf (l.getD j z52) := by
  unfold tasks; rw [List.getD_eq_getElem?_getD, List.getElem?_map, List.getElem?_eq_getElem h, List.getD_eq_getElem?_getD, List.getElem?_eq_getElem h]; rfl
theorem szIntS_eq (l : List Int) (a : Int) (h0 : 0 ≤ a) (h1 : a ≤ 1048576) (hl : l.length ≤ 9223372036854775807) : laws_szIntS.f l a = some (if (l.length : Int) ≤ a then a - l.length else -1) := by
  unfold laws_szIntS.f; rw [wrap_small (by omega) (by omega)]
  by_cases h : (l.length : Int) ≤ a
  · rw [if_neg (by omega), if_pos h]
  · rw [if_pos (by omega), if_neg h]
theorem szTask_eq (n : Int) (y : List Int) (a : Int) (h0 : 0 ≤ a) (h1 : a ≤ 1048576) (hy : y.length ≤ 9223372036854775807) :
    ∃ r, laws_szTask.f n y a = some r ∧ (r < 0 ∨ (0 ≤ r ∧ r ≤ a ∧ y.length ≤ 1048576)) := by
  unfold laws_szTask.f
  rw [szIntS_eq y a h0 h1 hy]; simp only [Option.bind_some]
  by_cases h : (y.length : Int) ≤ a
  · rw [if_pos h, if_neg (by omega)]
    exact ⟨_, rfl, .inr ⟨by omega, by omega, by omega⟩⟩
  · rw [if_neg h, if_pos (by omega)]
    exact ⟨_, rfl, .inl (by omega)⟩
theorem szTaskS_loop (l : List S52) (hn : l.length ≤ 1048576) (hy : ∀ y ∈ l, y.f1.length ≤ 9223372036854775807) (d : Nat) : ∀ (k j : Nat) (a : Int), 0 ≤ a → a ≤ 1048576 → j ≤ l.length → l.length - j = d → d < k →
    ∃ r, laws_szTaskS.l0 k l a j = some r ∧ (r < 0 ∨ (0 ≤ r ∧ ∀ i, j ≤ i → i < l.length → ShortT (taskOf (l.getD i z52)))) := by
  induction d with
  | zero =>
    intro k j a h0 h1 hj hd hk
    obtain ⟨k, rfl⟩ : ∃ m, k = m + 1 := ⟨k - 1, by omega⟩
    simp only [laws_szTaskS.l0]; rw [if_neg (by omega)]
    exact ⟨a, rfl, .inr ⟨h0, fun i hi hil => by omega⟩⟩
  | succ d ih =>
    intro k j a h0 h1 hj hd hk
    obtain ⟨k, rfl⟩ : ∃ m, k = m + 1 := ⟨k - 1, by omega⟩
    simp only [laws_szTaskS.l0]; rw [if_pos (by omega), if_pos (by omega), wrap_next (n := l.length) (by omega) (by omega), rd52_at]
    have hm := hy _ (getD_mem z52 l j (by omega))
    obtain ⟨r, hr, hc⟩ := szTask_eq (l.getD j z52).f0 (l.getD j z52).f1 a h0 h1 hm
    rw [hr]; simp only [Option.bind_some]
    rcases hc with hc | ⟨hc, hc2, hy2⟩
    · rw [if_pos hc]; exact ⟨_, rfl, .inl (by omega)⟩
    · rw [if_neg (by omega)]
      obtain ⟨r2, hr2, hc3⟩ := ih k (j + 1) r hc (by omega) (by omega) (by omega) (by omega)
      refine ⟨r2, hr2, ?_⟩
      rcases hc3 with hc3 | ⟨hc3, hs⟩
      · exact .inl hc3
      · refine .inr ⟨hc3, fun i hi hil => ?_⟩
        by_cases e : i = j
        · subst e; exact hy2
        · exact hs i (by omega) hil
theorem szTaskS_eq (l : List S52) (hl : l.length ≤ 9223372036854775807) (hy : ∀ y ∈ l, y.f1.length ≤ 9223372036854775807) (k : Nat) (hk : 1048576 < k) :
    ∃ r, laws_szTaskS.f k l 1048576 = some r ∧ (r < 0 ∨ (0 ≤ r ∧ l.length ≤ 1048576 ∧ ∀ x ∈ tasks l, ShortT x)) := by
  unfold laws_szTaskS.f
  rw [wrap_small (by omega) (by omega)]
  by_cases h : (1048576 : Int) - (l.length : Int) < 0
  · rw [if_pos h]; exact ⟨_, rfl, .inl (by omega)⟩
  · rw [if_neg h]
    obtain ⟨r, hr, hc⟩ := szTaskS_loop l (by omega) hy l.length k 0 (1048576 - (l.length : Int)) (by omega) (by omega) (by omega) (by omega) (by omega)
    rw [show ((0 : Nat) : Int) = 0 from rfl] at hr
    rw [hr]
    rcases hc with hc | ⟨hc, hs⟩
    · exact ⟨_, rfl, .inl (by omega)⟩
    · refine ⟨_, rfl, .inr ⟨hc, by omega, fun x hx => ?_⟩⟩
      unfold tasks at hx
      obtain ⟨y, hym, rfl⟩ := List.mem_map.1 hx
      obtain ⟨i, hi, rfl⟩ := List.getElem_of_mem hym
      have := hs i (by omega) hi
      rwa [List.getD_eq_getElem?_getD, List.getElem?_eq_getElem hi] at this
theorem toTaskS_loop (l : List S52) (hn : l.length ≤ 1048576) (hs : ∀ x ∈ tasks l, ShortT x) (d : Nat) : ∀ (k j : Nat) (x : List S53), x.length = l.length → x.take j = (tasks l).take j → j ≤ l.length → l.length - j = d → d + 1048576 < k →
    laws_toTaskS.l0 k l x j = some (tasks l) := by
  induction d with
  | zero =>
    intro k j x hx ht hj hd hk
    obtain ⟨k, rfl⟩ : ∃ m, k = m + 1 := ⟨k - 1, by omega⟩
    simp only [laws_toTaskS.l0]; rw [if_neg (by omega)]
    rw [List.take_of_length_le (by omega), List.take_of_length_le (by rw [tasks_length]; omega)] at ht; rw [ht]
  | succ d ih =>
    intro k j x hx ht hj hd hk
    obtain ⟨k, rfl⟩ : ∃ m, k = m + 1 := ⟨k - 1, by omega⟩
    have hm : ShortT (taskOf (l.getD j z52)) := by rw [← getD_tasks l j (by omega)]; exact hs _ (getD_mem z53 _ j (by rw [tasks_length]; omega))
    have h1 : (l.getD j z52).f1.length ≤ 1048576 := hm
    simp only [laws_toTaskS.l0]; rw [if_pos (by omega), if_pos (by omega), rd52_at]
    simp only [laws_toTask.f]; rw [toIntS_eq _ (by omega) k (by omega)]; simp only [Option.bind_some]
    rw [if_pos (by omega), wrap_next (n := l.length) (by omega) (by omega), Int.toNat_natCast]
    refine ih k (j + 1) _ (by rw [List.length_set]; exact hx) ?_ (by omega) (by omega) (by omega)
    rw [takeS_at z53 (tasks l) j (by rw [tasks_length]; omega), List.take_succ_eq_append_getElem (by rw [List.length_set]; omega), List.getElem_set_self, List.take_set_of_le (by omega), ht, getD_tasks l j (by omega)]; rfl
theorem toTaskS_eq (l : List S52) (hn : l.length ≤ 1048576) (hs : ∀ x ∈ tasks l, ShortT x) (k : Nat) (hk : 2097152 < k) : laws_toTaskS.f k l = some (tasks l) := by
  unfold laws_toTaskS.f
  rw [if_pos (by omega), Int.toNat_natCast, if_pos (by omega)]
  have := toTaskS_loop l hn hs l.length k 0 (List.replicate l.length z53) (by simp) (by simp) (by omega) (by omega) (by omega)
  rw [show ((0 : Nat) : Int) = 0 from rfl] at this
  exact this
theorem eqTaskS_loop (a : List S53) (hn : a.length ≤ 1048576) (hs : ∀ x ∈ a, ShortT x) (d : Nat) : ∀ (k j : Nat), j ≤ a.length → a.length - j = d → d + 1048576 < k →
    laws_eqTaskS.l0 k a a j = some true := by
  induction d with
  | zero =>
    intro k j hj hd hk
    obtain ⟨k, rfl⟩ : ∃ m, k = m + 1 := ⟨k - 1, by omega⟩
    simp only [laws_eqTaskS.l0]; rw [if_neg (by omega)]
  | succ d ih =>
    intro k j hj hd hk
    obtain ⟨k, rfl⟩ : ∃ m, k = m + 1 := ⟨k - 1, by omega⟩
    have h1 : (a.getD j z53).f1.length ≤ 1048576 := hs _ (getD_mem z53 a j (by omega))
    simp only [laws_eqTaskS.l0]; rw [if_pos (by omega), if_pos (by omega), if_pos (by omega), rd53_at]
    simp only [laws_eqTask.f, if_true]; rw [eqIntS_self _ (by omega) k (by omega)]; simp only [Option.bind_some, if_true]
    rw [wrap_next (n := a.length) (by omega) (by omega)]
    exact ih k (j + 1) (by omega) (by omega) (by omega)
theorem eqTaskS_self (a : List S53) (hn : a.length ≤ 1048576) (hs : ∀ x ∈ a, ShortT x) (k : Nat) (hk : 2097152 < k) : laws_eqTaskS.f k a a = some true := by
  unfold laws_eqTaskS.f
  rw [if_pos rfl]
  have := eqTaskS_loop a hn hs a.length k 0 (by omega) (by omega) (by omega)
  rw [show ((0 : Nat) : Int) = 0 from rfl] at this
  exact this

theorem tot53_bound (l : List S53) (hs : ∀ x ∈ l, ShortT x) : tot53 l ≤ l.length * 1048577 := by
  unfold tot53
  induction l with
  | nil => simp
  | cons x l ih =>
    have h1 : x.f1.length ≤ 1048576 := hs x List.mem_cons_self
    have h2 := ih (fun y hy => hs y (List.mem_cons_of_mem _ hy))
    simp only [List.map_cons, List.sum_cons, List.length_cons]
    omega

/-- task i is not out, and all that it needs is -/
def readyB (l : List S53) (out : List Int) (i : Nat) : Bool := !(decide ((i : Int) ∈ out)) && (l.getD i z53).f1.all (fun x => decide (x ∈ out))
/-- the first ready task from j on, d tasks long; -1 without one -/
def firstB (l : List S53) (out : List Int) : Nat → Nat → Int
  | 0, _ => -1
  | d + 1, j => if readyB l out j = true then (j : Int) else firstB l out d (j + 1)
theorem firstB_ge (l : List S53) (out : List Int) (d : Nat) : ∀ j, firstB l out d j = -1 ∨ ∃ i : Nat, firstB l out d j = i ∧ j ≤ i ∧ i < j + d ∧ readyB l out i = true ∧ ∀ m, j ≤ m → m < i → readyB l out m = false := by
  induction d with
  | zero => intro j; exact .inl rfl
  | succ d ih =>
    intro j
    simp only [firstB]
    by_cases h : readyB l out j = true
    · rw [if_pos h]; exact .inr ⟨j, rfl, Nat.le_refl _, by omega, h, fun m h1 h2 => by omega⟩
    · rw [if_neg h]
      rcases ih (j + 1) with h1 | ⟨i, h1, h2, h3, h4, h5⟩
      · exact .inl h1
      · refine .inr ⟨i, h1, by omega, by omega, h4, fun m h6 h7 => ?_⟩
        by_cases e : m = j
        · subst e; exact Bool.eq_false_iff.2 h
        · exact h5 m (by omega) h7
theorem firstB_none (l : List S53) (out : List Int) (d : Nat) : ∀ j, firstB l out d j = -1 → ∀ m, j ≤ m → m < j + d → readyB l out m = false := by
  induction d with
  | zero => intro j _ m h1 h2; omega
  | succ d ih =>
    intro j h m h1 h2
    simp only [firstB] at h
    by_cases hr : readyB l out j = true
    · rw [if_pos hr] at h; omega
    · rw [if_neg hr] at h
      by_cases e : m = j
      · subst e; exact Bool.eq_false_iff.2 hr
      · exact ih (j + 1) h m (by omega) (by omega)
/-- all needs lie in the plan -/
def NeedIn (l : List S53) : Prop := ∀ t ∈ l, ∀ x ∈ t.f1, 0 ≤ x ∧ x < l.length
/-- how many of the first numbers are out -/
def cntIn (out : List Int) : Nat → Nat
  | 0 => 0
  | n + 1 => cntIn out n + if (n : Int) ∈ out then 1 else 0
theorem cntIn_le (out : List Int) (n : Nat) : cntIn out n ≤ n := by
  induction n with
  | zero => exact Nat.le_refl _
  | succ n ih => simp only [cntIn]; split <;> omega
theorem cntIn_all (out : List Int) (n : Nat) (h : cntIn out n = n) : ∀ j : Nat, j < n → (j : Int) ∈ out := by
  induction n with
  | zero => intro j hj; omega
  | succ n ih =>
    intro j hj
    simp only [cntIn] at h
    have := cntIn_le out n
    by_cases hn : (n : Int) ∈ out
    · rw [if_pos hn] at h
      by_cases e : j = n
      · subst e; exact hn
      · exact ih (by omega) j (by omega)
    · rw [if_neg hn] at h; omega
theorem cntIn_add (out : List Int) (i : Nat) (hi : (i : Int) ∉ out) (n : Nat) : cntIn (out ++ [(i : Int)]) n = cntIn out n + if i < n then 1 else 0 := by
  induction n with
  | zero => simp [cntIn]
  | succ n ih =>
    simp only [cntIn, ih]
    have hmem : ((n : Int) ∈ out ++ [(i : Int)]) ↔ ((n : Int) ∈ out ∨ n = i) := by
      rw [List.mem_append, List.mem_singleton]
      constructor
      · rintro (h | h)
        · exact .inl h
        · exact .inr (by omega)
      · rintro (h | h)
        · exact .inl h
        · exact .inr (by omega)
    by_cases e : n = i
    · subst e
      rw [if_pos (hmem.2 (.inr rfl)), if_neg hi, if_neg (Nat.lt_irrefl n), if_pos (Nat.lt_succ_self n)]
    · by_cases h2 : (n : Int) ∈ out
      · rw [if_pos (hmem.2 (.inl h2)), if_pos h2]
        by_cases h3 : i < n
        · rw [if_pos h3, if_pos (show i < n + 1 by omega)]
        · rw [if_neg h3, if_neg (show ¬ i < n + 1 by omega)]
      · rw [if_neg (fun h => (hmem.1 h).elim h2 e), if_neg h2]
        by_cases h3 : i < n
        · rw [if_pos h3, if_pos (show i < n + 1 by omega)]
        · rw [if_neg h3, if_neg (show ¬ i < n + 1 by omega)]
/-- what stands out so far: each behind all that it needs -/
structure OutOK (l : List S53) (out : List Int) : Prop where
  rng : ∀ x ∈ out, 0 ≤ x ∧ x < l.length
  cnt : cntIn out l.length = out.length
  topo : ∀ (a b : List Int) (x : Int), out = a ++ x :: b → x ∉ a ∧ ∀ y ∈ (l.getD x.toNat z53).f1, y ∈ a
theorem OutOK.nil (l : List S53) : OutOK l [] := ⟨by simp, by
  have : ∀ n, cntIn [] n = 0 := by intro n; induction n with
    | zero => rfl
    | succ n ih => simp [cntIn, ih]
  simp [this], fun a b x h => by simp at h⟩
theorem OutOK.snoc {l : List S53} {out : List Int} (h : OutOK l out) {i : Nat} (hi : i < l.length) (hr : readyB l out i = true) : OutOK l (out ++ [(i : Int)]) := by
  unfold readyB at hr
  simp only [Bool.and_eq_true, Bool.not_eq_true', decide_eq_false_iff_not, List.all_eq_true, decide_eq_true_eq] at hr
  refine ⟨fun x hx => ?_, ?_, fun a b x hab => ?_⟩
  · rcases List.mem_append.1 hx with hx | hx
    · exact h.rng x hx
    · rw [List.mem_singleton.1 hx]; omega
  · rw [cntIn_add out i hr.1, if_pos hi, h.cnt, List.length_append]; rfl
  · rcases List.eq_nil_or_concat b with rfl | ⟨b', z, rfl⟩
    · have := List.append_inj' hab rfl
      obtain ⟨rfl, h2⟩ := this
      simp only [List.cons.injEq, and_true] at h2
      subst h2
      rw [Int.toNat_natCast]
      exact ⟨hr.1, hr.2⟩
    · rw [List.concat_eq_append, show a ++ x :: (b' ++ [z]) = (a ++ x :: b') ++ [z] by simp] at hab
      have := List.append_inj' hab rfl
      exact h.topo a b' x this.1
theorem OutOK.len {l : List S53} {out : List Int} (h : OutOK l out) : out.length ≤ l.length := by
  rw [← h.cnt]; exact cntIn_le _ _
theorem OutOK.full {l : List S53} {out : List Int} (h : OutOK l out) (hl : out.length = l.length) : ∀ j : Nat, j < l.length → (j : Int) ∈ out := cntIn_all out l.length (by rw [h.cnt, hl])
theorem OutOK.stop {l : List S53} {out : List Int} (h : OutOK l out) (hl : out.length = l.length) : firstB l out l.length 0 = -1 := by
  rcases firstB_ge l out l.length 0 with h1 | ⟨i, h1, _, h3, h4, _⟩
  · exact h1
  · have := h.full hl i (by omega)
    unfold readyB at h4
    rw [decide_eq_true this] at h4
    cases h4
/-- the program's flags are what stands out -/
def Flags (l : List S53) (out : List Int) (done : List Bool) : Prop := done.length = l.length ∧ ∀ i : Nat, i < l.length → done.getD i false = decide ((i : Int) ∈ out)
theorem rdOf_at {α : Type} (d : α) (xs : List α) (j : Nat) : rdOf d xs (j : Int) = xs.getD j d := by unfold rdOf; rw [Int.toNat_natCast]
theorem find_first {l : List S53} (hn : NeedIn l) {out : List Int} {done : List Bool} (hf : Flags l out done) (d : Nat) : ∀ j, j ≤ l.length → l.length - j = d → findGo done (l.drop j) j = some (firstB l out d j) := by
  induction d with
  | zero =>
    intro j hj hd
    rw [List.drop_of_length_le (by omega)]; rfl
  | succ d ih =>
    intro j hj hd
    have hjl : j < l.length := by omega
    rw [dropS_at z53 l j hjl]
    simp only [findGo, firstB]
    rw [rdOf_at, hf.2 j hjl]
    have hin : ∀ x ∈ (l.getD j z53).f1, 0 ≤ x ∧ x < (done.length : Int) := fun x hx => by rw [hf.1]; exact hn _ (getD_mem z53 l j hjl) x hx
    have hany : needAny done (l.getD j z53).f1 = some (!((l.getD j z53).f1.all fun x => decide (x ∈ out))) := by
      unfold needAny
      rw [if_pos hin]
      congr 1
      rw [List.not_all_eq_any_not]
      apply Bool.eq_iff_iff.2
      simp only [List.any_eq_true]
      constructor
      · rintro ⟨x, hx, h⟩
        have h2 := hin x hx
        obtain ⟨i, rfl⟩ := Int.eq_ofNat_of_zero_le h2.1
        rw [rdOf_at, hf.2 i (by rw [← hf.1]; omega)] at h
        exact ⟨_, hx, h⟩
      · rintro ⟨x, hx, h⟩
        have h2 := hin x hx
        obtain ⟨i, rfl⟩ := Int.eq_ofNat_of_zero_le h2.1
        refine ⟨_, hx, ?_⟩
        rw [rdOf_at, hf.2 i (by rw [← hf.1]; omega)]
        exact h
    rw [hany, ih (j + 1) (by omega) (by omega)]
    by_cases e : (j : Int) ∈ out
    · have hr : ¬ readyB l out j = true := by unfold readyB; rw [decide_eq_true e]; simp
      rw [if_pos (decide_eq_true e), if_neg hr]
    · rw [if_neg (by rw [decide_eq_false e]; simp)]
      simp only [Option.bind_some]
      by_cases h : ((l.getD j z53).f1.all fun x => decide (x ∈ out)) = true
      · have hr : readyB l out j = true := by unfold readyB; rw [h, decide_eq_false e]; rfl
        rw [if_neg (by rw [h]; simp), if_pos hr]
      · rw [Bool.not_eq_true] at h
        have hr : ¬ readyB l out j = true := by unfold readyB; rw [h]; simp
        rw [if_pos (by rw [h]; rfl), if_neg hr]
theorem Flags.snoc {l : List S53} {out : List Int} {done : List Bool} (hf : Flags l out done) {i : Nat} (hi : i < l.length) : Flags l (out ++ [(i : Int)]) (done.set i true) := by
  refine ⟨by rw [List.length_set]; exact hf.1, fun j hj => ?_⟩
  rw [List.getD_eq_getElem?_getD, List.getElem?_set]
  by_cases e : i = j
  · subst e
    rw [if_pos rfl, if_pos (by rw [hf.1]; exact hi)]
    simp
  · rw [if_neg e, ← List.getD_eq_getElem?_getD, hf.2 j hj]
    simp only [decide_eq_decide, List.mem_append, List.mem_singleton]
    constructor
    · exact .inl
    · rintro (h | h)
      · exact h
      · omega
theorem spec_order_l2 {l : List S53} (hl : l.length ≤ 1000) {out : List Int} (hlen : out.length < l.length) (i : Nat) (hi : i < l.length) (hs : (l.getD i z53).f1.length ≤ 1048576) (r : List Int × Bool) (b : Nat) : ∀ (j : Nat) (rd : Bool), j ≤ (l.getD i z53).f1.length → (l.getD i z53).f1.length - j = b →
        ((rd && ((l.getD i z53).f1.drop j).all fun x => decide (x ∈ out)) = true → Ev (fun k => spec_l4Order.l0 k l (out ++ [(i : Int)])) r) →
        ((rd && ((l.getD i z53).f1.drop j).all fun x => decide (x ∈ out)) = false → Ev (fun k => spec_l4Order.l1 k l out (-1) l l.length ((i + 1 : Nat) : Int)) r) →
        Ev (fun k => spec_l4Order.l2 k l out (-1) i rd l l.length i (l.getD i z53).f1 (l.getD i z53).f1.length j) r := by
  induction b with
  | zero =>
    intro j rd hj hb h1 h2
    rw [List.drop_of_length_le (by omega)] at h1 h2
    simp only [List.all_nil, Bool.and_true] at h1 h2
    cases rd with
    | true =>
      refine Ev.step (fun k => ?_) (h1 rfl)
      simp only [spec_l4Order.l2]
      rw [if_neg (by omega)]; simp only [if_true]; rw [if_neg (by omega), if_pos (by omega)]
    | false =>
      refine Ev.step (fun k => ?_) (h2 rfl)
      simp only [spec_l4Order.l2]
      rw [if_neg (by omega), if_neg (by decide), wrap_next hi (by omega)]
  | succ b ihb =>
    intro j rd hj hb h1 h2
    have hjl : j < (l.getD i z53).f1.length := by omega
    rw [drop_at _ j hjl, List.all_cons] at h1 h2
    cases rd with
    | true =>
      simp only [Bool.true_and] at h1 h2
      obtain ⟨K, hK⟩ := ihb (j + 1) (decide ((l.getD i z53).f1.getD j 0 ∈ out)) (by omega) (by omega) h1 h2
      refine ⟨K + l.length + 2, fun k hk => ?_⟩
      obtain ⟨k, rfl⟩ : ∃ m, k = m + 1 := ⟨k - 1, by omega⟩
      simp only [spec_l4Order.l2]
      rw [if_pos (by omega), if_pos (by omega), if_pos (by omega)]; simp only [if_true]; rw [rd_at, l1Has_eq out _ (by omega) k (by omega)]
      simp only [Option.bind_some]
      rw [wrap_next hjl (by omega)]
      exact hK k (by omega)
    | false =>
      simp only [Bool.false_and] at h1 h2
      have := ihb (j + 1) false (by omega) (by omega) (fun h => by simp at h) (fun _ => h2 trivial)
      refine Ev.step (fun k => ?_) this
      simp only [spec_l4Order.l2]
      rw [if_pos (by omega), if_pos (by omega), if_pos (by omega), if_neg (by decide), wrap_next hjl (by omega)]
theorem spec_order_l1 {l : List S53} (hl : l.length ≤ 1000) (hs : ∀ x ∈ l, ShortT x) {out : List Int} (hlen : out.length < l.length) (r : List Int × Bool) (b : Nat) : ∀ (j : Nat), j ≤ l.length → l.length - j = b →
    (∀ i : Nat, firstB l out b j = i → Ev (fun k => spec_l4Order.l0 k l (out ++ [(i : Int)])) r) → (firstB l out b j = -1 → r = ([], false)) → Ev (fun k => spec_l4Order.l1 k l out (-1) l l.length j) r := by
  induction b with
  | zero =>
    intro j hj hb h1 h2
    rw [h2 rfl]
    refine Ev.step (f := fun _ => some ([], false)) (fun k => ?_) (Ev.now _)
    simp only [spec_l4Order.l1]
    rw [if_neg (by omega), if_pos (by decide)]
  | succ b ih =>
    intro j hj hb h1 h2
    have hjl : j < l.length := by omega
    simp only [firstB] at h1 h2
    have hsj : (l.getD j z53).f1.length ≤ 1048576 := hs _ (getD_mem z53 l j hjl)
    have hin := spec_order_l2 hl hlen j hjl hsj r (l.getD j z53).f1.length 0 (!(decide ((j : Int) ∈ out))) (by omega) (by omega)
      (fun h => by
        rw [List.drop_zero] at h
        exact h1 j (by rw [if_pos (show readyB l out j = true from h)]))
      (fun h => by
        rw [List.drop_zero] at h
        have hr : ¬ readyB l out j = true := by unfold readyB; rw [h]; decide
        rw [if_neg hr] at h1 h2
        exact ih (j + 1) (by omega) (by omega) h1 h2)
    obtain ⟨K, hK⟩ := hin
    refine ⟨K + l.length + 2, fun k hk => ?_⟩
    obtain ⟨k, rfl⟩ : ∃ m, k = m + 1 := ⟨k - 1, by omega⟩
    simp only [spec_l4Order.l1]
    rw [if_pos (by omega), if_pos (by omega), if_pos (by omega), l1Has_eq out _ (by omega) k (by omega), rd53_at]
    simp only [Option.bind_some]
    exact hK k (by omega)
/-- where the order ends -/
theorem order_go {l : List S53} (hn : NeedIn l) (hl : l.length ≤ 1000) (hs : ∀ x ∈ l, ShortT x) (d : Nat) : ∀ (out : List Int) (done : List Bool), OutOK l out → Flags l out done → l.length - out.length = d →
    ∃ O, OutOK l O ∧ firstB l O l.length 0 = -1 ∧ (∀ q, d < q → ordGo l q out done = some O) ∧ (∃ t, O = out ++ t) ∧
      ∀ r, (O.length = l.length → r = (O, true)) → (O.length ≠ l.length → r = ([], false)) → Ev (fun k => spec_l4Order.l0 k l out) r := by
  induction d with
  | zero =>
    intro out done ho hf hd
    have hlen : out.length = l.length := by have := ho.len; omega
    refine ⟨out, ho, ho.stop hlen, fun q hq => ?_, ⟨[], by simp⟩, fun r h1 h2 => ?_⟩
    · obtain ⟨q, rfl⟩ : ∃ m, q = m + 1 := ⟨q - 1, by omega⟩
      simp only [ordGo]
      have := find_first hn hf l.length 0 (by omega) (by omega)
      rw [List.drop_zero] at this
      rw [this, ho.stop hlen]; rfl
    · rw [h1 hlen]
      refine Ev.step (f := fun _ => some (out, true)) (fun k => ?_) (Ev.now _)
      simp only [spec_l4Order.l0]
      rw [if_neg (by omega)]
  | succ d ih =>
    intro out done ho hf hd
    have hlen : out.length < l.length := by omega
    have hfind := find_first hn hf l.length 0 (by omega) (by omega)
    rw [List.drop_zero] at hfind
    rcases firstB_ge l out l.length 0 with h1 | ⟨i, h1, _, h3, h4, _⟩
    · refine ⟨out, ho, h1, fun q hq => ?_, ⟨[], by simp⟩, fun r _ h2 => ?_⟩
      · obtain ⟨q, rfl⟩ : ∃ m, q = m + 1 := ⟨q - 1, by omega⟩
        simp only [ordGo]
        rw [show findGo done l 0 = _ from hfind, h1]; rfl
      · have h5 := spec_order_l1 hl hs hlen r l.length 0 (by omega) (by omega) (fun i hi => by rw [h1] at hi; omega) (fun _ => h2 (by omega))
        refine Ev.step (fun k => ?_) h5
        simp only [spec_l4Order.l0]
        rw [if_pos (by omega)]; rfl
    · have hil : i < l.length := by omega
      obtain ⟨O, hO1, hO2, hO3, ⟨t, hO4⟩, hO5⟩ := ih (out ++ [(i : Int)]) (done.set i true) (ho.snoc hil h4) (hf.snoc hil) (by rw [List.length_append]; simp; omega)
      refine ⟨O, hO1, hO2, fun q hq => ?_, ⟨[(i : Int)] ++ t, by rw [hO4]; simp⟩, fun r hr1 hr2 => ?_⟩
      · obtain ⟨q, rfl⟩ : ∃ m, q = m + 1 := ⟨q - 1, by omega⟩
        simp only [ordGo]
        rw [show findGo done l 0 = _ from hfind, h1]; simp only [Option.bind_some]
        rw [if_neg (by omega), if_pos (by omega), Int.toNat_natCast]
        exact hO3 q (by omega)
      · have h5 := spec_order_l1 hl hs hlen r l.length 0 (by omega) (by omega) (fun i' hi' => by
          rw [h1] at hi'
          have : i = i' := by omega
          subst this
          exact hO5 r hr1 hr2) (fun h => by rw [h1] at h; omega)
        refine Ev.step (fun k => ?_) h5
        simp only [spec_l4Order.l0]
        rw [if_pos (by omega)]; rfl
theorem order_both {l : List S53} (hn : NeedIn l) (hl : l.length ≤ 1000) (hs : ∀ x ∈ l, ShortT x) : ∃ O, OutOK l O ∧ firstB l O l.length 0 = -1 ∧ (∀ k, l.length < k → impl_order.f k l = some O) ∧ Ev (fun k => spec_l4Order.f k l) (if O.length = l.length then (O, true) else ([], false)) := by
  obtain ⟨O, h1, h2, h3, _, h5⟩ := order_go hn hl hs l.length [] (List.replicate l.length false) (OutOK.nil l) ⟨List.length_replicate, fun i hi => by simp [List.getD_eq_getElem?_getD, hi]⟩ (by simp)
  refine ⟨O, h1, h2, fun k hk => ?_, ?_⟩
  · unfold impl_order.f
    rw [if_pos (by omega)]
    exact h3 k hk
  · have := h5 (if O.length = l.length then (O, true) else ([], false)) (fun h => by rw [if_pos h]) (fun h => by rw [if_neg h])
    exact this

def taskOk (n : Nat) (i : Nat) (t : S53) : Bool := decide (1 ≤ t.f0 ∧ t.f0 ≤ 100) && (riseFrom t.f1 (wrap64 ((n : Int) - 1)) 0 t.f1.length && !(decide ((i : Int) ∈ t.f1)))
def tasksOk (l : List S53) (d : Nat) : Nat → Bool := fun j => (List.range d).all fun m => taskOk l.length (j + m) (l.getD (j + m) z53)
def tasksFrom (l : List S53) : Nat → Nat → Bool
  | 0, _ => true
  | d + 1, j => taskOk l.length j (l.getD j z53) && tasksFrom l d (j + 1)
theorem tasksFrom_all (l : List S53) (d : Nat) : ∀ j, tasksFrom l d j = true → ∀ i, j ≤ i → i < j + d → taskOk l.length i (l.getD i z53) = true := by
  induction d with
  | zero => intro j _ i h1 h2; omega
  | succ d ih =>
    intro j h i h1 h2
    simp only [tasksFrom, Bool.and_eq_true] at h
    by_cases e : i = j
    · subst e; exact h.1
    · exact ih (j + 1) h.2 i (by omega) (by omega)
theorem spec_plan_loop (l : List S53) (hn : l.length ≤ 30) (hs : ∀ x ∈ l, ShortT x) (d : Nat) : ∀ (j : Nat), j ≤ l.length → l.length - j = d → ∀ r : Bool,
    (tasksFrom l d j = false → r = false) → (tasksFrom l d j = true → ∃ p : List Int × Bool, p.2 = r ∧ Ev (fun k => spec_l4Order.f k l) p) → Ev (fun k => spec_GoodPlan.l0 k l l l.length j) r := by
  induction d with
  | zero =>
    intro j hj hd r h1 h2
    obtain ⟨p, rfl, h3⟩ := h2 rfl
    refine Ev.step (f := fun k => (spec_l4Order.f k l).bind fun b => some b.2) (fun k => ?_) (Ev.bind (f := fun _ b => some b.2) h3 (Ev.now p.2))
    simp only [spec_GoodPlan.l0]; rw [if_neg (by omega)]
  | succ d ih =>
    intro j hj hd r h1 h2
    have hjl : j < l.length := by omega
    have hsj : (l.getD j z53).f1.length ≤ 1048576 := hs _ (getD_mem z53 l j hjl)
    simp only [tasksFrom] at h1 h2
    have hrec : taskOk l.length j (l.getD j z53) = true → Ev (fun k => spec_GoodPlan.l0 k l l l.length ((j + 1 : Nat) : Int)) r := fun hk => by
      rw [hk, Bool.true_and] at h1 h2
      exact ih (j + 1) (by omega) (by omega) r h1 h2
    cases hk : taskOk l.length j (l.getD j z53) with
    | true =>
      obtain ⟨K, hK⟩ := hrec hk
      refine ⟨K + 1048580, fun k hkk => ?_⟩
      obtain ⟨k, rfl⟩ : ∃ m, k = m + 1 := ⟨k - 1, by omega⟩
      unfold taskOk at hk
      simp only [Bool.and_eq_true, Bool.not_eq_true'] at hk
      simp only [spec_GoodPlan.l0]
      rw [if_pos (by omega), if_pos (by omega), if_pos (by omega), rd53_at, l1In_eq, hk.1]; simp only [Option.bind_some, if_true]
      rw [l3List_eq _ _ hsj k (by omega), hk.2.1]; simp only [Option.bind_some, if_true]
      rw [l1Has_eq _ _ hsj k (by omega), hk.2.2]; simp only [Option.bind_some]
      rw [if_neg (by decide), wrap_next hjl (by omega)]
      exact hK k (by omega)
    | false =>
      rw [hk, Bool.false_and] at h1
      obtain rfl := h1 rfl
      refine ⟨1048580, fun k hkk => ?_⟩
      obtain ⟨k, rfl⟩ : ∃ m, k = m + 1 := ⟨k - 1, by omega⟩
      unfold taskOk at hk
      simp only [spec_GoodPlan.l0]
      rw [if_pos (by omega), if_pos (by omega), if_pos (by omega), rd53_at, l1In_eq]; simp only [Option.bind_some]
      by_cases c1 : 1 ≤ (l.getD j z53).f0 ∧ (l.getD j z53).f0 ≤ 100
      · rw [decide_eq_true c1, Bool.true_and] at hk
        rw [decide_eq_true c1, if_pos rfl, l3List_eq _ _ hsj k (by omega)]; simp only [Option.bind_some]
        cases c2 : riseFrom (l.getD j z53).f1 (wrap64 ((l.length : Int) - 1)) 0 (l.getD j z53).f1.length with
        | true =>
          rw [c2, Bool.true_and, Bool.not_eq_false'] at hk
          rw [if_pos rfl, l1Has_eq _ _ hsj k (by omega), hk]; simp
        | false => rw [if_neg (by decide)]
      · rw [decide_eq_false c1, if_neg (by decide)]
theorem impl_plan_loop (l : List S53) (hn : l.length ≤ 30) (hs : ∀ x ∈ l, ShortT x) (d : Nat) : ∀ (j : Nat), j ≤ l.length → l.length - j = d → ∀ r : Bool,
    (tasksFrom l d j = false → r = false) → (tasksFrom l d j = true → ∃ O : List Int, ((O.length : Int) == (l.length : Int)) = r ∧ Ev (fun k => impl_order.f k l) O) → Ev (fun k => impl_GoodPlan.l0 k l l l.length j) r := by
  induction d with
  | zero =>
    intro j hj hd r h1 h2
    obtain ⟨p, rfl, h3⟩ := h2 rfl
    refine Ev.step (f := fun k => (impl_order.f k l).bind fun b => some ((b.length : Int) == (l.length : Int))) (fun k => ?_) (Ev.bind (f := fun _ b => some ((b.length : Int) == (l.length : Int))) h3 (Ev.now _))
    simp only [impl_GoodPlan.l0]; rw [if_neg (by omega)]
  | succ d ih =>
    intro j hj hd r h1 h2
    have hjl : j < l.length := by omega
    have hsj : (l.getD j z53).f1.length ≤ 1048576 := hs _ (getD_mem z53 l j hjl)
    simp only [tasksFrom] at h1 h2
    have hrec : taskOk l.length j (l.getD j z53) = true → Ev (fun k => impl_GoodPlan.l0 k l l l.length ((j + 1 : Nat) : Int)) r := fun hk => by
      rw [hk, Bool.true_and] at h1 h2
      exact ih (j + 1) (by omega) (by omega) r h1 h2
    cases hk : taskOk l.length j (l.getD j z53) with
    | true =>
      obtain ⟨K, hK⟩ := hrec hk
      refine ⟨K + 1048580, fun k hkk => ?_⟩
      obtain ⟨k, rfl⟩ : ∃ m, k = m + 1 := ⟨k - 1, by omega⟩
      unfold taskOk at hk
      simp only [Bool.and_eq_true, Bool.not_eq_true'] at hk
      simp only [impl_GoodPlan.l0]
      rw [if_pos (by omega), if_pos (by omega), if_pos (by omega), rd53_at, in_eq, hk.1]; simp only [Option.bind_some, if_true]
      rw [rising_eq _ _ hsj k (by omega), hk.2.1]; simp only [Option.bind_some, if_true]
      rw [Contains_eq _ _ hsj k (by omega), hk.2.2]; simp only [Option.bind_some]
      rw [if_neg (by decide), wrap_next hjl (by omega)]
      exact hK k (by omega)
    | false =>
      rw [hk, Bool.false_and] at h1
      obtain rfl := h1 rfl
      refine ⟨1048580, fun k hkk => ?_⟩
      obtain ⟨k, rfl⟩ : ∃ m, k = m + 1 := ⟨k - 1, by omega⟩
      unfold taskOk at hk
      simp only [impl_GoodPlan.l0]
      rw [if_pos (by omega), if_pos (by omega), if_pos (by omega), rd53_at, in_eq]; simp only [Option.bind_some]
      by_cases c1 : 1 ≤ (l.getD j z53).f0 ∧ (l.getD j z53).f0 ≤ 100
      · rw [decide_eq_true c1, Bool.true_and] at hk
        rw [decide_eq_true c1, if_pos rfl, rising_eq _ _ hsj k (by omega)]; simp only [Option.bind_some]
        cases c2 : riseFrom (l.getD j z53).f1 (wrap64 ((l.length : Int) - 1)) 0 (l.getD j z53).f1.length with
        | true =>
          rw [c2, Bool.true_and, Bool.not_eq_false'] at hk
          rw [if_pos rfl, Contains_eq _ _ hsj k (by omega), hk]; simp
        | false => rw [if_neg (by decide)]
      · rw [decide_eq_false c1, if_neg (by decide)]
theorem rise_bound (l : List Int) (q : Int) (h : riseFrom l q 0 l.length = true) : ∀ p ∈ l, 0 ≤ p ∧ p ≤ q := by
  have key : ∀ (d j : Nat), j + d = l.length → riseFrom l q j d = true → ∀ i, j ≤ i → i < l.length → 0 ≤ l.getD i 0 ∧ l.getD i 0 ≤ q := by
    intro d
    induction d with
    | zero => intro j hj _ i h1 h2; omega
    | succ d ih =>
      intro j hj h i h1 h2
      simp only [riseFrom, Bool.and_eq_true] at h
      by_cases e : i = j
      · subst e; have h3 := h.1; unfold riseOk at h3; simp only [decide_eq_true_eq] at h3; exact ⟨h3.1, h3.2.1⟩
      · exact ih (j + 1) (by omega) h.2 i (by omega) h2
  intro p hp
  obtain ⟨i, hi, rfl⟩ := List.getElem_of_mem hp
  have := key l.length 0 (by omega) h i (by omega) hi
  rwa [List.getD_eq_getElem?_getD, List.getElem?_eq_getElem hi] at this
theorem need_in (l : List S53) (hn : l.length ≤ 30) (h : tasksFrom l l.length 0 = true) : NeedIn l := by
  intro t ht x hx
  obtain ⟨i, hi, rfl⟩ := List.getElem_of_mem ht
  have := tasksFrom_all l l.length 0 h i (by omega) (by omega)
  unfold taskOk at this
  simp only [Bool.and_eq_true] at this
  rw [List.getD_eq_getElem?_getD, List.getElem?_eq_getElem hi] at this
  have h2 := rise_bound _ _ this.2.1 x hx
  rw [wrap_small (by omega) (by omega)] at h2
  omega
/-- a good plan, and its order -/
structure Plan (l : List S53) (O : List Int) : Prop where
  len : l.length ≤ 30
  ok : ∀ i, i < l.length → 1 ≤ (l.getD i z53).f0 ∧ (l.getD i z53).f0 ≤ 100
  need : NeedIn l
  out : OutOK l O
  full : O.length = l.length
  impl : ∀ k, 100 < k → impl_order.f k l = some O
  spec : Ev (fun k => spec_l4Order.f k l) (O, true)
theorem plan_both (l : List S53) (hs : ∀ x ∈ l, ShortT x) : ∃ r : Bool, Ev (fun k => spec_GoodPlan.f k l) r ∧ Ev (fun k => impl_GoodPlan.f k l) r ∧ (r = true → ∃ O, Plan l O) := by
  by_cases h30 : (l.length : Int) > 30
  · refine ⟨false, ⟨0, fun k _ => ?_⟩, ⟨0, fun k _ => ?_⟩, fun h => by cases h⟩
    · show spec_GoodPlan.f k l = some false
      unfold spec_GoodPlan.f; rw [if_pos h30]
    · show impl_GoodPlan.f k l = some false
      unfold impl_GoodPlan.f; rw [if_pos h30]
  · have hlen : l.length ≤ 30 := by omega
    cases ht : tasksFrom l l.length 0 with
    | false =>
      refine ⟨false, Ev.congr (fun k => ?_) (spec_plan_loop l hlen hs l.length 0 (by omega) (by omega) false (fun _ => rfl) (fun h => by rw [ht] at h; cases h)), Ev.congr (fun k => ?_) (impl_plan_loop l hlen hs l.length 0 (by omega) (by omega) false (fun _ => rfl) (fun h => by rw [ht] at h; cases h)), fun h => by cases h⟩
      · unfold spec_GoodPlan.f; rw [if_neg h30]; rfl
      · unfold impl_GoodPlan.f; rw [if_neg h30]; rfl
    | true =>
      have hne := need_in l hlen ht
      obtain ⟨O, h1, h2, h3, h4⟩ := order_both hne (by omega) hs
      refine ⟨decide (O.length = l.length), Ev.congr (fun k => ?_) (spec_plan_loop l hlen hs l.length 0 (by omega) (by omega) _ (fun h => by rw [ht] at h; cases h) (fun _ => ⟨_, ?_, h4⟩)), Ev.congr (fun k => ?_) (impl_plan_loop l hlen hs l.length 0 (by omega) (by omega) _ (fun h => by rw [ht] at h; cases h) (fun _ => ⟨O, ?_, ⟨l.length + 1, fun k hk => h3 k (by omega)⟩⟩)), fun h => ?_⟩
      · unfold spec_GoodPlan.f; rw [if_neg h30]; rfl
      · by_cases e : O.length = l.length
        · rw [if_pos e, decide_eq_true e]
        · rw [if_neg e, decide_eq_false e]
      · unfold impl_GoodPlan.f; rw [if_neg h30]; rfl
      · by_cases e : O.length = l.length
        · rw [decide_eq_true e, e]; simp
        · rw [decide_eq_false e]; simp; omega
      · have e := of_decide_eq_true h
        rw [if_pos e] at h4
        refine ⟨O, hlen, fun i hi => ?_, hne, h1, e, fun k hk => h3 k (by omega), h4⟩
        have := tasksFrom_all l l.length 0 ht i (by omega) (by omega)
        unfold taskOk at this
        simp only [Bool.and_eq_true, decide_eq_true_eq] at this
        exact this.1

theorem eqSlotS_loop (a : List S66) (hn : a.length ≤ 1048576) (d : Nat) : ∀ (k j : Nat), j ≤ a.length → a.length - j = d → d < k → laws_eqSlotS.l0 k a a j = some true := by
  induction d with
  | zero =>
    intro k j hj hd hk
    obtain ⟨k, rfl⟩ : ∃ m, k = m + 1 := ⟨k - 1, by omega⟩
    simp only [laws_eqSlotS.l0]; rw [if_neg (by omega)]
  | succ d ih =>
    intro k j hj hd hk
    obtain ⟨k, rfl⟩ : ∃ m, k = m + 1 := ⟨k - 1, by omega⟩
    simp only [laws_eqSlotS.l0]; rw [if_pos (by omega), if_pos (by omega), if_pos (by omega)]
    unfold laws_eqSlot.f
    simp only [if_true, Option.bind_some]
    rw [wrap_next (n := a.length) (by omega) (by omega)]
    exact ih k (j + 1) (by omega) (by omega) (by omega)
theorem eqSlotS_self (a : List S66) (hn : a.length ≤ 1048576) (k : Nat) (hk : 1048576 < k) : laws_eqSlotS.f k a a = some true := by
  unfold laws_eqSlotS.f
  rw [if_pos rfl]
  exact eqSlotS_loop a hn a.length k 0 (by omega) (by omega) (by omega)

theorem rd66_at (l : List S66) (j : Nat) : rd_T66 l (j : Int) = l.getD j z66 := by unfold rd_T66; rw [Int.toNat_natCast]
theorem rd66_set (l : List S66) (j : Nat) (x : S66) (h : j < l.length) : rd_T66 (l.set j x) (j : Int) = x := by
  rw [rd66_at, List.getD_eq_getElem?_getD, List.getElem?_set_self h]; rfl
/-- slots with the numbers v, v + 1, .. in their fields -/
def slotRun (v : Int) : Nat → List S66
  | 0 => []
  | n + 1 => ⟨v, v + 1, v + 1 + 1⟩ :: slotRun (v + 1 + 1 + 1) n
theorem slotRun_length (n : Nat) : ∀ v, (slotRun v n).length = n := by
  induction n with
  | zero => intro v; rfl
  | succ n ih => intro v; simp [slotRun, ih]
theorem markSlotS_loop (d : Nat) : ∀ (k j : Nat) (v : Int) (l : List S66), l.length ≤ 1048576 → 0 ≤ v → v + 3 * d ≤ 1000000000000000000 → j ≤ l.length → l.length - j = d → d < k →
    laws_markSlotS.l0 k l v j = some (v + 3 * d, l.take j ++ slotRun v d) := by
  induction d with
  | zero =>
    intro k j v l hn hv0 hv1 hj hd hk
    obtain ⟨k, rfl⟩ : ∃ m, k = m + 1 := ⟨k - 1, by omega⟩
    simp only [laws_markSlotS.l0]; rw [if_neg (by omega), List.take_of_length_le (by omega)]; simp [slotRun]
  | succ d ih =>
    intro k j v l hn hv0 hv1 hj hd hk
    obtain ⟨k, rfl⟩ : ∃ m, k = m + 1 := ⟨k - 1, by omega⟩
    simp only [laws_markSlotS.l0, Option.bind_some]; rw [if_pos (by omega), if_pos (by omega), wrap_next (n := l.length) (by omega) (by omega), wrap_small (x := v + 1) (by omega) (by omega), wrap_small (x := v + 1 + 1) (by omega) (by omega), wrap_small (x := v + 1 + 1 + 1) (by omega) (by omega), Int.toNat_natCast]
    simp only [List.set_set]
    rw [rd66_set _ _ _ (by omega), rd66_set _ _ _ (by omega)]
    simp only
    rw [ih k (j + 1) (v + 1 + 1 + 1) (l.set j ⟨v, v + 1, v + 1 + 1⟩) (by rw [List.length_set]; exact hn) (by omega) (by omega) (by rw [List.length_set]; omega) (by rw [List.length_set]; omega) (by omega)]
    congr 2
    · omega
    · rw [List.take_succ_eq_append_getElem (by rw [List.length_set]; omega), List.getElem_set_self, List.take_set_of_le (by omega)]; simp [slotRun]
theorem markSlotS_eq (l : List S66) (v : Int) (hn : l.length ≤ 1048576) (hv0 : 0 ≤ v) (hv1 : v ≤ 500000000000000000) (k : Nat) (hk : l.length < k) :
    laws_markSlotS.f k l v = some (v + 3 * l.length, slotRun v l.length) := by
  unfold laws_markSlotS.f
  have := markSlotS_loop l.length k 0 v l hn hv0 (by omega) (by omega) (by omega) hk
  simpa using this
theorem heldSlotS_loop (d : Nat) : ∀ (k : Nat) (v : Int) (p : List S66), p.length + d ≤ 1048576 → 0 ≤ v → v + 3 * d ≤ 1000000000000000000 → d < k →
    laws_heldSlotS.l0 k (p ++ slotRun v d) v p.length = some (v + 3 * d) := by
  induction d with
  | zero =>
    intro k v p hn hv0 hv1 hk
    obtain ⟨k, rfl⟩ : ∃ m, k = m + 1 := ⟨k - 1, by omega⟩
    simp only [laws_heldSlotS.l0]; rw [if_neg (by simp [slotRun])]; simp
  | succ d ih =>
    intro k v p hn hv0 hv1 hk
    obtain ⟨k, rfl⟩ : ∃ m, k = m + 1 := ⟨k - 1, by omega⟩
    have hl : (p ++ slotRun v (d + 1)).length = p.length + (d + 1) := by rw [List.length_append, slotRun_length]
    have hg : rd_T66 (p ++ slotRun v (d + 1)) (p.length : Int) = ⟨v, v + 1, v + 1 + 1⟩ := by rw [rd66_at]; simp [slotRun]
    simp only [laws_heldSlotS.l0]; rw [if_pos (by omega), if_pos (by omega), hg]
    simp only [if_true]
    rw [wrap_small (x := v + 1) (by omega) (by omega), if_pos rfl, wrap_small (x := v + 1 + 1) (by omega) (by omega), if_pos rfl, wrap_next (n := p.length + (d + 1)) (by omega) (by omega), wrap_small (x := v + 1 + 1 + 1) (by omega) (by omega)]
    have := ih k (v + 1 + 1 + 1) (p ++ [⟨v, v + 1, v + 1 + 1⟩]) (by simp; omega) (by omega) (by omega) (by omega)
    simp only [List.append_assoc, List.length_append, List.length_singleton, List.singleton_append] at this
    rw [show slotRun v (d + 1) = ⟨v, v + 1, v + 1 + 1⟩ :: slotRun (v + 1 + 1 + 1) d from rfl, this]
    congr 1; omega
theorem heldSlotS_eq (v : Int) (n : Nat) (hn : n ≤ 1048576) (hv0 : 0 ≤ v) (hv1 : v ≤ 500000000000000000) (k : Nat) (hk : n < k) :
    laws_heldSlotS.f k (slotRun v n) v = some (v + 3 * n) := by
  unfold laws_heldSlotS.f
  have := heldSlotS_loop n k v [] (by simpa using hn) hv0 (by omega) hk
  simpa using this

theorem rdI_of (l : List Int) (i : Int) : rd l i = rdOf 0 l i := rfl
theorem rdI_set (l : List Int) (i j : Nat) (v : Int) (h : i < l.length) : rdOf 0 (l.set i v) (j : Int) = if i = j then v else rdOf 0 l (j : Int) := by
  rw [rdOf_at, rdOf_at, List.getD_eq_getElem?_getD, List.getElem?_set]
  by_cases e : i = j
  · subst e; rw [if_pos rfl, if_pos h, if_pos rfl]; rfl
  · rw [if_neg e, if_neg e, List.getD_eq_getElem?_getD]
/-- how many are below 0 -/
def cntU : List Int → Nat
  | [] => 0
  | x :: l => cntU l + if x < 0 then 1 else 0
theorem cntU_le (l : List Int) : cntU l ≤ l.length := by
  induction l with
  | nil => exact Nat.le_refl _
  | cons x l ih => simp only [cntU, List.length_cons]; split <;> omega
theorem cntU_set (l : List Int) : ∀ (i : Nat) (v : Int), i < l.length → l.getD i 0 < 0 → 0 ≤ v → cntU (l.set i v) + 1 = cntU l := by
  induction l with
  | nil => intro i v h; simp at h
  | cons x l ih =>
    intro i v h h1 h2
    cases i with
    | zero =>
      have h1 : x < 0 := h1
      simp only [List.set_cons_zero, cntU]; rw [if_pos h1, if_neg (by omega)]
    | succ i =>
      simp only [List.set_cons_succ, cntU]
      have := ih i v (by simpa using h) h1 h2
      omega
theorem cntU_pos (l : List Int) (h : 0 < cntU l) : ∃ i : Nat, i < l.length ∧ l.getD i 0 < 0 := by
  induction l with
  | nil => simp [cntU] at h
  | cons x l ih =>
    by_cases c : x < 0
    · exact ⟨0, by simp, c⟩
    · simp only [cntU] at h; rw [if_neg c] at h
      obtain ⟨i, h1, h2⟩ := ih (by omega)
      exact ⟨i + 1, by simpa using h1, h2⟩
theorem cntU_rep (n : Nat) : cntU (List.replicate n (-1)) = n := by
  induction n with
  | zero => rfl
  | succ n ih => simp only [List.replicate_succ, cntU, ih]; rfl
/-- task i may begin -/
def rdyT (l : List S53) (over : List Int) (now : Int) (i : Nat) : Prop := rdOf 0 over (i : Int) < 0 ∧ (l.getD i z53).f1.any (rdyLate over now) = false
theorem rdyGo_cases (l : List S53) (over : List Int) (now : Int) (d : Nat) : ∀ j : Nat, j ≤ l.length → l.length - j = d →
    (rdyGo over now (l.drop j) j = -1 ∧ ∀ i, j ≤ i → i < l.length → ¬ rdyT l over now i) ∨ ∃ i : Nat, rdyGo over now (l.drop j) j = i ∧ j ≤ i ∧ i < l.length ∧ rdyT l over now i := by
  induction d with
  | zero =>
    intro j hj hd
    rw [List.drop_of_length_le (by omega)]
    exact .inl ⟨rfl, fun i h1 h2 => by omega⟩
  | succ d ih =>
    intro j hj hd
    have hjl : j < l.length := by omega
    rw [dropS_at z53 l j hjl]
    simp only [rdyGo]
    by_cases c : rdOf 0 over (j : Int) < 0 ∧ (l.getD j z53).f1.any (rdyLate over now) = false
    · rw [if_pos c]; exact .inr ⟨j, rfl, Nat.le_refl _, hjl, c⟩
    · rw [if_neg c]
      rcases ih (j + 1) (by omega) (by omega) with ⟨h1, h2⟩ | ⟨i, h1, h2, h3, h4⟩
      · refine .inl ⟨h1, fun i h3 h4 => ?_⟩
        by_cases e : i = j
        · subst e; exact c
        · exact h2 i (by omega) h4
      · exact .inr ⟨i, h1, by omega, h3, h4⟩
/-- what holds at a time: A workers, the tasks' ends -/
structure ScInv (l : List S53) (A : Nat) (now : Int) (st : St) : Prop where
  fl : st.free.length = A
  ol : st.over.length = l.length
  fe : ∀ i : Nat, i < A → rdOf 0 st.free (i : Int) ≤ st.e
  oe : ∀ i : Nat, i < l.length → rdOf 0 st.over (i : Int) ≤ st.e
  e0 : 0 ≤ st.e
  e1 : st.e ≤ now + 100
  cnt : st.out.length + cntU st.over = l.length
theorem ScInv.later {l : List S53} {A : Nat} {now now' : Int} {st : St} (h : ScInv l A now st) (hn : now ≤ now') : ScInv l A now' st := ⟨h.fl, h.ol, h.fe, h.oe, h.e0, by have := h.e1; omega, h.cnt⟩
theorem scStep_inv {l : List S53} (hok : ∀ i, i < l.length → 1 ≤ (l.getD i z53).f0 ∧ (l.getD i z53).f0 ≤ 100) {A : Nat} {now : Int} {st : St} (h0 : 0 ≤ now) (h : ScInv l A now st) (w : Nat) (hw : w < A) :
    ScInv l A now (scStep l now w st) ∧ (scStep l now w st = st ∨ cntU (scStep l now w st).over + 1 = cntU st.over) := by
  unfold scStep
  by_cases c : now < rdOf 0 st.free (w : Int)
  · rw [if_pos c]; exact ⟨h, .inl rfl⟩
  · rw [if_neg c]
    rcases rdyGo_cases l st.over now l.length 0 (by omega) (by omega) with ⟨h1, _⟩ | ⟨i, h1, _, h2, h3⟩
    · rw [List.drop_zero] at h1
      rw [show rdyGo st.over now l 0 = -1 from h1, if_neg (by omega)]; exact ⟨h, .inl rfl⟩
    · rw [List.drop_zero] at h1
      rw [show rdyGo st.over now l 0 = i from h1, if_pos (by omega), rd53_at, Int.toNat_natCast]
      have hi := hok i h2
      have hov : st.over.getD i 0 < 0 := by have := h3.1; rwa [rdOf_at] at this
      obtain ⟨v, hv⟩ : ∃ v, v = now + (l.getD i z53).f0 := ⟨_, rfl⟩
      rw [← hv]
      have hc := cntU_set st.over i v (by rw [h.ol]; exact h2) hov (by omega)
      have := h.fl
      have := h.ol
      have := h.e0
      have := h.e1
      refine ⟨⟨by simp only [List.length_set]; exact h.fl, by simp only [List.length_set]; exact h.ol, fun j hj => ?_, fun j hj => ?_, ?_, ?_, ?_⟩, .inr hc⟩
      · show rdOf 0 (st.free.set w v) (j : Int) ≤ max st.e v
        rw [rdI_set _ _ _ _ (by omega)]
        have := h.fe j hj
        split <;> omega
      · show rdOf 0 (st.over.set i v) (j : Int) ≤ max st.e v
        rw [rdI_set _ _ _ _ (by omega)]
        have := h.oe j hj
        split <;> omega
      · show 0 ≤ max st.e v
        omega
      · show max st.e v ≤ now + 100
        omega
      · show (st.out ++ [_]).length + cntU (st.over.set i v) = l.length
        have := h.cnt
        rw [List.length_append]
        simp only [List.length_singleton]
        omega
theorem scW_inv {l : List S53} (hok : ∀ i, i < l.length → 1 ≤ (l.getD i z53).f0 ∧ (l.getD i z53).f0 ≤ 100) {A : Nat} {now : Int} (h0 : 0 ≤ now) (d : Nat) : ∀ (w : Nat) (st : St), ScInv l A now st → w + d = A →
    ScInv l A now (scW l now d w st) ∧ (scW l now d w st = st ∨ cntU (scW l now d w st).over + 1 ≤ cntU st.over) := by
  induction d with
  | zero => intro w st h hw; exact ⟨h, .inl rfl⟩
  | succ d ih =>
    intro w st h hw
    simp only [scW]
    obtain ⟨h1, h2⟩ := scStep_inv hok h0 h w (by omega)
    obtain ⟨h3, h4⟩ := ih (w + 1) _ h1 (by omega)
    refine ⟨h3, ?_⟩
    rcases h2 with h2 | h2
    · rw [h2] at h4 ⊢; exact h4
    · rcases h4 with h4 | h4
      · rw [h4]; exact .inr (by omega)
      · exact .inr (by omega)
/-- where all is over by now some task may begin -/
theorem sc_some {l : List S53} {O : List Int} (p : Plan l O) {A : Nat} {now : Int} {st : St} (h : ScInv l A now st) (he : st.e ≤ now) (hc : 0 < cntU st.over) : 0 ≤ rdyGo st.over now l 0 := by
  obtain ⟨i, hi, hu⟩ := cntU_pos _ hc
  have hol := h.ol
  have key : ∀ (b a : List Int), O = a ++ b → (∀ y ∈ a, 0 ≤ rdOf 0 st.over y) → (∃ x ∈ b, rdOf 0 st.over x < 0) → ∃ j : Nat, j < l.length ∧ rdyT l st.over now j := by
    intro b
    induction b with
    | nil => intro a _ _ h3; obtain ⟨x, hx, _⟩ := h3; cases hx
    | cons x b ih =>
      intro a h1 h2 h3
      by_cases c : rdOf 0 st.over x < 0
      · have hr := p.out.rng x (by rw [h1]; simp)
        obtain ⟨j, rfl⟩ := Int.eq_ofNat_of_zero_le hr.1
        have hj : j < l.length := by omega
        refine ⟨j, hj, c, ?_⟩
        have ht := (p.out.topo a b _ h1).2
        rw [Int.toNat_natCast] at ht
        rw [List.any_eq_false]
        intro n hn
        have hn1 := h2 n (ht n hn)
        have hn2 := p.need _ (getD_mem z53 l j hj) n hn
        obtain ⟨m, rfl⟩ := Int.eq_ofNat_of_zero_le hn2.1
        have hn3 := h.oe m (by omega)
        unfold rdyLate
        rw [decide_eq_false (by omega), decide_eq_false (by omega)]; decide
      · refine ih (a ++ [x]) (by rw [h1]; simp) (fun y hy => ?_) ?_
        · rcases List.mem_append.1 hy with hy | hy
          · exact h2 y hy
          · rw [List.mem_singleton.1 hy]; omega
        · obtain ⟨z, hz, hz2⟩ := h3
          rcases List.mem_cons.1 hz with e | hz
          · subst e; exact absurd hz2 c
          · exact ⟨z, hz, hz2⟩
  obtain ⟨j, hj, hr⟩ := key O [] rfl (by simp) ⟨(i : Int), p.out.full p.full i (by omega), by rw [rdOf_at]; exact hu⟩
  rcases rdyGo_cases l st.over now l.length 0 (by omega) (by omega) with ⟨_, h2⟩ | ⟨m, h1, _⟩
  · exact absurd hr (h2 j (by omega) hj)
  · rw [List.drop_zero] at h1
    rw [show rdyGo st.over now l 0 = m from h1]; omega
theorem scW_some {l : List S53} {O : List Int} (p : Plan l O) {A : Nat} (hA : 1 ≤ A) {now : Int} (h0 : 0 ≤ now) {st : St} (h : ScInv l A now st) (he : st.e ≤ now) (hc : 0 < cntU st.over) : cntU (scW l now A 0 st).over + 1 ≤ cntU st.over := by
  obtain ⟨d, rfl⟩ : ∃ d, A = d + 1 := ⟨A - 1, by omega⟩
  simp only [scW]
  have hs := sc_some p h he hc
  have hf := h.fe 0 (by omega)
  obtain ⟨h1, h2⟩ := scStep_inv p.ok h0 h 0 (by omega)
  have h3 := scW_inv p.ok h0 d (0 + 1) _ h1 (by omega)
  have hne : cntU (scStep l now 0 st).over + 1 = cntU st.over := by
    rcases h2 with h2 | h2
    · exfalso
      have h4 : (scStep l now 0 st).out = st.out := by rw [h2]
      unfold scStep at h4
      rw [if_neg (by omega), if_pos hs] at h4
      have := congrArg List.length h4
      simp at this
    · exact h2
  rcases h3.2 with h4 | h4
  · rw [h4]; omega
  · omega
theorem sp_r4 {l : List S53} (hl : l.length ≤ 30) (hN : ∀ t ∈ l, ∀ n ∈ t.f1, 0 ≤ n ∧ n < (l.length : Int)) {A : Nat} {now : Int} (hn0 : 0 ≤ now) (hn1 : now ≤ 1000000) (st : St) (hol : st.over.length = l.length) (hfl : st.free.length = A) (hout : st.out.length ≤ 1000) (w : Nat) (hw : w < A) (hA : A ≤ 8) (i : Nat) (hi : i < l.length) (hok : 1 ≤ (l.getD i z53).f0 ∧ (l.getD i z53).f0 ≤ 100) (hs : (l.getD i z53).f1.length ≤ 1048576) (r : List S66 × Int × Bool) (d : Nat) : ∀ (j : Nat) (b : Bool), j ≤ (l.getD i z53).f1.length → (l.getD i z53).f1.length - j = d →
    ((b && !((l.getD i z53).f1.drop j).any (rdyLate st.over now)) = true → Ev (fun k => spec_ScheduleOf.l2 k l (st.out ++ [⟨(i : Int), (w : Int), now⟩]) (st.over.set i (now + (l.getD i z53).f0)) (st.free.set w (now + (l.getD i z53).f0)) (max st.e (now + (l.getD i z53).f0)) now A ((w + 1 : Nat) : Int)) r) →
    ((b && !((l.getD i z53).f1.drop j).any (rdyLate st.over now)) = false → Ev (fun k => spec_ScheduleOf.l3 k l st.out st.over st.free st.e now w A w l l.length ((i + 1 : Nat) : Int)) r) →
    Ev (fun k => spec_ScheduleOf.l4 k l st.out st.over st.free st.e now w i b A w l l.length i (l.getD i z53).f1 (l.getD i z53).f1.length j (l.getD i z53).f0 (l.getD i z53).f1) r := by
  induction d with
  | zero =>
    intro j b hj hd h1 h2
    rw [List.drop_of_length_le (by omega)] at h1 h2
    simp only [List.any_nil, Bool.not_false, Bool.and_true] at h1 h2
    cases b with
    | true =>
      refine Ev.step (fun k => ?_) (h1 rfl)
      simp only [spec_ScheduleOf.l4, Option.bind_some, if_true]
      rw [if_neg (by omega), if_pos (by omega), if_pos (by omega), if_pos (by omega), if_pos (by omega), if_pos (by omega), wrap_small (x := now + (l.getD i z53).f0) (by omega) (by omega), Int.toNat_natCast, Int.toNat_natCast]
      rw [rdI_of, rdI_set _ _ _ _ (by omega), if_pos rfl, wrap_next (n := A) hw (by omega)]
      by_cases c : now + (l.getD i z53).f0 > st.e
      · rw [if_pos c, show max st.e (now + (l.getD i z53).f0) = now + (l.getD i z53).f0 by omega]
      · rw [if_neg c, show max st.e (now + (l.getD i z53).f0) = st.e by omega]
    | false =>
      refine Ev.step (fun k => ?_) (h2 rfl)
      simp only [spec_ScheduleOf.l4]
      rw [if_neg (by omega), if_neg (by decide), wrap_next hi (by omega)]
  | succ d ih =>
    intro j b hj hd h1 h2
    have hjl : j < (l.getD i z53).f1.length := by omega
    have hx := hN _ (getD_mem z53 l i hi) _ (getD_mem 0 _ j hjl)
    rw [drop_at _ j hjl, List.any_cons] at h1 h2
    cases b with
    | true =>
      obtain ⟨x, hxx⟩ : ∃ x, x = (l.getD i z53).f1.getD j 0 := ⟨_, rfl⟩
      rw [← hxx] at hx h1 h2
      have hq : decide (0 ≤ rdOf 0 st.over x ∧ rdOf 0 st.over x ≤ now) = !rdyLate st.over now x := by
        unfold rdyLate
        by_cases c1 : rdOf 0 st.over x < 0
        · rw [decide_eq_true c1, decide_eq_false (by omega)]; rfl
        · by_cases c2 : now < rdOf 0 st.over x
          · rw [decide_eq_true c2, decide_eq_false (by omega), Bool.or_true]; rfl
          · rw [decide_eq_false c1, decide_eq_false c2, decide_eq_true (by omega)]; rfl
      refine Ev.step (fun k => ?_) (ih (j + 1) (!rdyLate st.over now x) (by omega) (by omega) (fun h => h1 (by rw [← h]; simp [Bool.not_or])) (fun h => h2 (by rw [← h]; simp [Bool.not_or])))
      simp only [spec_ScheduleOf.l4]
      rw [if_pos (by omega), if_pos (by omega), if_pos (by omega)]; simp only [if_true]
      rw [rd_at, ← hxx, if_pos hx.1, if_pos (by omega), l1In_eq, rdI_of, hq]; simp only [Option.bind_some]
      rw [wrap_next hjl (by omega)]
    | false =>
      simp only [Bool.false_and] at h1 h2
      refine Ev.step (fun k => ?_) (ih (j + 1) false (by omega) (by omega) (fun h => by simp at h) (fun _ => h2 trivial))
      simp only [spec_ScheduleOf.l4]
      rw [if_pos (by omega), if_pos (by omega), if_pos (by omega), if_neg (by decide), wrap_next hjl (by omega)]
theorem sp_r3 {l : List S53} (hl : l.length ≤ 30) (hN : ∀ t ∈ l, ∀ n ∈ t.f1, 0 ≤ n ∧ n < (l.length : Int)) (hok : ∀ i, i < l.length → 1 ≤ (l.getD i z53).f0 ∧ (l.getD i z53).f0 ≤ 100) (hs : ∀ x ∈ l, ShortT x) {A : Nat} {now : Int} (hn0 : 0 ≤ now) (hn1 : now ≤ 1000000) (st : St) (hol : st.over.length = l.length) (hfl : st.free.length = A) (hout : st.out.length ≤ 1000) (w : Nat) (hw : w < A) (hA : A ≤ 8) (r : List S66 × Int × Bool) (d : Nat) : ∀ (i : Nat), i ≤ l.length → l.length - i = d →
    (∀ m : Nat, m < l.length → rdyGo st.over now (l.drop i) i = m → Ev (fun k => spec_ScheduleOf.l2 k l (st.out ++ [⟨(m : Int), (w : Int), now⟩]) (st.over.set m (now + (l.getD m z53).f0)) (st.free.set w (now + (l.getD m z53).f0)) (max st.e (now + (l.getD m z53).f0)) now A ((w + 1 : Nat) : Int)) r) →
    (rdyGo st.over now (l.drop i) i = -1 → Ev (fun k => spec_ScheduleOf.l2 k l st.out st.over st.free st.e now A ((w + 1 : Nat) : Int)) r) →
    Ev (fun k => spec_ScheduleOf.l3 k l st.out st.over st.free st.e now w A w l l.length i) r := by
  induction d with
  | zero =>
    intro i hi hd h1 h2
    rw [List.drop_of_length_le (by omega)] at h2
    refine Ev.step (fun k => ?_) (h2 rfl)
    simp only [spec_ScheduleOf.l3]
    rw [if_neg (by omega), wrap_next (n := A) hw (by omega)]
  | succ d ih =>
    intro i hi hd h1 h2
    have hil : i < l.length := by omega
    have hm := hs _ (getD_mem z53 l i hil)
    rw [dropS_at z53 l i hil] at h1 h2
    simp only [rdyGo] at h1 h2
    refine Ev.step (f := fun k => spec_ScheduleOf.l4 k l st.out st.over st.free st.e now w i (decide (rdOf 0 st.over (i : Int) < 0)) A w l l.length i (l.getD i z53).f1 (l.getD i z53).f1.length ((0 : Nat) : Int) (l.getD i z53).f0 (l.getD i z53).f1) (fun k => ?_) ?_
    · simp only [spec_ScheduleOf.l3]
      rw [if_pos (by omega), if_pos (by omega), if_pos (by omega), if_pos (by omega), rd53_at, rdI_of]; rfl
    refine sp_r4 hl hN hn0 hn1 st hol hfl hout w hw hA i hil (hok i hil) hm r (l.getD i z53).f1.length 0 _ (by omega) (by omega) (fun h => ?_) (fun h => ?_)
    · rw [List.drop_zero, Bool.and_eq_true, decide_eq_true_eq, Bool.not_eq_true'] at h
      exact h1 i hil (by rw [if_pos h])
    · rw [List.drop_zero] at h
      have hneg : ¬ (rdOf 0 st.over (i : Int) < 0 ∧ (l.getD i z53).f1.any (rdyLate st.over now) = false) := fun c => by
        rw [decide_eq_true c.1, c.2] at h; cases h
      rw [if_neg hneg] at h1 h2
      exact ih (i + 1) (by omega) (by omega) h1 h2
theorem sp_r2 {l : List S53} {O : List Int} (p : Plan l O) (hs : ∀ x ∈ l, ShortT x) {A : Nat} (hA : A ≤ 8) {now : Nat} (hn1 : now ≤ 1000000) (r : List S66 × Int × Bool) (d : Nat) : ∀ (w : Nat) (st : St), ScInv l A now st → w + d = A →
    Ev (fun k => spec_ScheduleOf.l1 k l (scW l now d w st).out (scW l now d w st).over (scW l now d w st).free (scW l now d w st).e ((now + 1 : Nat) : Int)) r →
    Ev (fun k => spec_ScheduleOf.l2 k l st.out st.over st.free st.e now A w) r := by
  have hl := p.len
  induction d with
  | zero =>
    intro w st h hw h1
    refine Ev.step (fun k => ?_) h1
    simp only [spec_ScheduleOf.l2, scW]
    rw [if_neg (by omega), wrap_next (n := now + 1) (by omega) (by omega)]
  | succ d ih =>
    intro w st h hw h1
    simp only [scW] at h1
    have hwl : w < A := by omega
    have hfl := h.fl
    have hcn := h.cnt
    have hnext := ih (w + 1) _ (scStep_inv p.ok (Int.natCast_nonneg now) h w hwl).1 (by omega) h1
    by_cases c : (now : Int) < rdOf 0 st.free (w : Int)
    · have e : scStep l now w st = st := by unfold scStep; rw [if_pos c]
      rw [e] at hnext
      refine Ev.step (fun k => ?_) hnext
      simp only [spec_ScheduleOf.l2]
      rw [if_pos (by omega), if_pos (by omega), if_pos (by omega), rdI_of, if_pos (by omega), wrap_next (n := A) hwl (by omega)]
    · refine Ev.step (f := fun k => spec_ScheduleOf.l3 k l st.out st.over st.free st.e now w A w l l.length ((0 : Nat) : Int)) (fun k => ?_) ?_
      · simp only [spec_ScheduleOf.l2]
        rw [if_pos (by omega), if_pos (by omega), if_pos (by omega), rdI_of, if_neg (by omega)]; rfl
      refine sp_r3 hl p.need p.ok hs (Int.natCast_nonneg now) (by omega) st h.ol h.fl (by omega) w hwl hA r l.length 0 (by omega) (by omega) (fun m hm hr => ?_) (fun hr => ?_)
      · rw [List.drop_zero] at hr
        have hr : rdyGo st.over now l 0 = m := hr
        have e : scStep l now w st = ⟨st.free.set w (now + (l.getD m z53).f0), st.over.set m (now + (l.getD m z53).f0), st.out ++ [⟨(m : Int), (w : Int), now⟩], max st.e (now + (l.getD m z53).f0)⟩ := by
          unfold scStep; rw [if_neg c, hr, if_pos (by omega), rd53_at, Int.toNat_natCast]
        rw [e] at hnext
        exact hnext
      · rw [List.drop_zero] at hr
        have hr : rdyGo st.over now l 0 = -1 := hr
        have e : scStep l now w st = st := by unfold scStep; rw [if_neg c, hr, if_neg (by omega)]
        rw [e] at hnext
        exact hnext
theorem sc_go {l : List S53} {O : List Int} (p : Plan l O) (hs : ∀ x ∈ l, ShortT x) {A : Nat} (hA1 : 1 ≤ A) (hA : A ≤ 8) (μ : Nat) : ∀ (now : Nat) (st : St), ScInv l A now st → cntU st.over * 101 + (st.e - (now : Int)).toNat ≤ μ → now + μ ≤ 4000 →
    ∃ r : List S66 × Int × Bool, (∀ q, μ < q → scGo l A q now st = some r) ∧ r.1.length ≤ 30 ∧ Ev (fun k => spec_ScheduleOf.l1 k l st.out st.over st.free st.e now) r := by
  have hl := p.len
  have stop : ∀ (μ now : Nat) (st : St), ScInv l A now st → ¬ st.out.length < l.length → ∃ r : List S66 × Int × Bool, (∀ q, μ < q → scGo l A q now st = some r) ∧ r.1.length ≤ 30 ∧ Ev (fun k => spec_ScheduleOf.l1 k l st.out st.over st.free st.e now) r := by
    intro μ now st h hc
    have := h.cnt
    refine ⟨(st.out, st.e, true), fun q hq => ?_, by show st.out.length ≤ 30; omega, Ev.step (f := fun _ => some (st.out, st.e, true)) (fun k => ?_) (Ev.now _)⟩
    · obtain ⟨q, rfl⟩ : ∃ m, q = m + 1 := ⟨q - 1, by omega⟩
      simp only [scGo]; rw [if_neg hc]
    · simp only [spec_ScheduleOf.l1]; rw [if_neg (by omega)]
  induction μ with
  | zero =>
    intro now st h hμ hn
    exact stop 0 now st h (by have := h.cnt; omega)
  | succ μ ih =>
    intro now st h hμ hn
    by_cases hc : st.out.length < l.length
    · have hcn := h.cnt
      obtain ⟨h1, h2⟩ := scW_inv p.ok (Int.natCast_nonneg now) A 0 st h (by omega)
      have h3 : ScInv l A ((now + 1 : Nat) : Int) (scW l now A 0 st) := h1.later (by omega)
      have hdec : cntU (scW l now A 0 st).over * 101 + ((scW l now A 0 st).e - ((now + 1 : Nat) : Int)).toNat ≤ μ := by
        have he := h1.e1
        by_cases hlow : st.e ≤ now
        · have := scW_some p hA1 (Int.natCast_nonneg now) h hlow (by omega)
          omega
        · rcases h2 with h2 | h2
          · rw [h2]; omega
          · omega
      obtain ⟨r, hr1, hr2, hr3⟩ := ih (now + 1) _ h3 hdec (by omega)
      refine ⟨r, fun q hq => ?_, hr2, ?_⟩
      · obtain ⟨q, rfl⟩ : ∃ m, q = m + 1 := ⟨q - 1, by omega⟩
        simp only [scGo]; rw [if_pos hc, if_pos (by omega)]
        exact hr1 q (by omega)
      · have h4 := sp_r2 p hs hA (now := now) (by omega) r A 0 st h (by omega) hr3
        refine Ev.step (fun k => ?_) h4
        simp only [spec_ScheduleOf.l1]
        rw [if_pos (by omega), h.fl]; rfl
    · exact stop (μ + 1) now st h hc
theorem sp_r0 {l : List S53} (hl : l.length ≤ 30) (fr : List Int) (r : List S66 × Int × Bool) (h : Ev (fun k => spec_ScheduleOf.l1 k l [] (List.replicate l.length (-1)) fr 0 0) r) (d : Nat) : ∀ (j : Nat), j ≤ l.length → l.length - j = d →
    Ev (fun k => spec_ScheduleOf.l0 k l (List.replicate j (-1) ++ List.replicate (l.length - j) 0) fr l.length j) r := by
  induction d with
  | zero =>
    intro j hj hd
    obtain rfl : j = l.length := by omega
    rw [Nat.sub_self, List.replicate_zero, List.append_nil]
    refine Ev.step (fun k => ?_) h
    simp only [spec_ScheduleOf.l0]
    rw [if_neg (by omega)]
  | succ d ih =>
    intro j hj hd
    refine Ev.step (fun k => ?_) (ih (j + 1) (by omega) (by omega))
    simp only [spec_ScheduleOf.l0]
    rw [if_pos (by omega), if_pos (by omega), if_pos (by simp; omega), wrap_next (n := l.length) (by omega) (by omega), Int.toNat_natCast]
    congr 1
    rw [show l.length - j = (l.length - (j + 1)) + 1 by omega, List.replicate_succ, List.replicate_succ', List.set_append_right _ _ (by simp), List.length_replicate, Nat.sub_self, List.set_cons_zero, List.append_assoc]; rfl
theorem schedOf_both (l : List S53) (hs : ∀ x ∈ l, ShortT x) (a : Int) : ∃ (r : List S66 × Int × Bool) (K : Nat), r.1.length ≤ 30 ∧ ∀ k, K ≤ k → spec_ScheduleOf.f k l a = some r ∧ impl_ScheduleOf.f k l a = some r := by
  obtain ⟨g, ⟨K1, hg1⟩, ⟨K2, hg2⟩, hp⟩ := plan_both l hs
  have bad : ∀ k, spec_ScheduleOf.j0 (k + 1) l a true = some ([], 0, false) := fun k => by simp only [spec_ScheduleOf.j0]; rw [if_pos trivial]
  cases g with
  | false =>
    refine ⟨([], 0, false), K1 + K2 + 1, by simp, fun k hk => ⟨?_, ?_⟩⟩
    · unfold spec_ScheduleOf.f
      rw [show spec_GoodPlan.f k l = some false from hg1 k (by omega)]
      obtain ⟨k, rfl⟩ : ∃ m, k = m + 1 := ⟨k - 1, by omega⟩
      simp only [Option.bind_some]; rw [if_neg (by decide), bad]
    · unfold impl_ScheduleOf.f
      rw [show impl_GoodPlan.f k l = some false from hg2 k (by omega)]
      simp only [Option.bind_some]; rw [if_neg (by decide)]
  | true =>
    obtain ⟨O, p⟩ := hp rfl
    have hl := p.len
    by_cases ha : 1 ≤ a ∧ a ≤ 8
    · obtain ⟨A, rfl⟩ := Int.eq_ofNat_of_zero_le (show 0 ≤ a by omega)
      have hinv : ScInv l A ((0 : Nat) : Int) ⟨List.replicate A 0, List.replicate l.length (-1), [], 0⟩ := by
        refine ⟨by simp, by simp, fun i hi => ?_, fun i hi => ?_, Int.le_refl _, by simp, by simp [cntU_rep]⟩
        · simp [rdOf_at, hi]
        · simp [rdOf_at, hi]
      obtain ⟨r, h1, h2, h3⟩ := sc_go p hs (by omega) (by omega) 3100 0 _ hinv (by simp only [cntU_rep]; omega) (by omega)
      obtain ⟨K3, h4⟩ := sp_r0 hl (List.replicate A 0) r h3 l.length 0 (by omega) (by omega)
      have hgood : schGood l := ⟨hl, p.need, fun t ht => by obtain ⟨i, hi, rfl⟩ := List.getElem_of_mem ht; have := p.ok i hi; rwa [List.getD_eq_getElem?_getD, List.getElem?_eq_getElem hi] at this⟩
      refine ⟨r, K1 + K2 + K3 + 3102, h2, fun k hk => ⟨?_, ?_⟩⟩
      · unfold spec_ScheduleOf.f
        rw [show spec_GoodPlan.f k l = some true from hg1 k (by omega)]; simp only [Option.bind_some, if_true]
        rw [l1In_eq, decide_eq_true ha]; simp only [Option.bind_some, Bool.not_true]
        obtain ⟨k, rfl⟩ : ∃ m, k = m + 1 := ⟨k - 1, by omega⟩
        simp only [spec_ScheduleOf.j0, Option.bind_some]
        rw [if_neg (by decide), if_pos (by omega), Int.toNat_natCast, if_pos (by omega), if_pos (by omega), Int.toNat_natCast, if_pos (by omega), List.length_replicate]
        exact h4 k (by omega)
      · unfold impl_ScheduleOf.f
        rw [show impl_GoodPlan.f k l = some true from hg2 k (by omega)]; simp only [Option.bind_some, if_true]
        rw [if_pos ha, if_pos hgood, Int.toNat_natCast]
        exact h1 k (by omega)
    · refine ⟨([], 0, false), K1 + K2 + 1, by simp, fun k hk => ⟨?_, ?_⟩⟩
      · unfold spec_ScheduleOf.f
        rw [show spec_GoodPlan.f k l = some true from hg1 k (by omega)]; simp only [Option.bind_some, if_true]
        rw [l1In_eq, decide_eq_false ha]; simp only [Option.bind_some, Bool.not_false]
        obtain ⟨k, rfl⟩ : ∃ m, k = m + 1 := ⟨k - 1, by omega⟩
        exact bad k
      · unfold impl_ScheduleOf.f
        rw [show impl_GoodPlan.f k l = some true from hg2 k (by omega)]; simp only [Option.bind_some, if_true]
        rw [if_neg ha]

/-- THE PURE STATEMENT of the law. -/
def FnExactScheduleOf_Pure : Prop := ∀ (l0 : (List S52)) (a1 : Int), (l0.length ≤ 9223372036854775807 ∧ ∀ y ∈ l0, ((Lit.int .i64 y.f0).wf = true ∧ (y.f1.length ≤ 9223372036854775807 ∧ ∀ y2 ∈ y.f1, (Lit.int .i64 y2).wf = true))) → (Lit.int .i64 a1).wf = true → ∃ k, laws_FnExactScheduleOf.f k l0 a1 = some true

theorem FnExactScheduleOf : FnExactScheduleOf_Pure := by
  intro l a hl ha
  have htl := tasks_length l
  obtain ⟨m0, hm0⟩ : ∃ m, m = 2097160 := ⟨_, rfl⟩
  obtain ⟨r0, hs0, hr0⟩ := szTaskS_eq l hl.1 (fun y hy => (hl.2 y hy).2.1) m0 (by omega)
  by_cases hbad : r0 < 0
  · exact ⟨m0, by unfold laws_FnExactScheduleOf.f; rw [hs0]; simp only [Option.bind_some]; rw [if_pos hbad]⟩
  have hgood : l.length ≤ 1048576 ∧ ∀ x ∈ tasks l, ShortT x := by
    rcases hr0 with hr0 | ⟨_, h1, h2⟩
    · exact absurd hr0 hbad
    · exact ⟨h1, h2⟩
  obtain ⟨h, hsh⟩ := hgood
  obtain ⟨v, K, hvl, hv⟩ := schedOf_both (tasks l) hsh a
  obtain ⟨m, hm⟩ : ∃ m, m = K + 2097160 := ⟨_, rfl⟩
  obtain ⟨r, hs, hr⟩ := szTaskS_eq l hl.1 (fun y hy => (hl.2 y hy).2.1) m (by omega)
  have hb := tot53_bound (tasks l) hsh
  refine ⟨m, ?_⟩
  unfold laws_FnExactScheduleOf.f
  rw [hs]; simp only [Option.bind_some]
  by_cases h5 : r < 0
  · rw [if_pos h5]
  rw [if_neg h5, toTaskS_eq l h hsh _ (by omega)]; simp only [Option.bind_some]
  rw [(hv _ (by omega)).1, (hv _ (by omega)).2]; simp only [Option.bind_some]
  rw [eqSlotS_self _ (by omega) _ (by omega)]; simp only [Option.bind_some]
  rw [eqTaskS_self (tasks l) (by omega) hsh _ (by omega)]; simp only [Option.bind_some]
  rw [markSlotS_eq _ 1 (by omega) (by omega) (by omega) _ (by omega)]; simp only [Option.bind_some]
  rw [heldSlotS_eq 1 _ (by omega) (by omega) (by omega) _ (by omega)]; simp only [Option.bind_some]
  rw [if_pos (by refine ⟨?_, ?_, ?_, ?_, ?_, ?_⟩ <;> first | trivial | omega)]

end Go.Proofs.Ytpgegjbnnbkhiaa.Pure
