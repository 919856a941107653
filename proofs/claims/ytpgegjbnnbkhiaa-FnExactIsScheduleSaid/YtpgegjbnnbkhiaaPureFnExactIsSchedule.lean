/- The program tells whether slots are a schedule as the reference does: the law answers true. No conditions but the reach of a slice. -/
import Derived.Test.YtpgegjbnnbkhiaaPFnExactIsSchedulex8
namespace Go.Proofs.Ytpgegjbnnbkhiaa.Pure
open Go.RowKit Go.Proofs.Ytpgegjbnnbkhiaa.PFnExactIsSchedule Go.Proofs.YtpgegjbnnbkhiaaW.PrintWords Go.Proofs.YtpgegjbnnbkhiaaW.PrintLast
set_option linter.unusedVariables false
set_option linter.unusedSimpArgs false

theorem wrap_small {x : Int} (h0 : -9223372036854775808 ≤ x) (h1 : x ≤ 9223372036854775807) : wrap64 x = x := by
  unfold wrap64
  omega

theorem wrap_next {j n : Nat} (h : j < n) (hn : n ≤ 140737488351232) : wrap64 ((j : Int) + 1) = ((j + 1 : Nat) : Int) := by
  rw [wrap_small (by omega) (by omega)]; rfl

theorem rd_at (l : List Int) (j : Nat) : rd l (j : Int) = l.getD j 0 := by
  unfold rd; rw [Int.toNat_natCast]

theorem drop_at (l : List Int) (j : Nat) (h : j < l.length) : l.drop j = l.getD j 0 :: l.drop (j + 1) := by
  rw [List.drop_eq_getElem_cons h, List.getD_eq_getElem?_getD, List.getElem?_eq_getElem h]; rfl

theorem take_at (l : List Int) (j : Nat) (h : j < l.length) : l.take (j + 1) = l.take j ++ [l.getD j 0] := by
  rw [List.take_succ_eq_append_getElem h, List.getD_eq_getElem?_getD, List.getElem?_eq_getElem h]; rfl

theorem toIntS_loop (l : List Int) (hn : l.length ≤ 140737488351232) (d : Nat) : ∀ (k j : Nat) (x : List Int), x.length = l.length → x.take j = l.take j → j ≤ l.length → l.length - j = d → d < k →
    laws_toIntS.l0 k l x j = some l := by
  induction d with
  | zero =>
    intro k j x hx ht hj hd hk
    obtain ⟨k, rfl⟩ : ∃ m, k = m + 1 := ⟨k - 1, by omega⟩
    simp only [laws_toIntS.l0]; rw [if_neg (by omega)]
    rw [List.take_of_length_le (by omega), List.take_of_length_le (by omega)] at ht; rw [ht]
  | succ d ih =>
    intro k j x hx ht hj hd hk
    obtain ⟨k, rfl⟩ : ∃ m, k = m + 1 := ⟨k - 1, by omega⟩
    simp only [laws_toIntS.l0]; rw [if_pos (by omega), if_pos (by omega), if_pos (by omega), wrap_next (n := l.length) (by omega) hn, rd_at, Int.toNat_natCast]
    refine ih k (j + 1) _ (by rw [List.length_set]; exact hx) ?_ (by omega) (by omega) (by omega)
    rw [take_at l j (by omega), List.take_succ_eq_append_getElem (by rw [List.length_set]; omega), List.getElem_set_self, List.take_set_of_le (by omega), ht]

theorem toIntS_eq (l : List Int) (hn : l.length ≤ 17592186044416) (k : Nat) (hk : l.length < k) : laws_toIntS.f k l = some l := by
  unfold laws_toIntS.f
  rw [if_pos (by omega), Int.toNat_natCast, if_pos (by omega)]
  exact toIntS_loop l (by omega) l.length k 0 _ (by simp) (by simp) (by omega) (by omega) hk

theorem eqIntS_loop (a b : List Int) (hn : a.length ≤ 140737488351232) (hab : a.length = b.length) (d : Nat) : ∀ (k j : Nat), j ≤ a.length → a.length - j = d → d < k →
    laws_eqIntS.l0 k a b j = some (decide (a.drop j = b.drop j)) := by
  induction d with
  | zero =>
    intro k j hj hd hk
    obtain ⟨k, rfl⟩ : ∃ m, k = m + 1 := ⟨k - 1, by omega⟩
    simp only [laws_eqIntS.l0]; rw [if_neg (by omega), List.drop_of_length_le (by omega), List.drop_of_length_le (by omega)]; simp
  | succ d ih =>
    intro k j hj hd hk
    obtain ⟨k, rfl⟩ : ∃ m, k = m + 1 := ⟨k - 1, by omega⟩
    simp only [laws_eqIntS.l0]; rw [if_pos (by omega), if_pos (by omega), if_pos (by omega), wrap_next (n := a.length) (by omega) hn, rd_at, rd_at, drop_at a j (by omega), drop_at b j (by omega)]
    by_cases h : a.getD j 0 = b.getD j 0
    · rw [if_pos h, ih k (j + 1) (by omega) (by omega) (by omega)]; simp only [List.cons.injEq, h, true_and]
    · rw [if_neg h]; simp only [List.cons.injEq, h, false_and, decide_false]

theorem eqIntS_eq (a b : List Int) (hn : a.length ≤ 140737488351232) (k : Nat) (hk : a.length < k) : laws_eqIntS.f k a b = some (decide (a = b)) := by
  unfold laws_eqIntS.f
  by_cases h : a.length = b.length
  · rw [if_pos (by omega)]
    have := eqIntS_loop a b hn h a.length k 0 (by omega) (by omega) hk
    simpa using this
  · rw [if_neg (by omega), decide_eq_false (fun e => h (by rw [e]))]

theorem eqIntS_self (a : List Int) (hn : a.length ≤ 140737488351232) (k : Nat) (hk : a.length < k) : laws_eqIntS.f k a a = some true := by
  rw [eqIntS_eq a a hn k hk]; simp

theorem in_eq (a b c : Int) : impl_in.f a b c = some (decide (b ≤ a ∧ a ≤ c)) := by
  unfold impl_in.f
  by_cases h : a ≥ b
  · rw [if_pos h]; congr 1; simp only [decide_eq_decide]; omega
  · rw [if_neg h, decide_eq_false (by omega)]
theorem l1In_eq (a b c : Int) : spec_l1In.f a b c = some (decide (b ≤ a ∧ a ≤ c)) := by
  unfold spec_l1In.f
  by_cases h : a ≥ b
  · rw [if_pos h]; congr 1; simp only [decide_eq_decide]; omega
  · rw [if_neg h, decide_eq_false (by omega)]

/-- element j lies in 0..q and is above the one ahead of it -/
def riseOk (l : List Int) (q : Int) (j : Nat) : Bool := decide (0 ≤ l.getD j 0 ∧ l.getD j 0 ≤ q ∧ (0 < j → l.getD (j - 1) 0 < l.getD j 0))
def riseFrom (l : List Int) (q : Int) (j : Nat) : Nat → Bool
  | 0 => true
  | d + 1 => riseOk l q j && riseFrom l q (j + 1) d

theorem rise_round (l : List Int) (q : Int) (j : Nat) (x : Option Bool) (hn : l.length ≤ 1048576) (hj : j < l.length) :
    ((some (decide (0 ≤ l.getD j 0 ∧ l.getD j 0 ≤ q)) : Option Bool).bind fun t => (if t = true then (if (j : Int) > 0 then (if 0 ≤ (wrap64 ((j : Int) - 1)) then (if (wrap64 ((j : Int) - 1)) < (l.length : Int) then (if (rd l (wrap64 ((j : Int) - 1))) ≥ l.getD j 0 then (some false) else x) else (none)) else (none)) else x) else (some false)))
      = if riseOk l q j = true then x else some false := by
  simp only [Option.bind_some]
  by_cases h1 : 0 ≤ l.getD j 0 ∧ l.getD j 0 ≤ q
  · rw [decide_eq_true h1, if_pos rfl]
    by_cases h2 : (j : Int) > 0
    · have e : wrap64 ((j : Int) - 1) = ((j - 1 : Nat) : Int) := by rw [wrap_small (by omega) (by omega)]; omega
      rw [if_pos h2, e, if_pos (by omega), if_pos (by omega), rd_at]
      by_cases h3 : l.getD (j - 1) 0 ≥ l.getD j 0
      · rw [if_pos h3, if_neg (by unfold riseOk; simp only [decide_eq_true_eq]; intro h; have := h.2.2 (by omega); omega)]
      · rw [if_neg h3, if_pos (by unfold riseOk; simp only [decide_eq_true_eq]; exact ⟨h1.1, h1.2, fun _ => by omega⟩)]
    · rw [if_neg h2, if_pos (by unfold riseOk; simp only [decide_eq_true_eq]; exact ⟨h1.1, h1.2, fun h => by omega⟩)]
  · rw [decide_eq_false h1, if_neg (by simp), if_neg (by unfold riseOk; simp only [decide_eq_true_eq]; exact fun h => h1 ⟨h.1, h.2.1⟩)]

theorem rising_loop (l : List Int) (b : Int) (hn : l.length ≤ 1048576) (d : Nat) : ∀ (k j : Nat), j ≤ l.length → l.length - j = d → d < k →
    impl_rising.l0 k l b l l.length j = some (riseFrom l (wrap64 (b - 1)) j d) := by
  induction d with
  | zero =>
    intro k j hj hd hk
    obtain ⟨k, rfl⟩ : ∃ m, k = m + 1 := ⟨k - 1, by omega⟩
    simp only [impl_rising.l0]; rw [if_neg (by omega)]; rfl
  | succ d ih =>
    intro k j hj hd hk
    obtain ⟨k, rfl⟩ : ∃ m, k = m + 1 := ⟨k - 1, by omega⟩
    simp only [impl_rising.l0]; rw [if_pos (by omega), if_pos (by omega), if_pos (by omega), in_eq, wrap_next (n := l.length) (by omega) (by omega), rd_at, rise_round l _ j _ hn (by omega), ih k (j + 1) (by omega) (by omega) (by omega)]
    simp only [riseFrom]
    cases riseOk l (wrap64 (b - 1)) j <;> simp

theorem rising_eq (l : List Int) (b : Int) (hn : l.length ≤ 1048576) (k : Nat) (hk : l.length < k) : impl_rising.f k l b = some (riseFrom l (wrap64 (b - 1)) 0 l.length) := by
  unfold impl_rising.f
  exact rising_loop l b hn l.length k 0 (by omega) (by omega) hk

theorem l3List_loop (l : List Int) (b : Int) (hn : l.length ≤ 1048576) (d : Nat) : ∀ (k j : Nat), j ≤ l.length → l.length - j = d → d < k →
    spec_l3List.l0 k l b l l.length j = some (riseFrom l (wrap64 (b - 1)) j d) := by
  induction d with
  | zero =>
    intro k j hj hd hk
    obtain ⟨k, rfl⟩ : ∃ m, k = m + 1 := ⟨k - 1, by omega⟩
    simp only [spec_l3List.l0]; rw [if_neg (by omega)]; rfl
  | succ d ih =>
    intro k j hj hd hk
    obtain ⟨k, rfl⟩ : ∃ m, k = m + 1 := ⟨k - 1, by omega⟩
    simp only [spec_l3List.l0]; rw [if_pos (by omega), if_pos (by omega), if_pos (by omega), l1In_eq, wrap_next (n := l.length) (by omega) (by omega), rd_at, rise_round l _ j _ hn (by omega), ih k (j + 1) (by omega) (by omega) (by omega)]
    simp only [riseFrom]
    cases riseOk l (wrap64 (b - 1)) j <;> simp

theorem l3List_eq (l : List Int) (b : Int) (hn : l.length ≤ 1048576) (k : Nat) (hk : l.length < k) : spec_l3List.f k l b = some (riseFrom l (wrap64 (b - 1)) 0 l.length) := by
  unfold spec_l3List.f
  exact l3List_loop l b hn l.length k 0 (by omega) (by omega) hk

theorem l1Has_loop (l : List Int) (x : Int) (hn : l.length ≤ 1048576) (d : Nat) : ∀ (k j : Nat), j ≤ l.length → l.length - j = d → d < k →
    spec_l1Has.l0 k x l l.length j = some (decide (x ∈ l.drop j)) := by
  induction d with
  | zero =>
    intro k j hj hd hk
    obtain ⟨k, rfl⟩ : ∃ m, k = m + 1 := ⟨k - 1, by omega⟩
    simp only [spec_l1Has.l0]; rw [if_neg (by omega), List.drop_of_length_le (by omega)]; simp
  | succ d ih =>
    intro k j hj hd hk
    obtain ⟨k, rfl⟩ : ∃ m, k = m + 1 := ⟨k - 1, by omega⟩
    simp only [spec_l1Has.l0]; rw [if_pos (by omega), if_pos (by omega), if_pos (by omega), wrap_next (n := l.length) (by omega) (by omega), rd_at, drop_at l j (by omega)]
    by_cases h : l.getD j 0 = x
    · rw [if_pos h, ← h]; simp
    · rw [if_neg h, ih k (j + 1) (by omega) (by omega) (by omega)]; congr 1; simp only [decide_eq_decide, List.mem_cons]
      constructor
      · exact .inr
      · rintro (h1 | h1)
        · exact absurd h1.symm h
        · exact h1

theorem l1Has_eq (l : List Int) (x : Int) (hn : l.length ≤ 1048576) (k : Nat) (hk : l.length < k) : spec_l1Has.f k l x = some (decide (x ∈ l)) := by
  unfold spec_l1Has.f
  have := l1Has_loop l x hn l.length k 0 (by omega) (by omega) hk
  simpa using this

theorem Index_loop (l : List Int) (x : Int) (hn : l.length ≤ 1048576) (d : Nat) : ∀ (k j : Nat), j ≤ l.length → l.length - j = d → d < k →
    ∃ r, slices_Index_int_int.l0 k l x l.length j = some r ∧ decide (r ≥ 0) = decide (x ∈ l.drop j) := by
  induction d with
  | zero =>
    intro k j hj hd hk
    obtain ⟨k, rfl⟩ : ∃ m, k = m + 1 := ⟨k - 1, by omega⟩
    refine ⟨-1, ?_, ?_⟩
    · simp only [slices_Index_int_int.l0]; rw [if_neg (by omega)]
    · rw [List.drop_of_length_le (by omega)]; simp
  | succ d ih =>
    intro k j hj hd hk
    obtain ⟨k, rfl⟩ : ∃ m, k = m + 1 := ⟨k - 1, by omega⟩
    by_cases h : x = l.getD j 0
    · refine ⟨j, ?_, ?_⟩
      · simp only [slices_Index_int_int.l0]; rw [if_pos (by omega), if_pos (by omega), if_pos (by omega), rd_at, if_pos h]
      · rw [drop_at l j (by omega), ← h, decide_eq_true (by omega)]; simp
    · obtain ⟨r, hr, hd2⟩ := ih k (j + 1) (by omega) (by omega) (by omega)
      refine ⟨r, ?_, ?_⟩
      · simp only [slices_Index_int_int.l0]; rw [if_pos (by omega), if_pos (by omega), if_pos (by omega), rd_at, if_neg h, wrap_next (n := l.length) (by omega) (by omega), hr]
      · rw [hd2, drop_at l j (by omega)]; simp only [decide_eq_decide, List.mem_cons]
        constructor
        · exact .inr
        · rintro (h1 | h1)
          · exact absurd h1 h
          · exact h1

theorem Contains_eq (l : List Int) (x : Int) (hn : l.length ≤ 1048576) (k : Nat) (hk : l.length < k) : slices_Contains_int_int.f k l x = some (decide (x ∈ l)) := by
  unfold slices_Contains_int_int.f slices_Index_int_int.f
  obtain ⟨r, hr, hd⟩ := Index_loop l x hn l.length k 0 (by omega) (by omega) hk
  rw [show (0 : Int) = ((0 : Nat) : Int) from rfl, hr]; simp only [Option.bind_some]
  rw [show ((0 : Nat) : Int) = 0 from rfl, hd]; simp

theorem rd52_at (l : List S52) (j : Nat) : rd_T52 l (j : Int) = l.getD j z52 := by unfold rd_T52; rw [Int.toNat_natCast]
theorem rd53_at (l : List S53) (j : Nat) : rd_T53 l (j : Int) = l.getD j z53 := by unfold rd_T53; rw [Int.toNat_natCast]
theorem takeS_at {α : Type} (z : α) (l : List α) (j : Nat) (h : j < l.length) : l.take (j + 1) = l.take j ++ [l.getD j z] := by
  rw [List.take_succ_eq_append_getElem h, List.getD_eq_getElem?_getD, List.getElem?_eq_getElem h]; rfl
theorem dropS_at {α : Type} (z : α) (l : List α) (j : Nat) (h : j < l.length) : l.drop j = l.getD j z :: l.drop (j + 1) := by
  rw [List.drop_eq_getElem_cons h, List.getD_eq_getElem?_getD, List.getElem?_eq_getElem h]; rfl
theorem getD_mem {α : Type} (z : α) (l : List α) (j : Nat) (h : j < l.length) : l.getD j z ∈ l := by
  rw [List.getD_eq_getElem?_getD, List.getElem?_eq_getElem h]; exact List.getElem_mem h
def ShortT (x : S53) : Prop := x.f1.length ≤ 1048576
def taskOf (x : S52) : S53 := ⟨x.f0, x.f1⟩
def tasks (l : List S52) : List S53 := l.map taskOf
theorem tasks_length (l : List S52) : (tasks l).length = l.length := by unfold tasks; rw [List.length_map]
theorem getD_tasks (l : List S52) (j : Nat) (h : j < l.length) : (tasks l).getD j z53 = taskOf (l.getD j z52) := by
  unfold tasks; rw [List.getD_eq_getElem?_getD, List.getElem?_map, List.getElem?_eq_getElem h, List.getD_eq_getElem?_getD, List.getElem?_eq_getElem h]; rfl
theorem szIntS_eq (l : List Int) (a : Int) (h0 : 0 ≤ a) (h1 : a ≤ 1048576) (hl : l.length ≤ 9223372036854775807) : laws_szIntS.f l a = some (if (l.length : Int) ≤ a then a - l.length else -1) := by
  unfold laws_szIntS.f; rw [wrap_small (by omega) (by omega)]
  by_cases h : (l.length : Int) ≤ a
  · rw [if_neg (by omega), if_pos h]
  · rw [if_pos (by omega), if_neg h]
theorem szTask_eq (n : Int) (y : List Int) (a : Int) (h0 : 0 ≤ a) (h1 : a ≤ 1048576) (hy : y.length ≤ 9223372036854775807) :
    ∃ r, laws_szTask.f n y a = some r ∧ (r < 0 ∨ (0 ≤ r ∧ r ≤ a ∧ y.length ≤ 1048576)) := by
  unfold laws_szTask.f
  rw [szIntS_eq y a h0 h1 hy]; simp only [Option.bind_some]
  by_cases h : (y.length : Int) ≤ a
  · rw [if_pos h, if_neg (by omega)]
    exact ⟨_, rfl, .inr ⟨by omega, by omega, by omega⟩⟩
  · rw [if_neg h, if_pos (by omega)]
    exact ⟨_, rfl, .inl (by omega)⟩
theorem szTaskS_loop (l : List S52) (hn : l.length ≤ 1048576) (hy : ∀ y ∈ l, y.f1.length ≤ 9223372036854775807) (d : Nat) : ∀ (k j : Nat) (a : Int), 0 ≤ a → a ≤ 1048576 → j ≤ l.length → l.length - j = d → d < k →
    ∃ r, laws_szTaskS.l0 k l a j = some r ∧ (r < 0 ∨ (0 ≤ r ∧ ∀ i, j ≤ i → i < l.length → ShortT (taskOf (l.getD i z52)))) := by
  induction d with
  | zero =>
    intro k j a h0 h1 hj hd hk
    obtain ⟨k, rfl⟩ : ∃ m, k = m + 1 := ⟨k - 1, by omega⟩
    simp only [laws_szTaskS.l0]; rw [if_neg (by omega)]
    exact ⟨a, rfl, .inr ⟨h0, fun i hi hil => by omega⟩⟩
  | succ d ih =>
    intro k j a h0 h1 hj hd hk
    obtain ⟨k, rfl⟩ : ∃ m, k = m + 1 := ⟨k - 1, by omega⟩
    simp only [laws_szTaskS.l0]; rw [if_pos (by omega), if_pos (by omega), wrap_next (n := l.length) (by omega) (by omega), rd52_at]
    have hm := hy _ (getD_mem z52 l j (by omega))
    obtain ⟨r, hr, hc⟩ := szTask_eq (l.getD j z52).f0 (l.getD j z52).f1 a h0 h1 hm
    rw [hr]; simp only [Option.bind_some]
    rcases hc with hc | ⟨hc, hc2, hy2⟩
    · rw [if_pos hc]; exact ⟨_, rfl, .inl (by omega)⟩
    · rw [if_neg (by omega)]
      obtain ⟨r2, hr2, hc3⟩ := ih k (j + 1) r hc (by omega) (by omega) (by omega) (by omega)
      refine ⟨r2, hr2, ?_⟩
      rcases hc3 with hc3 | ⟨hc3, hs⟩
      · exact .inl hc3
      · refine .inr ⟨hc3, fun i hi hil => ?_⟩
        by_cases e : i = j
        · subst e; exact hy2
        · exact hs i (by omega) hil
theorem szTaskS_eq (l : List S52) (hl : l.length ≤ 9223372036854775807) (hy : ∀ y ∈ l, y.f1.length ≤ 9223372036854775807) (k : Nat) (hk : 1048576 < k) :
    ∃ r, laws_szTaskS.f k l 1048576 = some r ∧ (r < 0 ∨ (0 ≤ r ∧ l.length ≤ 1048576 ∧ ∀ x ∈ tasks l, ShortT x)) := by
  unfold laws_szTaskS.f
  rw [wrap_small (by omega) (by omega)]
  by_cases h : (1048576 : Int) - (l.length : Int) < 0
  · rw [if_pos h]; exact ⟨_, rfl, .inl (by omega)⟩
  · rw [if_neg h]
    obtain ⟨r, hr, hc⟩ := szTaskS_loop l (by omega) hy l.length k 0 (1048576 - (l.length : Int)) (by omega) (by omega) (by omega) (by omega) (by omega)
    rw [show ((0 : Nat) : Int) = 0 from rfl] at hr
    rw [hr]
    rcases hc with hc | ⟨hc, hs⟩
    · exact ⟨_, rfl, .inl (by omega)⟩
    · refine ⟨_, rfl, .inr ⟨hc, by omega, fun x hx => ?_⟩⟩
      unfold tasks at hx
      obtain ⟨y, hym, rfl⟩ := List.mem_map.1 hx
      obtain ⟨i, hi, rfl⟩ := List.getElem_of_mem hym
      have := hs i (by omega) hi
      rwa [List.getD_eq_getElem?_getD, List.getElem?_eq_getElem hi] at this
theorem toTaskS_loop (l : List S52) (hn : l.length ≤ 1048576) (hs : ∀ x ∈ tasks l, ShortT x) (d : Nat) : ∀ (k j : Nat) (x : List S53), x.length = l.length → x.take j = (tasks l).take j → j ≤ l.length → l.length - j = d → d + 1048576 < k →
    laws_toTaskS.l0 k l x j = some (tasks l) := by
  induction d with
  | zero =>
    intro k j x hx ht hj hd hk
    obtain ⟨k, rfl⟩ : ∃ m, k = m + 1 := ⟨k - 1, by omega⟩
    simp only [laws_toTaskS.l0]; rw [if_neg (by omega)]
    rw [List.take_of_length_le (by omega), List.take_of_length_le (by rw [tasks_length]; omega)] at ht; rw [ht]
  | succ d ih =>
    intro k j x hx ht hj hd hk
    obtain ⟨k, rfl⟩ : ∃ m, k = m + 1 := ⟨k - 1, by omega⟩
    have hm : ShortT (taskOf (l.getD j z52)) := by rw [← getD_tasks l j (by omega)]; exact hs _ (getD_mem z53 _ j (by rw [tasks_length]; omega))
    have h1 : (l.getD j z52).f1.length ≤ 1048576 := hm
    simp only [laws_toTaskS.l0]; rw [if_pos (by omega), if_pos (by omega), rd52_at]
    simp only [laws_toTask.f]; rw [toIntS_eq _ (by omega) k (by omega)]; simp only [Option.bind_some]
    rw [if_pos (by omega), wrap_next (n := l.length) (by omega) (by omega), Int.toNat_natCast]
    refine ih k (j + 1) _ (by rw [List.length_set]; exact hx) ?_ (by omega) (by omega) (by omega)
    rw [takeS_at z53 (tasks l) j (by rw [tasks_length]; omega), List.take_succ_eq_append_getElem (by rw [List.length_set]; omega), List.getElem_set_self, List.take_set_of_le (by omega), ht, getD_tasks l j (by omega)]; rfl
theorem toTaskS_eq (l : List S52) (hn : l.length ≤ 1048576) (hs : ∀ x ∈ tasks l, ShortT x) (k : Nat) (hk : 2097152 < k) : laws_toTaskS.f k l = some (tasks l) := by
  unfold laws_toTaskS.f
  rw [if_pos (by omega), Int.toNat_natCast, if_pos (by omega)]
  have := toTaskS_loop l hn hs l.length k 0 (List.replicate l.length z53) (by simp) (by simp) (by omega) (by omega) (by omega)
  rw [show ((0 : Nat) : Int) = 0 from rfl] at this
  exact this
theorem eqTaskS_loop (a : List S53) (hn : a.length ≤ 1048576) (hs : ∀ x ∈ a, ShortT x) (d : Nat) : ∀ (k j : Nat), j ≤ a.length → a.length - j = d → d + 1048576 < k →
    laws_eqTaskS.l0 k a a j = some true := by
  induction d with
  | zero =>
    intro k j hj hd hk
    obtain ⟨k, rfl⟩ : ∃ m, k = m + 1 := ⟨k - 1, by omega⟩
    simp only [laws_eqTaskS.l0]; rw [if_neg (by omega)]
  | succ d ih =>
    intro k j hj hd hk
    obtain ⟨k, rfl⟩ : ∃ m, k = m + 1 := ⟨k - 1, by omega⟩
    have h1 : (a.getD j z53).f1.length ≤ 1048576 := hs _ (getD_mem z53 a j (by omega))
    simp only [laws_eqTaskS.l0]; rw [if_pos (by omega), if_pos (by omega), if_pos (by omega), rd53_at]
    simp only [laws_eqTask.f, if_true]; rw [eqIntS_self _ (by omega) k (by omega)]; simp only [Option.bind_some, if_true]
    rw [wrap_next (n := a.length) (by omega) (by omega)]
    exact ih k (j + 1) (by omega) (by omega) (by omega)
theorem eqTaskS_self (a : List S53) (hn : a.length ≤ 1048576) (hs : ∀ x ∈ a, ShortT x) (k : Nat) (hk : 2097152 < k) : laws_eqTaskS.f k a a = some true := by
  unfold laws_eqTaskS.f
  rw [if_pos rfl]
  have := eqTaskS_loop a hn hs a.length k 0 (by omega) (by omega) (by omega)
  rw [show ((0 : Nat) : Int) = 0 from rfl] at this
  exact this

/-- task i is not out, and all that it needs is -/
def readyB (l : List S53) (out : List Int) (i : Nat) : Bool := !(decide ((i : Int) ∈ out)) && (l.getD i z53).f1.all (fun x => decide (x ∈ out))
/-- the first ready task from j on, d tasks long; -1 without one -/
def firstB (l : List S53) (out : List Int) : Nat → Nat → Int
  | 0, _ => -1
  | d + 1, j => if readyB l out j = true then (j : Int) else firstB l out d (j + 1)
theorem firstB_ge (l : List S53) (out : List Int) (d : Nat) : ∀ j, firstB l out d j = -1 ∨ ∃ i : Nat, firstB l out d j = i ∧ j ≤ i ∧ i < j + d ∧ readyB l out i = true ∧ ∀ m, j ≤ m → m < i → readyB l out m = false := by
  induction d with
  | zero => intro j; exact .inl rfl
  | succ d ih =>
    intro j
    simp only [firstB]
    by_cases h : readyB l out j = true
    · rw [if_pos h]; exact .inr ⟨j, rfl, Nat.le_refl _, by omega, h, fun m h1 h2 => by omega⟩
    · rw [if_neg h]
      rcases ih (j + 1) with h1 | ⟨i, h1, h2, h3, h4, h5⟩
      · exact .inl h1
      · refine .inr ⟨i, h1, by omega, by omega, h4, fun m h6 h7 => ?_⟩
        by_cases e : m = j
        · subst e; exact Bool.eq_false_iff.2 h
        · exact h5 m (by omega) h7
theorem firstB_none (l : List S53) (out : List Int) (d : Nat) : ∀ j, firstB l out d j = -1 → ∀ m, j ≤ m → m < j + d → readyB l out m = false := by
  induction d with
  | zero => intro j _ m h1 h2; omega
  | succ d ih =>
    intro j h m h1 h2
    simp only [firstB] at h
    by_cases hr : readyB l out j = true
    · rw [if_pos hr] at h; omega
    · rw [if_neg hr] at h
      by_cases e : m = j
      · subst e; exact Bool.eq_false_iff.2 hr
      · exact ih (j + 1) h m (by omega) (by omega)
/-- all needs lie in the plan -/
def NeedIn (l : List S53) : Prop := ∀ t ∈ l, ∀ x ∈ t.f1, 0 ≤ x ∧ x < l.length
/-- how many of the first numbers are out -/
def cntIn (out : List Int) : Nat → Nat
  | 0 => 0
  | n + 1 => cntIn out n + if (n : Int) ∈ out then 1 else 0
theorem cntIn_le (out : List Int) (n : Nat) : cntIn out n ≤ n := by
  induction n with
  | zero => exact Nat.le_refl _
  | succ n ih => simp only [cntIn]; split <;> omega
theorem cntIn_all (out : List Int) (n : Nat) (h : cntIn out n = n) : ∀ j : Nat, j < n → (j : Int) ∈ out := by
  induction n with
  | zero => intro j hj; omega
  | succ n ih =>
    intro j hj
    simp only [cntIn] at h
    have := cntIn_le out n
    by_cases hn : (n : Int) ∈ out
    · rw [if_pos hn] at h
      by_cases e : j = n
      · subst e; exact hn
      · exact ih (by omega) j (by omega)
    · rw [if_neg hn] at h; omega
theorem cntIn_add (out : List Int) (i : Nat) (hi : (i : Int) ∉ out) (n : Nat) : cntIn (out ++ [(i : Int)]) n = cntIn out n + if i < n then 1 else 0 := by
  induction n with
  | zero => simp [cntIn]
  | succ n ih =>
    simp only [cntIn, ih]
    have hmem : ((n : Int) ∈ out ++ [(i : Int)]) ↔ ((n : Int) ∈ out ∨ n = i) := by
      rw [List.mem_append, List.mem_singleton]
      constructor
      · rintro (h | h)
        · exact .inl h
        · exact .inr (by omega)
      · rintro (h | h)
        · exact .inl h
        · exact .inr (by omega)
    by_cases e : n = i
    · subst e
      rw [if_pos (hmem.2 (.inr rfl)), if_neg hi, if_neg (Nat.lt_irrefl n), if_pos (Nat.lt_succ_self n)]
    · by_cases h2 : (n : Int) ∈ out
      · rw [if_pos (hmem.2 (.inl h2)), if_pos h2]
        by_cases h3 : i < n
        · rw [if_pos h3, if_pos (show i < n + 1 by omega)]
        · rw [if_neg h3, if_neg (show ¬ i < n + 1 by omega)]
      · rw [if_neg (fun h => (hmem.1 h).elim h2 e), if_neg h2]
        by_cases h3 : i < n
        · rw [if_pos h3, if_pos (show i < n + 1 by omega)]
        · rw [if_neg h3, if_neg (show ¬ i < n + 1 by omega)]
/-- what stands out so far: each behind all that it needs -/
structure OutOK (l : List S53) (out : List Int) : Prop where
  rng : ∀ x ∈ out, 0 ≤ x ∧ x < l.length
  cnt : cntIn out l.length = out.length
  topo : ∀ (a b : List Int) (x : Int), out = a ++ x :: b → x ∉ a ∧ ∀ y ∈ (l.getD x.toNat z53).f1, y ∈ a
theorem OutOK.nil (l : List S53) : OutOK l [] := ⟨by simp, by
  have : ∀ n, cntIn [] n = 0 := by intro n; induction n with
    | zero => rfl
    | succ n ih => simp [cntIn, ih]
  simp [this], fun a b x h => by simp at h⟩
theorem OutOK.snoc {l : List S53} {out : List Int} (h : OutOK l out) {i : Nat} (hi : i < l.length) (hr : readyB l out i = true) : OutOK l (out ++ [(i : Int)]) := by
  unfold readyB at hr
  simp only [Bool.and_eq_true, Bool.not_eq_true', decide_eq_false_iff_not, List.all_eq_true, decide_eq_true_eq] at hr
  refine ⟨fun x hx => ?_, ?_, fun a b x hab => ?_⟩
  · rcases List.mem_append.1 hx with hx | hx
    · exact h.rng x hx
    · rw [List.mem_singleton.1 hx]; omega
  · rw [cntIn_add out i hr.1, if_pos hi, h.cnt, List.length_append]; rfl
  · rcases List.eq_nil_or_concat b with rfl | ⟨b', z, rfl⟩
    · have := List.append_inj' hab rfl
      obtain ⟨rfl, h2⟩ := this
      simp only [List.cons.injEq, and_true] at h2
      subst h2
      rw [Int.toNat_natCast]
      exact ⟨hr.1, hr.2⟩
    · rw [List.concat_eq_append, show a ++ x :: (b' ++ [z]) = (a ++ x :: b') ++ [z] by simp] at hab
      have := List.append_inj' hab rfl
      exact h.topo a b' x this.1
theorem OutOK.len {l : List S53} {out : List Int} (h : OutOK l out) : out.length ≤ l.length := by
  rw [← h.cnt]; exact cntIn_le _ _
theorem OutOK.full {l : List S53} {out : List Int} (h : OutOK l out) (hl : out.length = l.length) : ∀ j : Nat, j < l.length → (j : Int) ∈ out := cntIn_all out l.length (by rw [h.cnt, hl])
theorem OutOK.stop {l : List S53} {out : List Int} (h : OutOK l out) (hl : out.length = l.length) : firstB l out l.length 0 = -1 := by
  rcases firstB_ge l out l.length 0 with h1 | ⟨i, h1, _, h3, h4, _⟩
  · exact h1
  · have := h.full hl i (by omega)
    unfold readyB at h4
    rw [decide_eq_true this] at h4
    cases h4
/-- the program's flags are what stands out -/
def Flags (l : List S53) (out : List Int) (done : List Bool) : Prop := done.length = l.length ∧ ∀ i : Nat, i < l.length → done.getD i false = decide ((i : Int) ∈ out)
theorem rdOf_at {α : Type} (d : α) (xs : List α) (j : Nat) : rdOf d xs (j : Int) = xs.getD j d := by unfold rdOf; rw [Int.toNat_natCast]
theorem find_first {l : List S53} (hn : NeedIn l) {out : List Int} {done : List Bool} (hf : Flags l out done) (d : Nat) : ∀ j, j ≤ l.length → l.length - j = d → findGo done (l.drop j) j = some (firstB l out d j) := by
  induction d with
  | zero =>
    intro j hj hd
    rw [List.drop_of_length_le (by omega)]; rfl
  | succ d ih =>
    intro j hj hd
    have hjl : j < l.length := by omega
    rw [dropS_at z53 l j hjl]
    simp only [findGo, firstB]
    rw [rdOf_at, hf.2 j hjl]
    have hin : ∀ x ∈ (l.getD j z53).f1, 0 ≤ x ∧ x < (done.length : Int) := fun x hx => by rw [hf.1]; exact hn _ (getD_mem z53 l j hjl) x hx
    have hany : needAny done (l.getD j z53).f1 = some (!((l.getD j z53).f1.all fun x => decide (x ∈ out))) := by
      unfold needAny
      rw [if_pos hin]
      congr 1
      rw [List.not_all_eq_any_not]
      apply Bool.eq_iff_iff.2
      simp only [List.any_eq_true]
      constructor
      · rintro ⟨x, hx, h⟩
        have h2 := hin x hx
        obtain ⟨i, rfl⟩ := Int.eq_ofNat_of_zero_le h2.1
        rw [rdOf_at, hf.2 i (by rw [← hf.1]; omega)] at h
        exact ⟨_, hx, h⟩
      · rintro ⟨x, hx, h⟩
        have h2 := hin x hx
        obtain ⟨i, rfl⟩ := Int.eq_ofNat_of_zero_le h2.1
        refine ⟨_, hx, ?_⟩
        rw [rdOf_at, hf.2 i (by rw [← hf.1]; omega)]
        exact h
    rw [hany, ih (j + 1) (by omega) (by omega)]
    by_cases e : (j : Int) ∈ out
    · have hr : ¬ readyB l out j = true := by unfold readyB; rw [decide_eq_true e]; simp
      rw [if_pos (decide_eq_true e), if_neg hr]
    · rw [if_neg (by rw [decide_eq_false e]; simp)]
      simp only [Option.bind_some]
      by_cases h : ((l.getD j z53).f1.all fun x => decide (x ∈ out)) = true
      · have hr : readyB l out j = true := by unfold readyB; rw [h, decide_eq_false e]; rfl
        rw [if_neg (by rw [h]; simp), if_pos hr]
      · rw [Bool.not_eq_true] at h
        have hr : ¬ readyB l out j = true := by unfold readyB; rw [h]; simp
        rw [if_pos (by rw [h]; rfl), if_neg hr]
theorem Flags.snoc {l : List S53} {out : List Int} {done : List Bool} (hf : Flags l out done) {i : Nat} (hi : i < l.length) : Flags l (out ++ [(i : Int)]) (done.set i true) := by
  refine ⟨by rw [List.length_set]; exact hf.1, fun j hj => ?_⟩
  rw [List.getD_eq_getElem?_getD, List.getElem?_set]
  by_cases e : i = j
  · subst e
    rw [if_pos rfl, if_pos (by rw [hf.1]; exact hi)]
    simp
  · rw [if_neg e, ← List.getD_eq_getElem?_getD, hf.2 j hj]
    simp only [decide_eq_decide, List.mem_append, List.mem_singleton]
    constructor
    · exact .inl
    · rintro (h | h)
      · exact h
      · omega
theorem spec_order_l2 {l : List S53} (hl : l.length ≤ 1000) {out : List Int} (hlen : out.length < l.length) (i : Nat) (hi : i < l.length) (hs : (l.getD i z53).f1.length ≤ 1048576) (r : List Int × Bool) (b : Nat) : ∀ (j : Nat) (rd : Bool), j ≤ (l.getD i z53).f1.length → (l.getD i z53).f1.length - j = b →
        ((rd && ((l.getD i z53).f1.drop j).all fun x => decide (x ∈ out)) = true → Ev (fun k => spec_l4Order.l0 k l (out ++ [(i : Int)])) r) →
        ((rd && ((l.getD i z53).f1.drop j).all fun x => decide (x ∈ out)) = false → Ev (fun k => spec_l4Order.l1 k l out (-1) l l.length ((i + 1 : Nat) : Int)) r) →
        Ev (fun k => spec_l4Order.l2 k l out (-1) i rd l l.length i (l.getD i z53).f1 (l.getD i z53).f1.length j) r := by
  induction b with
  | zero =>
    intro j rd hj hb h1 h2
    rw [List.drop_of_length_le (by omega)] at h1 h2
    simp only [List.all_nil, Bool.and_true] at h1 h2
    cases rd with
    | true =>
      refine Ev.step (fun k => ?_) (h1 rfl)
      simp only [spec_l4Order.l2]
      rw [if_neg (by omega)]; simp only [if_true]; rw [if_neg (by omega), if_pos (by omega)]
    | false =>
      refine Ev.step (fun k => ?_) (h2 rfl)
      simp only [spec_l4Order.l2]
      rw [if_neg (by omega), if_neg (by decide), wrap_next hi (by omega)]
  | succ b ihb =>
    intro j rd hj hb h1 h2
    have hjl : j < (l.getD i z53).f1.length := by omega
    rw [drop_at _ j hjl, List.all_cons] at h1 h2
    cases rd with
    | true =>
      simp only [Bool.true_and] at h1 h2
      obtain ⟨K, hK⟩ := ihb (j + 1) (decide ((l.getD i z53).f1.getD j 0 ∈ out)) (by omega) (by omega) h1 h2
      refine ⟨K + l.length + 2, fun k hk => ?_⟩
      obtain ⟨k, rfl⟩ : ∃ m, k = m + 1 := ⟨k - 1, by omega⟩
      simp only [spec_l4Order.l2]
      rw [if_pos (by omega), if_pos (by omega), if_pos (by omega)]; simp only [if_true]; rw [rd_at, l1Has_eq out _ (by omega) k (by omega)]
      simp only [Option.bind_some]
      rw [wrap_next hjl (by omega)]
      exact hK k (by omega)
    | false =>
      simp only [Bool.false_and] at h1 h2
      have := ihb (j + 1) false (by omega) (by omega) (fun h => by simp at h) (fun _ => h2 trivial)
      refine Ev.step (fun k => ?_) this
      simp only [spec_l4Order.l2]
      rw [if_pos (by omega), if_pos (by omega), if_pos (by omega), if_neg (by decide), wrap_next hjl (by omega)]
theorem spec_order_l1 {l : List S53} (hl : l.length ≤ 1000) (hs : ∀ x ∈ l, ShortT x) {out : List Int} (hlen : out.length < l.length) (r : List Int × Bool) (b : Nat) : ∀ (j : Nat), j ≤ l.length → l.length - j = b →
    (∀ i : Nat, firstB l out b j = i → Ev (fun k => spec_l4Order.l0 k l (out ++ [(i : Int)])) r) → (firstB l out b j = -1 → r = ([], false)) → Ev (fun k => spec_l4Order.l1 k l out (-1) l l.length j) r := by
  induction b with
  | zero =>
    intro j hj hb h1 h2
    rw [h2 rfl]
    refine Ev.step (f := fun _ => some ([], false)) (fun k => ?_) (Ev.now _)
    simp only [spec_l4Order.l1]
    rw [if_neg (by omega), if_pos (by decide)]
  | succ b ih =>
    intro j hj hb h1 h2
    have hjl : j < l.length := by omega
    simp only [firstB] at h1 h2
    have hsj : (l.getD j z53).f1.length ≤ 1048576 := hs _ (getD_mem z53 l j hjl)
    have hin := spec_order_l2 hl hlen j hjl hsj r (l.getD j z53).f1.length 0 (!(decide ((j : Int) ∈ out))) (by omega) (by omega)
      (fun h => by
        rw [List.drop_zero] at h
        exact h1 j (by rw [if_pos (show readyB l out j = true from h)]))
      (fun h => by
        rw [List.drop_zero] at h
        have hr : ¬ readyB l out j = true := by unfold readyB; rw [h]; decide
        rw [if_neg hr] at h1 h2
        exact ih (j + 1) (by omega) (by omega) h1 h2)
    obtain ⟨K, hK⟩ := hin
    refine ⟨K + l.length + 2, fun k hk => ?_⟩
    obtain ⟨k, rfl⟩ : ∃ m, k = m + 1 := ⟨k - 1, by omega⟩
    simp only [spec_l4Order.l1]
    rw [if_pos (by omega), if_pos (by omega), if_pos (by omega), l1Has_eq out _ (by omega) k (by omega), rd53_at]
    simp only [Option.bind_some]
    exact hK k (by omega)
/-- where the order ends -/
theorem order_go {l : List S53} (hn : NeedIn l) (hl : l.length ≤ 1000) (hs : ∀ x ∈ l, ShortT x) (d : Nat) : ∀ (out : List Int) (done : List Bool), OutOK l out → Flags l out done → l.length - out.length = d →
    ∃ O, OutOK l O ∧ firstB l O l.length 0 = -1 ∧ (∀ q, d < q → ordGo l q out done = some O) ∧ (∃ t, O = out ++ t) ∧
      ∀ r, (O.length = l.length → r = (O, true)) → (O.length ≠ l.length → r = ([], false)) → Ev (fun k => spec_l4Order.l0 k l out) r := by
  induction d with
  | zero =>
    intro out done ho hf hd
    have hlen : out.length = l.length := by have := ho.len; omega
    refine ⟨out, ho, ho.stop hlen, fun q hq => ?_, ⟨[], by simp⟩, fun r h1 h2 => ?_⟩
    · obtain ⟨q, rfl⟩ : ∃ m, q = m + 1 := ⟨q - 1, by omega⟩
      simp only [ordGo]
      have := find_first hn hf l.length 0 (by omega) (by omega)
      rw [List.drop_zero] at this
      rw [this, ho.stop hlen]; rfl
    · rw [h1 hlen]
      refine Ev.step (f := fun _ => some (out, true)) (fun k => ?_) (Ev.now _)
      simp only [spec_l4Order.l0]
      rw [if_neg (by omega)]
  | succ d ih =>
    intro out done ho hf hd
    have hlen : out.length < l.length := by omega
    have hfind := find_first hn hf l.length 0 (by omega) (by omega)
    rw [List.drop_zero] at hfind
    rcases firstB_ge l out l.length 0 with h1 | ⟨i, h1, _, h3, h4, _⟩
    · refine ⟨out, ho, h1, fun q hq => ?_, ⟨[], by simp⟩, fun r _ h2 => ?_⟩
      · obtain ⟨q, rfl⟩ : ∃ m, q = m + 1 := ⟨q - 1, by omega⟩
        simp only [ordGo]
        rw [show findGo done l 0 = _ from hfind, h1]; rfl
      · have h5 := spec_order_l1 hl hs hlen r l.length 0 (by omega) (by omega) (fun i hi => by rw [h1] at hi; omega) (fun _ => h2 (by omega))
        refine Ev.step (fun k => ?_) h5
        simp only [spec_l4Order.l0]
        rw [if_pos (by omega)]; rfl
    · have hil : i < l.length := by omega
      obtain ⟨O, hO1, hO2, hO3, ⟨t, hO4⟩, hO5⟩ := ih (out ++ [(i : Int)]) (done.set i true) (ho.snoc hil h4) (hf.snoc hil) (by rw [List.length_append]; simp; omega)
      refine ⟨O, hO1, hO2, fun q hq => ?_, ⟨[(i : Int)] ++ t, by rw [hO4]; simp⟩, fun r hr1 hr2 => ?_⟩
      · obtain ⟨q, rfl⟩ : ∃ m, q = m + 1 := ⟨q - 1, by omega⟩
        simp only [ordGo]
        rw [show findGo done l 0 = _ from hfind, h1]; simp only [Option.bind_some]
        rw [if_neg (by omega), if_pos (by omega), Int.toNat_natCast]
        exact hO3 q (by omega)
      · have h5 := spec_order_l1 hl hs hlen r l.length 0 (by omega) (by omega) (fun i' hi' => by
          rw [h1] at hi'
          have : i = i' := by omega
          subst this
          exact hO5 r hr1 hr2) (fun h => by rw [h1] at h; omega)
        refine Ev.step (fun k => ?_) h5
        simp only [spec_l4Order.l0]
        rw [if_pos (by omega)]; rfl
theorem order_both {l : List S53} (hn : NeedIn l) (hl : l.length ≤ 1000) (hs : ∀ x ∈ l, ShortT x) : ∃ O, OutOK l O ∧ firstB l O l.length 0 = -1 ∧ (∀ k, l.length < k → impl_order.f k l = some O) ∧ Ev (fun k => spec_l4Order.f k l) (if O.length = l.length then (O, true) else ([], false)) := by
  obtain ⟨O, h1, h2, h3, _, h5⟩ := order_go hn hl hs l.length [] (List.replicate l.length false) (OutOK.nil l) ⟨List.length_replicate, fun i hi => by simp [List.getD_eq_getElem?_getD, hi]⟩ (by simp)
  refine ⟨O, h1, h2, fun k hk => ?_, ?_⟩
  · unfold impl_order.f
    rw [if_pos (by omega)]
    exact h3 k hk
  · have := h5 (if O.length = l.length then (O, true) else ([], false)) (fun h => by rw [if_pos h]) (fun h => by rw [if_neg h])
    exact this

def taskOk (n : Nat) (i : Nat) (t : S53) : Bool := decide (1 ≤ t.f0 ∧ t.f0 ≤ 100) && (riseFrom t.f1 (wrap64 ((n : Int) - 1)) 0 t.f1.length && !(decide ((i : Int) ∈ t.f1)))
def tasksOk (l : List S53) (d : Nat) : Nat → Bool := fun j => (List.range d).all fun m => taskOk l.length (j + m) (l.getD (j + m) z53)
def tasksFrom (l : List S53) : Nat → Nat → Bool
  | 0, _ => true
  | d + 1, j => taskOk l.length j (l.getD j z53) && tasksFrom l d (j + 1)
theorem tasksFrom_all (l : List S53) (d : Nat) : ∀ j, tasksFrom l d j = true → ∀ i, j ≤ i → i < j + d → taskOk l.length i (l.getD i z53) = true := by
  induction d with
  | zero => intro j _ i h1 h2; omega
  | succ d ih =>
    intro j h i h1 h2
    simp only [tasksFrom, Bool.and_eq_true] at h
    by_cases e : i = j
    · subst e; exact h.1
    · exact ih (j + 1) h.2 i (by omega) (by omega)
theorem spec_plan_loop (l : List S53) (hn : l.length ≤ 30) (hs : ∀ x ∈ l, ShortT x) (d : Nat) : ∀ (j : Nat), j ≤ l.length → l.length - j = d → ∀ r : Bool,
    (tasksFrom l d j = false → r = false) → (tasksFrom l d j = true → ∃ p : List Int × Bool, p.2 = r ∧ Ev (fun k => spec_l4Order.f k l) p) → Ev (fun k => spec_GoodPlan.l0 k l l l.length j) r := by
  induction d with
  | zero =>
    intro j hj hd r h1 h2
    obtain ⟨p, rfl, h3⟩ := h2 rfl
    refine Ev.step (f := fun k => (spec_l4Order.f k l).bind fun b => some b.2) (fun k => ?_) (Ev.bind (f := fun _ b => some b.2) h3 (Ev.now p.2))
    simp only [spec_GoodPlan.l0]; rw [if_neg (by omega)]
  | succ d ih =>
    intro j hj hd r h1 h2
    have hjl : j < l.length := by omega
    have hsj : (l.getD j z53).f1.length ≤ 1048576 := hs _ (getD_mem z53 l j hjl)
    simp only [tasksFrom] at h1 h2
    have hrec : taskOk l.length j (l.getD j z53) = true → Ev (fun k => spec_GoodPlan.l0 k l l l.length ((j + 1 : Nat) : Int)) r := fun hk => by
      rw [hk, Bool.true_and] at h1 h2
      exact ih (j + 1) (by omega) (by omega) r h1 h2
    cases hk : taskOk l.length j (l.getD j z53) with
    | true =>
      obtain ⟨K, hK⟩ := hrec hk
      refine ⟨K + 1048580, fun k hkk => ?_⟩
      obtain ⟨k, rfl⟩ : ∃ m, k = m + 1 := ⟨k - 1, by omega⟩
      unfold taskOk at hk
      simp only [Bool.and_eq_true, Bool.not_eq_true'] at hk
      simp only [spec_GoodPlan.l0]
      rw [if_pos (by omega), if_pos (by omega), if_pos (by omega), rd53_at, l1In_eq, hk.1]; simp only [Option.bind_some, if_true]
      rw [l3List_eq _ _ hsj k (by omega), hk.2.1]; simp only [Option.bind_some, if_true]
      rw [l1Has_eq _ _ hsj k (by omega), hk.2.2]; simp only [Option.bind_some]
      rw [if_neg (by decide), wrap_next hjl (by omega)]
      exact hK k (by omega)
    | false =>
      rw [hk, Bool.false_and] at h1
      obtain rfl := h1 rfl
      refine ⟨1048580, fun k hkk => ?_⟩
      obtain ⟨k, rfl⟩ : ∃ m, k = m + 1 := ⟨k - 1, by omega⟩
      unfold taskOk at hk
      simp only [spec_GoodPlan.l0]
      rw [if_pos (by omega), if_pos (by omega), if_pos (by omega), rd53_at, l1In_eq]; simp only [Option.bind_some]
      by_cases c1 : 1 ≤ (l.getD j z53).f0 ∧ (l.getD j z53).f0 ≤ 100
      · rw [decide_eq_true c1, Bool.true_and] at hk
        rw [decide_eq_true c1, if_pos rfl, l3List_eq _ _ hsj k (by omega)]; simp only [Option.bind_some]
        cases c2 : riseFrom (l.getD j z53).f1 (wrap64 ((l.length : Int) - 1)) 0 (l.getD j z53).f1.length with
        | true =>
          rw [c2, Bool.true_and, Bool.not_eq_false'] at hk
          rw [if_pos rfl, l1Has_eq _ _ hsj k (by omega), hk]; simp
        | false => rw [if_neg (by decide)]
      · rw [decide_eq_false c1, if_neg (by decide)]
theorem impl_plan_loop (l : List S53) (hn : l.length ≤ 30) (hs : ∀ x ∈ l, ShortT x) (d : Nat) : ∀ (j : Nat), j ≤ l.length → l.length - j = d → ∀ r : Bool,
    (tasksFrom l d j = false → r = false) → (tasksFrom l d j = true → ∃ O : List Int, ((O.length : Int) == (l.length : Int)) = r ∧ Ev (fun k => impl_order.f k l) O) → Ev (fun k => impl_GoodPlan.l0 k l l l.length j) r := by
  induction d with
  | zero =>
    intro j hj hd r h1 h2
    obtain ⟨p, rfl, h3⟩ := h2 rfl
    refine Ev.step (f := fun k => (impl_order.f k l).bind fun b => some ((b.length : Int) == (l.length : Int))) (fun k => ?_) (Ev.bind (f := fun _ b => some ((b.length : Int) == (l.length : Int))) h3 (Ev.now _))
    simp only [impl_GoodPlan.l0]; rw [if_neg (by omega)]
  | succ d ih =>
    intro j hj hd r h1 h2
    have hjl : j < l.length := by omega
    have hsj : (l.getD j z53).f1.length ≤ 1048576 := hs _ (getD_mem z53 l j hjl)
    simp only [tasksFrom] at h1 h2
    have hrec : taskOk l.length j (l.getD j z53) = true → Ev (fun k => impl_GoodPlan.l0 k l l l.length ((j + 1 : Nat) : Int)) r := fun hk => by
      rw [hk, Bool.true_and] at h1 h2
      exact ih (j + 1) (by omega) (by omega) r h1 h2
    cases hk : taskOk l.length j (l.getD j z53) with
    | true =>
      obtain ⟨K, hK⟩ := hrec hk
      refine ⟨K + 1048580, fun k hkk => ?_⟩
      obtain ⟨k, rfl⟩ : ∃ m, k = m + 1 := ⟨k - 1, by omega⟩
      unfold taskOk at hk
      simp only [Bool.and_eq_true, Bool.not_eq_true'] at hk
      simp only [impl_GoodPlan.l0]
      rw [if_pos (by omega), if_pos (by omega), if_pos (by omega), rd53_at, in_eq, hk.1]; simp only [Option.bind_some, if_true]
      rw [rising_eq _ _ hsj k (by omega), hk.2.1]; simp only [Option.bind_some, if_true]
      rw [Contains_eq _ _ hsj k (by omega), hk.2.2]; simp only [Option.bind_some]
      rw [if_neg (by decide), wrap_next hjl (by omega)]
      exact hK k (by omega)
    | false =>
      rw [hk, Bool.false_and] at h1
      obtain rfl := h1 rfl
      refine ⟨1048580, fun k hkk => ?_⟩
      obtain ⟨k, rfl⟩ : ∃ m, k = m + 1 := ⟨k - 1, by omega⟩
      unfold taskOk at hk
      simp only [impl_GoodPlan.l0]
      rw [if_pos (by omega), if_pos (by omega), if_pos (by omega), rd53_at, in_eq]; simp only [Option.bind_some]
      by_cases c1 : 1 ≤ (l.getD j z53).f0 ∧ (l.getD j z53).f0 ≤ 100
      · rw [decide_eq_true c1, Bool.true_and] at hk
        rw [decide_eq_true c1, if_pos rfl, rising_eq _ _ hsj k (by omega)]; simp only [Option.bind_some]
        cases c2 : riseFrom (l.getD j z53).f1 (wrap64 ((l.length : Int) - 1)) 0 (l.getD j z53).f1.length with
        | true =>
          rw [c2, Bool.true_and, Bool.not_eq_false'] at hk
          rw [if_pos rfl, Contains_eq _ _ hsj k (by omega), hk]; simp
        | false => rw [if_neg (by decide)]
      · rw [decide_eq_false c1, if_neg (by decide)]
theorem rise_bound (l : List Int) (q : Int) (h : riseFrom l q 0 l.length = true) : ∀ p ∈ l, 0 ≤ p ∧ p ≤ q := by
  have key : ∀ (d j : Nat), j + d = l.length → riseFrom l q j d = true → ∀ i, j ≤ i → i < l.length → 0 ≤ l.getD i 0 ∧ l.getD i 0 ≤ q := by
    intro d
    induction d with
    | zero => intro j hj _ i h1 h2; omega
    | succ d ih =>
      intro j hj h i h1 h2
      simp only [riseFrom, Bool.and_eq_true] at h
      by_cases e : i = j
      · subst e; have h3 := h.1; unfold riseOk at h3; simp only [decide_eq_true_eq] at h3; exact ⟨h3.1, h3.2.1⟩
      · exact ih (j + 1) (by omega) h.2 i (by omega) h2
  intro p hp
  obtain ⟨i, hi, rfl⟩ := List.getElem_of_mem hp
  have := key l.length 0 (by omega) h i (by omega) hi
  rwa [List.getD_eq_getElem?_getD, List.getElem?_eq_getElem hi] at this
theorem need_in (l : List S53) (hn : l.length ≤ 30) (h : tasksFrom l l.length 0 = true) : NeedIn l := by
  intro t ht x hx
  obtain ⟨i, hi, rfl⟩ := List.getElem_of_mem ht
  have := tasksFrom_all l l.length 0 h i (by omega) (by omega)
  unfold taskOk at this
  simp only [Bool.and_eq_true] at this
  rw [List.getD_eq_getElem?_getD, List.getElem?_eq_getElem hi] at this
  have h2 := rise_bound _ _ this.2.1 x hx
  rw [wrap_small (by omega) (by omega)] at h2
  omega
/-- a good plan, and its order -/
structure Plan (l : List S53) (O : List Int) : Prop where
  len : l.length ≤ 30
  ok : ∀ i, i < l.length → 1 ≤ (l.getD i z53).f0 ∧ (l.getD i z53).f0 ≤ 100
  need : NeedIn l
  out : OutOK l O
  full : O.length = l.length
  impl : ∀ k, 100 < k → impl_order.f k l = some O
  spec : Ev (fun k => spec_l4Order.f k l) (O, true)
theorem plan_both (l : List S53) (hs : ∀ x ∈ l, ShortT x) : ∃ r : Bool, Ev (fun k => spec_GoodPlan.f k l) r ∧ Ev (fun k => impl_GoodPlan.f k l) r ∧ (r = true → ∃ O, Plan l O) := by
  by_cases h30 : (l.length : Int) > 30
  · refine ⟨false, ⟨0, fun k _ => ?_⟩, ⟨0, fun k _ => ?_⟩, fun h => by cases h⟩
    · show spec_GoodPlan.f k l = some false
      unfold spec_GoodPlan.f; rw [if_pos h30]
    · show impl_GoodPlan.f k l = some false
      unfold impl_GoodPlan.f; rw [if_pos h30]
  · have hlen : l.length ≤ 30 := by omega
    cases ht : tasksFrom l l.length 0 with
    | false =>
      refine ⟨false, Ev.congr (fun k => ?_) (spec_plan_loop l hlen hs l.length 0 (by omega) (by omega) false (fun _ => rfl) (fun h => by rw [ht] at h; cases h)), Ev.congr (fun k => ?_) (impl_plan_loop l hlen hs l.length 0 (by omega) (by omega) false (fun _ => rfl) (fun h => by rw [ht] at h; cases h)), fun h => by cases h⟩
      · unfold spec_GoodPlan.f; rw [if_neg h30]; rfl
      · unfold impl_GoodPlan.f; rw [if_neg h30]; rfl
    | true =>
      have hne := need_in l hlen ht
      obtain ⟨O, h1, h2, h3, h4⟩ := order_both hne (by omega) hs
      refine ⟨decide (O.length = l.length), Ev.congr (fun k => ?_) (spec_plan_loop l hlen hs l.length 0 (by omega) (by omega) _ (fun h => by rw [ht] at h; cases h) (fun _ => ⟨_, ?_, h4⟩)), Ev.congr (fun k => ?_) (impl_plan_loop l hlen hs l.length 0 (by omega) (by omega) _ (fun h => by rw [ht] at h; cases h) (fun _ => ⟨O, ?_, ⟨l.length + 1, fun k hk => h3 k (by omega)⟩⟩)), fun h => ?_⟩
      · unfold spec_GoodPlan.f; rw [if_neg h30]; rfl
      · by_cases e : O.length = l.length
        · rw [if_pos e, decide_eq_true e]
        · rw [if_neg e, decide_eq_false e]
      · unfold impl_GoodPlan.f; rw [if_neg h30]; rfl
      · by_cases e : O.length = l.length
        · rw [decide_eq_true e, e]; simp
        · rw [decide_eq_false e]; simp; omega
      · have e := of_decide_eq_true h
        rw [if_pos e] at h4
        refine ⟨O, hlen, fun i hi => ?_, hne, h1, e, fun k hk => h3 k (by omega), h4⟩
        have := tasksFrom_all l l.length 0 ht i (by omega) (by omega)
        unfold taskOk at this
        simp only [Bool.and_eq_true, decide_eq_true_eq] at this
        exact this.1

theorem rd66_at (l : List S66) (j : Nat) : rd_T66 l (j : Int) = l.getD j z66 := by unfold rd_T66; rw [Int.toNat_natCast]
theorem dropZ_at {α : Type} (z : α) (l : List α) (j : Nat) (h : j < l.length) : l.drop j = l.getD j z :: l.drop (j + 1) := by
  rw [List.drop_eq_getElem_cons h, List.getD_eq_getElem?_getD, List.getElem?_eq_getElem h]; rfl
theorem rd_of (l : List Int) (i : Int) : rd l i = rdOf 0 l i := rfl
theorem sp_l4 {l : List S53} (hl : l.length ≤ 30) (fr : List Int) (hf : fr.length = l.length) (i : Nat) (hi : i < l.length) (ns : List Int) (hns : ∀ n ∈ ns, 0 ≤ n ∧ n < (l.length : Int)) (hlen : ns.length ≤ 1048576) (r : Bool × Bool) (d : Nat) : ∀ (j : Nat), j ≤ ns.length → ns.length - j = d →
    ((ns.drop j).any (soLate l fr i) = true → r = (false, true)) → ((ns.drop j).any (soLate l fr i) = false → Ev (fun k => spec_IsSchedule.l3 k l fr l l.length ((i + 1 : Nat) : Int)) r) → Ev (fun k => spec_IsSchedule.l4 k l fr i l l.length i ns ns.length j) r := by
  induction d with
  | zero =>
    intro j hj hd h1 h2
    rw [List.drop_of_length_le (by omega)] at h2
    refine Ev.step (fun k => ?_) (h2 rfl)
    simp only [spec_IsSchedule.l4]
    rw [if_neg (by omega), wrap_next hi (by omega)]
  | succ d ih =>
    intro j hj hd h1 h2
    have hjl : j < ns.length := by omega
    have hn := hns _ (getD_mem 0 ns j hjl)
    rw [drop_at ns j hjl, List.any_cons] at h1 h2
    obtain ⟨n, hne⟩ : ∃ n, n = ns.getD j 0 := ⟨_, rfl⟩
    rw [← hne] at hn h1 h2
    have key : ∀ k, spec_IsSchedule.l4 (k + 1) l fr i l l.length i ns ns.length j = if soLate l fr i n = true then some (false, true) else spec_IsSchedule.l4 k l fr i l l.length i ns ns.length ((j + 1 : Nat) : Int) := fun k => by
      simp only [spec_IsSchedule.l4]
      rw [if_pos (by omega), if_pos (by omega), if_pos (by omega), rd_at, ← hne, if_pos hn.1, if_pos (by omega), if_pos hn.2, if_pos (by omega), if_pos (by omega), wrap_next hjl (by omega)]
      unfold soLate
      rw [rd_of, rd_of]
      by_cases c : rdOf 0 fr (i : Int) < wrap64 (rdOf 0 fr n + (rd_T53 l n).f0)
      · rw [if_pos (by omega), if_pos (decide_eq_true c)]
      · rw [if_neg (by omega), if_neg (by rw [decide_eq_false c]; decide)]
    cases c : soLate l fr i n with
    | true =>
      obtain rfl := h1 (by rw [c]; rfl)
      refine Ev.step (f := fun _ => some (false, true)) (fun k => ?_) (Ev.now _)
      show spec_IsSchedule.l4 (k + 1) l fr i l l.length i ns ns.length j = _
      rw [key, if_pos c]
    | false =>
      rw [c, Bool.false_or] at h1 h2
      refine Ev.step (fun k => ?_) (ih (j + 1) (by omega) (by omega) h1 h2)
      show spec_IsSchedule.l4 (k + 1) l fr i l l.length i ns ns.length j = _
      rw [key, if_neg (by rw [c]; decide)]
theorem sp_l3 {l : List S53} (hl : l.length ≤ 30) (hN : ∀ t ∈ l, ∀ n ∈ t.f1, 0 ≤ n ∧ n < (l.length : Int)) (hs : ∀ x ∈ l, ShortT x) (fr : List Int) (hf : fr.length = l.length) (d : Nat) : ∀ (i : Nat), i ≤ l.length → l.length - i = d →
    Ev (fun k => spec_IsSchedule.l3 k l fr l l.length i) (soEnd l fr (l.drop i) i, true) := by
  induction d with
  | zero =>
    intro i hi hd
    rw [List.drop_of_length_le (by omega)]
    refine Ev.step (f := fun _ => some (true, true)) (fun k => ?_) (Ev.now _)
    simp only [spec_IsSchedule.l3]
    rw [if_neg (by omega)]
  | succ d ih =>
    intro i hi hd
    have hil : i < l.length := by omega
    have hm := getD_mem z53 l i hil
    rw [dropZ_at z53 l i hil]
    simp only [soEnd]
    have key : ∀ k, spec_IsSchedule.l3 (k + 1) l fr l l.length i = if rdOf 0 fr (i : Int) < 0 then some (false, true) else spec_IsSchedule.l4 k l fr i l l.length i (l.getD i z53).f1 (l.getD i z53).f1.length 0 := fun k => by
      simp only [spec_IsSchedule.l3]
      rw [if_pos (by omega), if_pos (by omega), if_pos (by omega), if_pos (by omega), rd53_at, rd_of]
    by_cases c : rdOf 0 fr (i : Int) < 0
    · rw [if_pos c]
      refine Ev.step (f := fun _ => some (false, true)) (fun k => ?_) (Ev.now _)
      show spec_IsSchedule.l3 (k + 1) l fr l l.length i = _
      rw [key, if_pos c]
    · rw [if_neg c]
      refine Ev.step (fun k => ?_) (sp_l4 hl fr hf i hil (l.getD i z53).f1 (hN _ hm) (hs _ hm) (if (l.getD i z53).f1.any (soLate l fr i) = true then false else soEnd l fr (l.drop (i + 1)) (i + 1), true) (l.getD i z53).f1.length 0 (by omega) (by omega) (fun h => by rw [List.drop_zero] at h; rw [if_pos h]) (fun h => by rw [List.drop_zero] at h; rw [if_neg (by rw [h]; decide)]; exact ih (i + 1) (by omega) (by omega)))
      show spec_IsSchedule.l3 (k + 1) l fr l l.length i = _
      rw [key, if_neg c]; rfl
theorem sp_l2 {l : List S53} (hl : l.length ≤ 30) (a : Int) {s : List S66} (hsl : s.length ≤ 30) (fr : List Int) (i : Nat) (hi : i < s.length) (x : S66) (hx0 : 0 ≤ x.f0) (hx1 : x.f0 < l.length) (hy : ∀ y ∈ s.take i, 0 ≤ y.f0 ∧ y.f0 < (l.length : Int)) (r : Bool × Bool) (d : Nat) : ∀ (j : Nat), j ≤ (s.take i).length → (s.take i).length - j = d →
    (((s.take i).drop j).any (soClash l x) = true → r = (false, true)) → (((s.take i).drop j).any (soClash l x) = false → Ev (fun k => spec_IsSchedule.l1 k l a s fr s s.length ((i + 1 : Nat) : Int)) r) → Ev (fun k => spec_IsSchedule.l2 k l a s fr s s.length i (s.take i) (s.take i).length j x.f0 x.f1 x.f2) r := by
  induction d with
  | zero =>
    intro j hj hd h1 h2
    rw [List.drop_of_length_le (by omega)] at h2
    refine Ev.step (fun k => ?_) (h2 rfl)
    simp only [spec_IsSchedule.l2]
    rw [if_neg (by omega), wrap_next hi (by omega)]
  | succ d ih =>
    intro j hj hd h1 h2
    have hjl : j < (s.take i).length := by omega
    have hti : (s.take i).length ≤ 30 := by rw [List.length_take]; omega
    have hm := hy _ (getD_mem z66 _ j hjl)
    rw [dropZ_at z66 _ j hjl, List.any_cons] at h1 h2
    obtain ⟨y, hye⟩ : ∃ y, y = (s.take i).getD j z66 := ⟨_, rfl⟩
    rw [← hye] at hm h1 h2
    have key : ∀ k, spec_IsSchedule.l2 (k + 1) l a s fr s s.length i (s.take i) (s.take i).length j x.f0 x.f1 x.f2 = if soClash l x y = true then some (false, true) else spec_IsSchedule.l2 k l a s fr s s.length i (s.take i) (s.take i).length ((j + 1 : Nat) : Int) x.f0 x.f1 x.f2 := fun k => by
      simp only [spec_IsSchedule.l2]
      rw [if_pos (by omega), if_pos (by omega), if_pos (by omega), rd66_at, ← hye, if_pos hx0, if_pos hx1, if_pos hm.1, if_pos hm.2, wrap_next hjl (by omega)]
      unfold soClash
      by_cases c1 : x.f1 = y.f1
      · rw [if_pos c1.symm, decide_eq_true c1, Bool.true_and]
        by_cases c2 : y.f2 < wrap64 (x.f2 + (rd_T53 l x.f0).f0)
        · rw [if_pos c2, decide_eq_true c2, Bool.and_true]
          by_cases c3 : x.f2 < wrap64 (y.f2 + (rd_T53 l y.f0).f0)
          · rw [if_pos c3, decide_eq_true c3, if_pos rfl]
          · rw [if_neg c3, decide_eq_false c3, if_neg (by decide)]
        · rw [if_neg c2, decide_eq_false c2, Bool.and_false, if_neg (by decide)]
      · rw [if_neg (fun h => c1 h.symm), decide_eq_false c1, Bool.false_and, if_neg (by decide)]
    cases c : soClash l x y with
    | true =>
      obtain rfl := h1 (by rw [c]; rfl)
      refine Ev.step (f := fun _ => some (false, true)) (fun k => ?_) (Ev.now _)
      show spec_IsSchedule.l2 (k + 1) l a s fr s s.length i (s.take i) (s.take i).length j x.f0 x.f1 x.f2 = _
      rw [key, if_pos c]
    | false =>
      rw [c, Bool.false_or] at h1 h2
      refine Ev.step (fun k => ?_) (ih (j + 1) (by omega) (by omega) h1 h2)
      show spec_IsSchedule.l2 (k + 1) l a s fr s s.length i (s.take i) (s.take i).length j x.f0 x.f1 x.f2 = _
      rw [key, if_neg (by rw [c]; decide)]
def soAns (l : List S53) (o : Option (List Int)) : Bool := match o with
  | none => false
  | some fr => soEnd l fr l 0
theorem sp_l1 {l : List S53} (hl : l.length ≤ 30) (hN : ∀ t ∈ l, ∀ n ∈ t.f1, 0 ≤ n ∧ n < (l.length : Int)) (hs : ∀ x ∈ l, ShortT x) {a : Int} (ha : 1 ≤ a ∧ a ≤ 8) {s : List S66} (hsl : s.length ≤ 30) (d : Nat) : ∀ (i : Nat) (fr : List Int), fr.length = l.length → (∀ y ∈ s.take i, 0 ≤ y.f0 ∧ y.f0 < (l.length : Int)) → i ≤ s.length → s.length - i = d →
    Ev (fun k => spec_IsSchedule.l1 k l a s fr s s.length i) (soAns l (soGo l a s (s.drop i) i fr), true) := by
  induction d with
  | zero =>
    intro i fr hf hy hi hd
    rw [List.drop_of_length_le (by omega)]
    refine Ev.step (fun k => ?_) (sp_l3 hl hN hs fr hf l.length 0 (by omega) (by omega))
    simp only [spec_IsSchedule.l1]
    rw [if_neg (by omega)]; rfl
  | succ d ih =>
    intro i fr hf hy hi hd
    have hil : i < s.length := by omega
    rw [dropZ_at z66 s i hil]
    obtain ⟨x, hx⟩ : ∃ x, x = s.getD i z66 := ⟨_, rfl⟩
    rw [← hx]
    simp only [soGo]
    have hw1 : wrap64 ((l.length : Int) - 1) = (l.length : Int) - 1 := by unfold wrap64; omega
    have hw2 : wrap64 (a - 1) = a - 1 := by unfold wrap64; omega
    have key : ∀ k, spec_IsSchedule.l1 (k + 1) l a s fr s s.length i = spec_IsSchedule.j3 k l a s fr i s s.length i (soBad l a fr x) x.f0 x.f1 x.f2 := fun k => by
      simp only [spec_IsSchedule.l1]
      rw [if_pos (by omega), if_pos (by omega), if_pos (by omega), rd66_at, ← hx, hw1, hw2, l1In_eq]; simp only [Option.bind_some]
      unfold soBad
      by_cases c1 : 0 ≤ x.f0 ∧ x.f0 ≤ (l.length : Int) - 1
      · rw [if_pos (decide_eq_true c1), l1In_eq, decide_eq_true c1.1, decide_eq_true (show x.f0 < (l.length : Int) by omega)]; simp only [Option.bind_some]
        by_cases c2 : 0 ≤ x.f1 ∧ x.f1 ≤ a - 1
        · rw [if_pos (decide_eq_true c2), l1In_eq, decide_eq_true c2.1, decide_eq_true (show x.f1 < a by omega)]; simp only [Option.bind_some]
          by_cases c3 : 0 ≤ x.f2 ∧ x.f2 ≤ 1000000
          · rw [if_pos (decide_eq_true c3), if_pos c1.1, if_pos (by omega), decide_eq_true c3.1, decide_eq_true c3.2]; rfl
          · rw [if_neg (by rw [decide_eq_false c3]; decide), show (decide (0 ≤ x.f2) && decide (x.f2 ≤ 1000000)) = false by rw [← Bool.decide_and]; exact decide_eq_false c3]; rfl
        · rw [if_neg (by rw [decide_eq_false c2]; decide), show (decide (0 ≤ x.f1) && decide (x.f1 < a)) = false by rw [← Bool.decide_and]; exact decide_eq_false (by omega)]; rfl
      · rw [if_neg (by rw [decide_eq_false c1]; decide), show (decide (0 ≤ x.f0) && decide (x.f0 < (l.length : Int))) = false by rw [← Bool.decide_and]; exact decide_eq_false (by omega)]; rfl
    cases c : soBad l a fr x with
    | true =>
      rw [if_pos rfl]
      refine Ev.step (f := fun k => spec_IsSchedule.j3 k l a s fr i s s.length i true x.f0 x.f1 x.f2) (fun k => ?_) (Ev.step (f := fun _ => some (false, true)) (fun k => ?_) (Ev.now _))
      · show spec_IsSchedule.l1 (k + 1) l a s fr s s.length i = _
        rw [key, c]
      · simp only [spec_IsSchedule.j3]; rw [if_pos trivial]
    | false =>
      rw [if_neg (by decide)]
      have hx01 : 0 ≤ x.f0 ∧ x.f0 < (l.length : Int) := by
        unfold soBad at c
        simp only [Bool.or_eq_false_iff, Bool.not_eq_false', Bool.and_eq_true, decide_eq_true_eq] at c
        exact c.1
      refine Ev.step (f := fun k => spec_IsSchedule.j3 k l a s fr i s s.length i false x.f0 x.f1 x.f2) (fun k => ?_) ?_
      · show spec_IsSchedule.l1 (k + 1) l a s fr s s.length i = _
        rw [key, c]
      refine Ev.step (f := fun k => spec_IsSchedule.l2 k l a s (fr.set x.f0.toNat x.f2) s s.length i (s.take i) (s.take i).length 0 x.f0 x.f1 x.f2) (fun k => ?_) ?_
      · simp only [spec_IsSchedule.j3]
        rw [if_neg (by decide), if_pos hx01.1, if_pos (by omega), if_pos (by omega), if_pos (by omega), Int.toNat_natCast]; rfl
      refine sp_l2 hl a hsl (fr.set x.f0.toNat x.f2) i hil x hx01.1 hx01.2 hy _ (s.take i).length 0 (by omega) (by omega) (fun h => by rw [List.drop_zero] at h; rw [if_pos h]; rfl) (fun h => ?_)
      rw [List.drop_zero] at h
      rw [if_neg (by rw [h]; decide)]
      refine ih (i + 1) (fr.set x.f0.toNat x.f2) (by rw [List.length_set]; exact hf) (fun y hym => ?_) (by omega) (by omega)
      rw [takeS_at z66 s i hil, ← hx] at hym
      rcases List.mem_append.1 hym with h1 | h1
      · exact hy y h1
      · rw [List.mem_singleton.1 h1]; exact hx01
theorem sp_l0 {l : List S53} (hl : l.length ≤ 30) (a : Int) (s : List S66) (r : Bool × Bool) (h : Ev (fun k => spec_IsSchedule.l1 k l a s (List.replicate l.length (-1)) s s.length 0) r) (d : Nat) : ∀ (j : Nat), j ≤ l.length → l.length - j = d →
    Ev (fun k => spec_IsSchedule.l0 k l a s (List.replicate j (-1) ++ List.replicate (l.length - j) 0) l.length j) r := by
  induction d with
  | zero =>
    intro j hj hd
    obtain rfl : j = l.length := by omega
    rw [Nat.sub_self, List.replicate_zero, List.append_nil]
    refine Ev.step (fun k => ?_) h
    simp only [spec_IsSchedule.l0]
    rw [if_neg (by omega)]
  | succ d ih =>
    intro j hj hd
    refine Ev.step (fun k => ?_) (ih (j + 1) (by omega) (by omega))
    simp only [spec_IsSchedule.l0]
    rw [if_pos (by omega), if_pos (by omega), if_pos (by simp; omega), wrap_next (n := l.length) (by omega) (by omega), Int.toNat_natCast]
    congr 1
    rw [show l.length - j = (l.length - (j + 1)) + 1 by omega, List.replicate_succ, List.replicate_succ', List.set_append_right _ _ (by simp), List.length_replicate, Nat.sub_self, List.set_cons_zero, List.append_assoc]; rfl
theorem sched_both (l : List S53) (hs : ∀ x ∈ l, ShortT x) (a : Int) (s : List S66) : ∃ v : Bool × Bool, Ev (fun k => spec_IsSchedule.f k l a s) v ∧ Ev (fun k => impl_IsSchedule.f k l a s) v := by
  obtain ⟨g, ⟨K1, hg1⟩, ⟨K2, hg2⟩, hp⟩ := plan_both l hs
  have bad : ∀ k, spec_IsSchedule.j0 (k + 1) l a s true = some (false, false) := fun k => by simp only [spec_IsSchedule.j0]; rw [if_pos trivial]
  have hw : impl_workersOk.f a = some (decide (1 ≤ a ∧ a ≤ 8)) := by unfold impl_workersOk.f; rw [in_eq]; rfl
  cases g with
  | false =>
    refine ⟨(false, false), ⟨K1 + 1, fun k hk => ?_⟩, ⟨K2, fun k hk => ?_⟩⟩
    · show spec_IsSchedule.f k l a s = _
      unfold spec_IsSchedule.f
      rw [show spec_GoodPlan.f k l = some false from hg1 k (by omega)]
      obtain ⟨k, rfl⟩ : ∃ m, k = m + 1 := ⟨k - 1, by omega⟩
      simp only [Option.bind_some]; rw [if_neg (by decide), bad]
    · show impl_IsSchedule.f k l a s = _
      unfold impl_IsSchedule.f
      rw [show impl_GoodPlan.f k l = some false from hg2 k (by omega)]
      simp only [Option.bind_some]; rw [if_neg (by decide)]
  | true =>
    obtain ⟨O, p⟩ := hp rfl
    by_cases ha : 1 ≤ a ∧ a ≤ 8
    · by_cases h30 : (s.length : Int) > 30
      · refine ⟨(false, false), ⟨K1 + 1, fun k hk => ?_⟩, ⟨K2, fun k hk => ?_⟩⟩
        · show spec_IsSchedule.f k l a s = _
          unfold spec_IsSchedule.f
          rw [show spec_GoodPlan.f k l = some true from hg1 k (by omega)]
          obtain ⟨k, rfl⟩ : ∃ m, k = m + 1 := ⟨k - 1, by omega⟩
          simp only [Option.bind_some]; rw [if_pos trivial, l1In_eq]; simp only [Option.bind_some]; rw [if_pos (decide_eq_true ha), decide_eq_true h30, bad]
        · show impl_IsSchedule.f k l a s = _
          unfold impl_IsSchedule.f
          rw [show impl_GoodPlan.f k l = some true from hg2 k (by omega)]
          simp only [Option.bind_some]; rw [if_pos trivial, hw]; simp only [Option.bind_some]; rw [if_pos (decide_eq_true ha), if_pos h30]
      · have hsl : s.length ≤ 30 := by omega
        obtain ⟨K3, h3⟩ := sp_l0 p.len a s _ (sp_l1 p.len p.need hs ha hsl s.length 0 (List.replicate l.length (-1)) List.length_replicate (by simp) (by omega) (by omega)) l.length 0 (by omega) (by omega)
        refine ⟨(slots l a s, true), ⟨K1 + K3 + 1, fun k hk => ?_⟩, ⟨K2, fun k hk => ?_⟩⟩
        · show spec_IsSchedule.f k l a s = _
          unfold spec_IsSchedule.f
          rw [show spec_GoodPlan.f k l = some true from hg1 k (by omega)]
          obtain ⟨k, rfl⟩ : ∃ m, k = m + 1 := ⟨k - 1, by omega⟩
          simp only [Option.bind_some]; rw [if_pos trivial, l1In_eq]; simp only [Option.bind_some]; rw [if_pos (decide_eq_true ha), decide_eq_false h30]
          have hl30 := p.len
          simp only [spec_IsSchedule.j0]
          rw [if_neg (by decide), if_pos (by omega), if_pos (by omega)]
          simp only [Option.bind_some, Int.toNat_natCast, List.length_replicate]
          have h4 := h3 k (by omega)
          exact h4
        · show impl_IsSchedule.f k l a s = _
          unfold impl_IsSchedule.f
          rw [show impl_GoodPlan.f k l = some true from hg2 k (by omega)]
          simp only [Option.bind_some]; rw [if_pos trivial, hw]; simp only [Option.bind_some]; rw [if_pos (decide_eq_true ha), if_neg h30]
          unfold impl_slotsOk.f
          rw [if_pos ⟨p.len, hsl, ha, p.need⟩]; rfl
    · refine ⟨(false, false), ⟨K1 + 1, fun k hk => ?_⟩, ⟨K2, fun k hk => ?_⟩⟩
      · show spec_IsSchedule.f k l a s = _
        unfold spec_IsSchedule.f
        rw [show spec_GoodPlan.f k l = some true from hg1 k (by omega)]
        obtain ⟨k, rfl⟩ : ∃ m, k = m + 1 := ⟨k - 1, by omega⟩
        simp only [Option.bind_some]; rw [if_pos trivial, l1In_eq]; simp only [Option.bind_some]; rw [if_neg (by rw [decide_eq_false ha]; decide), bad]
      · show impl_IsSchedule.f k l a s = _
        unfold impl_IsSchedule.f
        rw [show impl_GoodPlan.f k l = some true from hg2 k (by omega)]
        simp only [Option.bind_some]; rw [if_pos trivial, hw]; simp only [Option.bind_some]; rw [if_neg (by rw [decide_eq_false ha]; decide)]
/-! ### the law's own slots -/
def slotOf (x : S68) : S66 := ⟨x.f0, x.f1, x.f2⟩
def slotList (l : List S68) : List S66 := l.map slotOf
theorem rd68_at (l : List S68) (j : Nat) : rd_T68 l (j : Int) = l.getD j z68 := by unfold rd_T68; rw [Int.toNat_natCast]
theorem getD_slots (l : List S68) (j : Nat) (h : j < l.length) : (slotList l).getD j z66 = slotOf (l.getD j z68) := by
  unfold slotList; rw [List.getD_eq_getElem?_getD, List.getElem?_map, List.getElem?_eq_getElem h, List.getD_eq_getElem?_getD, List.getElem?_eq_getElem h]; rfl
theorem toSlotS_loop (l : List S68) (hn : l.length ≤ 1048576) (d : Nat) : ∀ (k j : Nat) (x : List S66), x.length = l.length → x.take j = (slotList l).take j → j ≤ l.length → l.length - j = d → d < k →
    laws_toSlotS.l0 k l x j = some (slotList l) := by
  have hll : (slotList l).length = l.length := by unfold slotList; rw [List.length_map]
  induction d with
  | zero =>
    intro k j x hx ht hj hd hk
    obtain ⟨k, rfl⟩ : ∃ m, k = m + 1 := ⟨k - 1, by omega⟩
    simp only [laws_toSlotS.l0]; rw [if_neg (by omega)]
    rw [List.take_of_length_le (by omega), List.take_of_length_le (by omega)] at ht; rw [ht]
  | succ d ih =>
    intro k j x hx ht hj hd hk
    obtain ⟨k, rfl⟩ : ∃ m, k = m + 1 := ⟨k - 1, by omega⟩
    simp only [laws_toSlotS.l0]; rw [if_pos (by omega), if_pos (by omega), rd68_at]
    unfold laws_toSlot.f
    simp only [Option.bind_some]
    rw [if_pos (by omega), wrap_next (n := l.length) (by omega) (by omega), Int.toNat_natCast]
    refine ih k (j + 1) _ (by rw [List.length_set]; exact hx) ?_ (by omega) (by omega) (by omega)
    rw [takeS_at z66 (slotList l) j (by omega), List.take_succ_eq_append_getElem (by rw [List.length_set]; omega), List.getElem_set_self, List.take_set_of_le (by omega), ht, getD_slots l j (by omega)]; rfl
theorem toSlotS_eq (l : List S68) (hn : l.length ≤ 1048576) (k : Nat) (hk : 1048576 < k) : laws_toSlotS.f k l = some (slotList l) := by
  unfold laws_toSlotS.f
  rw [if_pos (by omega), Int.toNat_natCast, if_pos (by omega)]
  exact toSlotS_loop l hn l.length k 0 (List.replicate l.length z66) (by simp) (by simp) (by omega) (by omega) (by omega)
theorem eqSlotS_loop (a : List S66) (hn : a.length ≤ 1048576) (d : Nat) : ∀ (k j : Nat), j ≤ a.length → a.length - j = d → d < k → laws_eqSlotS.l0 k a a j = some true := by
  induction d with
  | zero =>
    intro k j hj hd hk
    obtain ⟨k, rfl⟩ : ∃ m, k = m + 1 := ⟨k - 1, by omega⟩
    simp only [laws_eqSlotS.l0]; rw [if_neg (by omega)]
  | succ d ih =>
    intro k j hj hd hk
    obtain ⟨k, rfl⟩ : ∃ m, k = m + 1 := ⟨k - 1, by omega⟩
    simp only [laws_eqSlotS.l0]; rw [if_pos (by omega), if_pos (by omega), if_pos (by omega)]
    unfold laws_eqSlot.f
    simp only [if_true, Option.bind_some]
    rw [wrap_next (n := a.length) (by omega) (by omega)]
    exact ih k (j + 1) (by omega) (by omega) (by omega)
theorem eqSlotS_self (a : List S66) (hn : a.length ≤ 1048576) (k : Nat) (hk : 1048576 < k) : laws_eqSlotS.f k a a = some true := by
  unfold laws_eqSlotS.f
  rw [if_pos rfl]
  exact eqSlotS_loop a hn a.length k 0 (by omega) (by omega) (by omega)
theorem szTaskS_loop_le (l : List S52) (hn : l.length ≤ 1048576) (hy : ∀ y ∈ l, y.f1.length ≤ 9223372036854775807) (d : Nat) : ∀ (k j : Nat) (a : Int), 0 ≤ a → a ≤ 1048576 → j ≤ l.length → l.length - j = d → ∀ r, laws_szTaskS.l0 k l a j = some r → r ≤ 1048576 := by
  induction d with
  | zero =>
    intro k j a h0 h1 hj hd r h
    cases k with
    | zero => simp [laws_szTaskS.l0] at h
    | succ k =>
      simp only [laws_szTaskS.l0] at h; rw [if_neg (by omega)] at h
      obtain rfl := Option.some.inj h; exact h1
  | succ d ih =>
    intro k j a h0 h1 hj hd r h
    cases k with
    | zero => simp [laws_szTaskS.l0] at h
    | succ k =>
      simp only [laws_szTaskS.l0] at h; rw [if_pos (by omega), if_pos (by omega), wrap_next (n := l.length) (by omega) (by omega), rd52_at] at h
      have hm := hy _ (getD_mem z52 l j (by omega))
      obtain ⟨t, ht, hc⟩ := szTask_eq (l.getD j z52).f0 (l.getD j z52).f1 a h0 h1 hm
      rw [ht] at h; simp only [Option.bind_some] at h
      rcases hc with hc | ⟨hc, hc2, _⟩
      · rw [if_pos hc] at h; obtain rfl := Option.some.inj h; omega
      · rw [if_neg (by omega)] at h
        exact ih k (j + 1) t hc (by omega) (by omega) (by omega) r h
theorem szTaskS_le (l : List S52) (hl : l.length ≤ 9223372036854775807) (hy : ∀ y ∈ l, y.f1.length ≤ 9223372036854775807) (k : Nat) (r : Int) (h : laws_szTaskS.f k l 1048576 = some r) : r ≤ 1048576 := by
  unfold laws_szTaskS.f at h
  rw [wrap_small (by omega) (by omega)] at h
  by_cases c : (1048576 : Int) - (l.length : Int) < 0
  · rw [if_pos c] at h; obtain rfl := Option.some.inj h; omega
  · rw [if_neg c] at h
    exact szTaskS_loop_le l (by omega) hy l.length k 0 (1048576 - (l.length : Int)) (by omega) (by omega) (by omega) (by omega) r h

/-- THE PURE STATEMENT of the law. -/
def FnExactIsSchedule_Pure : Prop := ∀ (l0 : (List S52)) (a1 : Int) (l2 : (List S68)), (l0.length ≤ 9223372036854775807 ∧ ∀ y ∈ l0, ((Lit.int .i64 y.f0).wf = true ∧ (y.f1.length ≤ 9223372036854775807 ∧ ∀ y2 ∈ y.f1, (Lit.int .i64 y2).wf = true))) → (Lit.int .i64 a1).wf = true → (l2.length ≤ 9223372036854775807 ∧ ∀ y ∈ l2, ((Lit.int .i64 y.f0).wf = true ∧ (Lit.int .i64 y.f1).wf = true ∧ (Lit.int .i64 y.f2).wf = true)) → ∃ k, laws_FnExactIsSchedule.f k l0 a1 l2 = some true

theorem FnExactIsSchedule : FnExactIsSchedule_Pure := by
  intro l a s hl ha hs
  have htl := tasks_length l
  have hll : (slotList s).length = s.length := by unfold slotList; rw [List.length_map]
  obtain ⟨m0, hm0⟩ : ∃ m, m = 2097160 := ⟨_, rfl⟩
  obtain ⟨r0, hs0, hr0⟩ := szTaskS_eq l hl.1 (fun y hy => (hl.2 y hy).2.1) m0 (by omega)
  by_cases hbad : r0 < 0
  · exact ⟨m0, by unfold laws_FnExactIsSchedule.f; rw [hs0]; simp only [Option.bind_some]; rw [if_pos hbad]⟩
  have hgood : l.length ≤ 1048576 ∧ ∀ x ∈ tasks l, ShortT x := by
    rcases hr0 with hr0 | ⟨_, h1, h2⟩
    · exact absurd hr0 hbad
    · exact ⟨h1, h2⟩
  obtain ⟨h, hsh⟩ := hgood
  obtain ⟨v, ⟨K1, hv1⟩, ⟨K2, hv2⟩⟩ := sched_both (tasks l) hsh a (slotList s)
  obtain ⟨m, hm⟩ : ∃ m, m = K1 + K2 + 2097160 := ⟨_, rfl⟩
  obtain ⟨r, hs1, hr⟩ := szTaskS_eq l hl.1 (fun y hy => (hl.2 y hy).2.1) (m + 1) (by omega)
  have hrle := szTaskS_le l hl.1 (fun y hy => (hl.2 y hy).2.1) (m + 1) r hs1
  refine ⟨m + 1, ?_⟩
  unfold laws_FnExactIsSchedule.f
  rw [hs1]; simp only [Option.bind_some]
  by_cases h5 : r < 0
  · rw [if_pos h5]
  rw [if_neg h5]
  have hsl := hs.1
  unfold laws_szSlotS.f
  rw [wrap_small (by omega) (by omega)]
  by_cases h6 : r - (s.length : Int) < 0
  · rw [if_pos h6]; simp only [Option.bind_some]; rw [if_pos (by omega)]
  rw [if_neg h6]; simp only [Option.bind_some]
  rw [if_neg h6, toTaskS_eq l h hsh _ (by omega)]; simp only [Option.bind_some]
  rw [toSlotS_eq s (by omega) _ (by omega)]; simp only [Option.bind_some]
  rw [show spec_IsSchedule.f (m + 1) (tasks l) a (slotList s) = some v from hv1 _ (by omega), show impl_IsSchedule.f (m + 1) (tasks l) a (slotList s) = some v from hv2 _ (by omega)]; simp only [Option.bind_some, bne_self_eq_false, Bool.false_eq_true, if_false]
  simp only [laws_FnExactIsSchedule.j0]
  rw [if_neg (by decide), toTaskS_eq l h hsh _ (by omega)]; simp only [Option.bind_some]
  rw [eqTaskS_self (tasks l) (by omega) hsh _ (by omega)]; simp only [Option.bind_some, if_true]
  rw [toSlotS_eq s (by omega) _ (by omega)]; simp only [Option.bind_some]
  rw [eqSlotS_self (slotList s) (by omega) _ (by omega)]; simp

end Go.Proofs.Ytpgegjbnnbkhiaa.Pure
