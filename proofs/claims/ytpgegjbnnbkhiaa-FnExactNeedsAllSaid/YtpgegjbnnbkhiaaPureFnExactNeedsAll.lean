/- The program tells all that a task needs as the reference does: the law answers true. No conditions but the reach of a slice. -/
import Derived.Test.YtpgegjbnnbkhiaaPFnExactNeedsAllx7
namespace Go.Proofs.Ytpgegjbnnbkhiaa.Pure
open Go.RowKit Go.Proofs.Ytpgegjbnnbkhiaa.PFnExactNeedsAll Go.Proofs.YtpgegjbnnbkhiaaW.PrintWords Go.Proofs.YtpgegjbnnbkhiaaW.PrintLast
set_option linter.unusedVariables false
set_option linter.unusedSimpArgs false

theorem wrap_small {x : Int} (h0 : -9223372036854775808 ≤ x) (h1 : x ≤ 9223372036854775807) : wrap64 x = x := by
  unfold wrap64
  omega

theorem wrap_next {j n : Nat} (h : j < n) (hn : n ≤ 140737488351232) : wrap64 ((j : Int) + 1) = ((j + 1 : Nat) : Int) := by
  rw [wrap_small (by omega) (by omega)]; rfl

theorem rd_at (l : List Int) (j : Nat) : rd l (j : Int) = l.getD j 0 := by
  unfold rd; rw [Int.toNat_natCast]

theorem drop_at (l : List Int) (j : Nat) (h : j < l.length) : l.drop j = l.getD j 0 :: l.drop (j + 1) := by
  rw [List.drop_eq_getElem_cons h, List.getD_eq_getElem?_getD, List.getElem?_eq_getElem h]; rfl

theorem take_at (l : List Int) (j : Nat) (h : j < l.length) : l.take (j + 1) = l.take j ++ [l.getD j 0] := by
  rw [List.take_succ_eq_append_getElem h, List.getD_eq_getElem?_getD, List.getElem?_eq_getElem h]; rfl

theorem toIntS_loop (l : List Int) (hn : l.length ≤ 140737488351232) (d : Nat) : ∀ (k j : Nat) (x : List Int), x.length = l.length → x.take j = l.take j → j ≤ l.length → l.length - j = d → d < k →
    laws_toIntS.l0 k l x j = some l := by
  induction d with
  | zero =>
    intro k j x hx ht hj hd hk
    obtain ⟨k, rfl⟩ : ∃ m, k = m + 1 := ⟨k - 1, by omega⟩
    simp only [laws_toIntS.l0]; rw [if_neg (by omega)]
    rw [List.take_of_length_le (by omega), List.take_of_length_le (by omega)] at ht; rw [ht]
  | succ d ih =>
    intro k j x hx ht hj hd hk
    obtain ⟨k, rfl⟩ : ∃ m, k = m + 1 := ⟨k - 1, by omega⟩
    simp only [laws_toIntS.l0]; rw [if_pos (by omega), if_pos (by omega), if_pos (by omega), wrap_next (n := l.length) (by omega) hn, rd_at, Int.toNat_natCast]
    refine ih k (j + 1) _ (by rw [List.length_set]; exact hx) ?_ (by omega) (by omega) (by omega)
    rw [take_at l j (by omega), List.take_succ_eq_append_getElem (by rw [List.length_set]; omega), List.getElem_set_self, List.take_set_of_le (by omega), ht]

theorem toIntS_eq (l : List Int) (hn : l.length ≤ 17592186044416) (k : Nat) (hk : l.length < k) : laws_toIntS.f k l = some l := by
  unfold laws_toIntS.f
  rw [if_pos (by omega), Int.toNat_natCast, if_pos (by omega)]
  exact toIntS_loop l (by omega) l.length k 0 _ (by simp) (by simp) (by omega) (by omega) hk

theorem eqIntS_loop (a b : List Int) (hn : a.length ≤ 140737488351232) (hab : a.length = b.length) (d : Nat) : ∀ (k j : Nat), j ≤ a.length → a.length - j = d → d < k →
    laws_eqIntS.l0 k a b j = some (decide (a.drop j = b.drop j)) := by
  induction d with
  | zero =>
    intro k j hj hd hk
    obtain ⟨k, rfl⟩ : ∃ m, k = m + 1 := ⟨k - 1, by omega⟩
    simp only [laws_eqIntS.l0]; rw [if_neg (by omega), List.drop_of_length_le (by omega), List.drop_of_length_le (by omega)]; simp
  | succ d ih =>
    intro k j hj hd hk
    obtain ⟨k, rfl⟩ : ∃ m, k = m + 1 := ⟨k - 1, by omega⟩
    simp only [laws_eqIntS.l0]; rw [if_pos (by omega), if_pos (by omega), if_pos (by omega), wrap_next (n := a.length) (by omega) hn, rd_at, rd_at, drop_at a j (by omega), drop_at b j (by omega)]
    by_cases h : a.getD j 0 = b.getD j 0
    · rw [if_pos h, ih k (j + 1) (by omega) (by omega) (by omega)]; simp only [List.cons.injEq, h, true_and]
    · rw [if_neg h]; simp only [List.cons.injEq, h, false_and, decide_false]

theorem eqIntS_eq (a b : List Int) (hn : a.length ≤ 140737488351232) (k : Nat) (hk : a.length < k) : laws_eqIntS.f k a b = some (decide (a = b)) := by
  unfold laws_eqIntS.f
  by_cases h : a.length = b.length
  · rw [if_pos (by omega)]
    have := eqIntS_loop a b hn h a.length k 0 (by omega) (by omega) hk
    simpa using this
  · rw [if_neg (by omega), decide_eq_false (fun e => h (by rw [e]))]

theorem eqIntS_self (a : List Int) (hn : a.length ≤ 140737488351232) (k : Nat) (hk : a.length < k) : laws_eqIntS.f k a a = some true := by
  rw [eqIntS_eq a a hn k hk]; simp

/-- the numbers v, v + 1, .. -/
def run (v : Int) : Nat → List Int
  | 0 => []
  | n + 1 => v :: run (v + 1) n

theorem run_length (n : Nat) : ∀ v, (run v n).length = n := by
  induction n with
  | zero => intro v; rfl
  | succ n ih => intro v; simp [run, ih]

theorem markIntS_loop (d : Nat) : ∀ (k j : Nat) (v : Int) (l : List Int), l.length ≤ 140737488351232 → 0 ≤ v → v + d ≤ 1000000000000000000 → j ≤ l.length → l.length - j = d → d < k →
    laws_markIntS.l0 k l v j = some (v + d, l.take j ++ run v d) := by
  induction d with
  | zero =>
    intro k j v l hn hv0 hv1 hj hd hk
    obtain ⟨k, rfl⟩ : ∃ m, k = m + 1 := ⟨k - 1, by omega⟩
    simp only [laws_markIntS.l0]; rw [if_neg (by omega), List.take_of_length_le (by omega)]; simp [run]
  | succ d ih =>
    intro k j v l hn hv0 hv1 hj hd hk
    obtain ⟨k, rfl⟩ : ∃ m, k = m + 1 := ⟨k - 1, by omega⟩
    simp only [laws_markIntS.l0]; rw [if_pos (by omega), if_pos (by omega), wrap_next (n := l.length) (by omega) hn, wrap_small (x := v + 1) (by omega) (by omega), Int.toNat_natCast]
    rw [ih k (j + 1) (v + 1) (l.set j v) (by rw [List.length_set]; exact hn) (by omega) (by omega) (by rw [List.length_set]; omega) (by rw [List.length_set]; omega) (by omega)]
    congr 2
    · omega
    · rw [List.take_succ_eq_append_getElem (by rw [List.length_set]; omega), List.getElem_set_self, List.take_set_of_le (by omega)]; simp [run]

theorem markIntS_eq (l : List Int) (v : Int) (hn : l.length ≤ 140737488351232) (hv0 : 0 ≤ v) (hv1 : v ≤ 500000000000000000) (k : Nat) (hk : l.length < k) :
    laws_markIntS.f k l v = some (v + l.length, run v l.length) := by
  unfold laws_markIntS.f
  have := markIntS_loop l.length k 0 v l hn hv0 (by omega) (by omega) (by omega) hk
  simpa using this

theorem heldIntS_loop (d : Nat) : ∀ (k : Nat) (v : Int) (p : List Int), p.length + d ≤ 140737488351232 → 0 ≤ v → v + d ≤ 1000000000000000000 → d < k →
    laws_heldIntS.l0 k (p ++ run v d) v p.length = some (v + d) := by
  induction d with
  | zero =>
    intro k v p hn hv0 hv1 hk
    obtain ⟨k, rfl⟩ : ∃ m, k = m + 1 := ⟨k - 1, by omega⟩
    simp only [laws_heldIntS.l0]; rw [if_neg (by simp [run])]; simp
  | succ d ih =>
    intro k v p hn hv0 hv1 hk
    obtain ⟨k, rfl⟩ : ∃ m, k = m + 1 := ⟨k - 1, by omega⟩
    have hl : (p ++ run v (d + 1)).length = p.length + (d + 1) := by rw [List.length_append, run_length]
    have hg : (p ++ run v (d + 1)).getD p.length 0 = v := by simp [run]
    simp only [laws_heldIntS.l0]; rw [if_pos (by omega), if_pos (by omega), rd_at, hg, if_pos rfl, wrap_next (n := p.length + (d + 1)) (by omega) hn, wrap_small (x := v + 1) (by omega) (by omega)]
    have := ih k (v + 1) (p ++ [v]) (by simp; omega) (by omega) (by omega) (by omega)
    simp only [List.append_assoc, List.length_append, List.length_singleton, List.singleton_append] at this
    rw [show run v (d + 1) = v :: run (v + 1) d from rfl, this]
    congr 1; omega

theorem heldIntS_eq (v : Int) (n : Nat) (hn : n ≤ 140737488351232) (hv0 : 0 ≤ v) (hv1 : v ≤ 500000000000000000) (k : Nat) (hk : n < k) :
    laws_heldIntS.f k (run v n) v = some (v + n) := by
  unfold laws_heldIntS.f
  have := heldIntS_loop n k v [] (by simpa using hn) hv0 (by omega) hk
  simpa using this

theorem in_eq (a b c : Int) : impl_in.f a b c = some (decide (b ≤ a ∧ a ≤ c)) := by
  unfold impl_in.f
  by_cases h : a ≥ b
  · rw [if_pos h]; congr 1; simp only [decide_eq_decide]; omega
  · rw [if_neg h, decide_eq_false (by omega)]
theorem l1In_eq (a b c : Int) : spec_l1In.f a b c = some (decide (b ≤ a ∧ a ≤ c)) := by
  unfold spec_l1In.f
  by_cases h : a ≥ b
  · rw [if_pos h]; congr 1; simp only [decide_eq_decide]; omega
  · rw [if_neg h, decide_eq_false (by omega)]

/-- element j lies in 0..q and is above the one ahead of it -/
def riseOk (l : List Int) (q : Int) (j : Nat) : Bool := decide (0 ≤ l.getD j 0 ∧ l.getD j 0 ≤ q ∧ (0 < j → l.getD (j - 1) 0 < l.getD j 0))
def riseFrom (l : List Int) (q : Int) (j : Nat) : Nat → Bool
  | 0 => true
  | d + 1 => riseOk l q j && riseFrom l q (j + 1) d

theorem rise_round (l : List Int) (q : Int) (j : Nat) (x : Option Bool) (hn : l.length ≤ 1048576) (hj : j < l.length) :
    ((some (decide (0 ≤ l.getD j 0 ∧ l.getD j 0 ≤ q)) : Option Bool).bind fun t => (if t = true then (if (j : Int) > 0 then (if 0 ≤ (wrap64 ((j : Int) - 1)) then (if (wrap64 ((j : Int) - 1)) < (l.length : Int) then (if (rd l (wrap64 ((j : Int) - 1))) ≥ l.getD j 0 then (some false) else x) else (none)) else (none)) else x) else (some false)))
      = if riseOk l q j = true then x else some false := by
  simp only [Option.bind_some]
  by_cases h1 : 0 ≤ l.getD j 0 ∧ l.getD j 0 ≤ q
  · rw [decide_eq_true h1, if_pos rfl]
    by_cases h2 : (j : Int) > 0
    · have e : wrap64 ((j : Int) - 1) = ((j - 1 : Nat) : Int) := by rw [wrap_small (by omega) (by omega)]; omega
      rw [if_pos h2, e, if_pos (by omega), if_pos (by omega), rd_at]
      by_cases h3 : l.getD (j - 1) 0 ≥ l.getD j 0
      · rw [if_pos h3, if_neg (by unfold riseOk; simp only [decide_eq_true_eq]; intro h; have := h.2.2 (by omega); omega)]
      · rw [if_neg h3, if_pos (by unfold riseOk; simp only [decide_eq_true_eq]; exact ⟨h1.1, h1.2, fun _ => by omega⟩)]
    · rw [if_neg h2, if_pos (by unfold riseOk; simp only [decide_eq_true_eq]; exact ⟨h1.1, h1.2, fun h => by omega⟩)]
  · rw [decide_eq_false h1, if_neg (by simp), if_neg (by unfold riseOk; simp only [decide_eq_true_eq]; exact fun h => h1 ⟨h.1, h.2.1⟩)]

theorem rising_loop (l : List Int) (b : Int) (hn : l.length ≤ 1048576) (d : Nat) : ∀ (k j : Nat), j ≤ l.length → l.length - j = d → d < k →
    impl_rising.l0 k l b l l.length j = some (riseFrom l (wrap64 (b - 1)) j d) := by
  induction d with
  | zero =>
    intro k j hj hd hk
    obtain ⟨k, rfl⟩ : ∃ m, k = m + 1 := ⟨k - 1, by omega⟩
    simp only [impl_rising.l0]; rw [if_neg (by omega)]; rfl
  | succ d ih =>
    intro k j hj hd hk
    obtain ⟨k, rfl⟩ : ∃ m, k = m + 1 := ⟨k - 1, by omega⟩
    simp only [impl_rising.l0]; rw [if_pos (by omega), if_pos (by omega), if_pos (by omega), in_eq, wrap_next (n := l.length) (by omega) (by omega), rd_at, rise_round l _ j _ hn (by omega), ih k (j + 1) (by omega) (by omega) (by omega)]
    simp only [riseFrom]
    cases riseOk l (wrap64 (b - 1)) j <;> simp

theorem rising_eq (l : List Int) (b : Int) (hn : l.length ≤ 1048576) (k : Nat) (hk : l.length < k) : impl_rising.f k l b = some (riseFrom l (wrap64 (b - 1)) 0 l.length) := by
  unfold impl_rising.f
  exact rising_loop l b hn l.length k 0 (by omega) (by omega) hk

theorem l3List_loop (l : List Int) (b : Int) (hn : l.length ≤ 1048576) (d : Nat) : ∀ (k j : Nat), j ≤ l.length → l.length - j = d → d < k →
    spec_l3List.l0 k l b l l.length j = some (riseFrom l (wrap64 (b - 1)) j d) := by
  induction d with
  | zero =>
    intro k j hj hd hk
    obtain ⟨k, rfl⟩ : ∃ m, k = m + 1 := ⟨k - 1, by omega⟩
    simp only [spec_l3List.l0]; rw [if_neg (by omega)]; rfl
  | succ d ih =>
    intro k j hj hd hk
    obtain ⟨k, rfl⟩ : ∃ m, k = m + 1 := ⟨k - 1, by omega⟩
    simp only [spec_l3List.l0]; rw [if_pos (by omega), if_pos (by omega), if_pos (by omega), l1In_eq, wrap_next (n := l.length) (by omega) (by omega), rd_at, rise_round l _ j _ hn (by omega), ih k (j + 1) (by omega) (by omega) (by omega)]
    simp only [riseFrom]
    cases riseOk l (wrap64 (b - 1)) j <;> simp

theorem l3List_eq (l : List Int) (b : Int) (hn : l.length ≤ 1048576) (k : Nat) (hk : l.length < k) : spec_l3List.f k l b = some (riseFrom l (wrap64 (b - 1)) 0 l.length) := by
  unfold spec_l3List.f
  exact l3List_loop l b hn l.length k 0 (by omega) (by omega) hk

theorem l1Has_loop (l : List Int) (x : Int) (hn : l.length ≤ 1048576) (d : Nat) : ∀ (k j : Nat), j ≤ l.length → l.length - j = d → d < k →
    spec_l1Has.l0 k x l l.length j = some (decide (x ∈ l.drop j)) := by
  induction d with
  | zero =>
    intro k j hj hd hk
    obtain ⟨k, rfl⟩ : ∃ m, k = m + 1 := ⟨k - 1, by omega⟩
    simp only [spec_l1Has.l0]; rw [if_neg (by omega), List.drop_of_length_le (by omega)]; simp
  | succ d ih =>
    intro k j hj hd hk
    obtain ⟨k, rfl⟩ : ∃ m, k = m + 1 := ⟨k - 1, by omega⟩
    simp only [spec_l1Has.l0]; rw [if_pos (by omega), if_pos (by omega), if_pos (by omega), wrap_next (n := l.length) (by omega) (by omega), rd_at, drop_at l j (by omega)]
    by_cases h : l.getD j 0 = x
    · rw [if_pos h, ← h]; simp
    · rw [if_neg h, ih k (j + 1) (by omega) (by omega) (by omega)]; congr 1; simp only [decide_eq_decide, List.mem_cons]
      constructor
      · exact .inr
      · rintro (h1 | h1)
        · exact absurd h1.symm h
        · exact h1

theorem l1Has_eq (l : List Int) (x : Int) (hn : l.length ≤ 1048576) (k : Nat) (hk : l.length < k) : spec_l1Has.f k l x = some (decide (x ∈ l)) := by
  unfold spec_l1Has.f
  have := l1Has_loop l x hn l.length k 0 (by omega) (by omega) hk
  simpa using this

theorem Index_loop (l : List Int) (x : Int) (hn : l.length ≤ 1048576) (d : Nat) : ∀ (k j : Nat), j ≤ l.length → l.length - j = d → d < k →
    ∃ r, slices_Index_int_int.l0 k l x l.length j = some r ∧ decide (r ≥ 0) = decide (x ∈ l.drop j) := by
  induction d with
  | zero =>
    intro k j hj hd hk
    obtain ⟨k, rfl⟩ : ∃ m, k = m + 1 := ⟨k - 1, by omega⟩
    refine ⟨-1, ?_, ?_⟩
    · simp only [slices_Index_int_int.l0]; rw [if_neg (by omega)]
    · rw [List.drop_of_length_le (by omega)]; simp
  | succ d ih =>
    intro k j hj hd hk
    obtain ⟨k, rfl⟩ : ∃ m, k = m + 1 := ⟨k - 1, by omega⟩
    by_cases h : x = l.getD j 0
    · refine ⟨j, ?_, ?_⟩
      · simp only [slices_Index_int_int.l0]; rw [if_pos (by omega), if_pos (by omega), if_pos (by omega), rd_at, if_pos h]
      · rw [drop_at l j (by omega), ← h, decide_eq_true (by omega)]; simp
    · obtain ⟨r, hr, hd2⟩ := ih k (j + 1) (by omega) (by omega) (by omega)
      refine ⟨r, ?_, ?_⟩
      · simp only [slices_Index_int_int.l0]; rw [if_pos (by omega), if_pos (by omega), if_pos (by omega), rd_at, if_neg h, wrap_next (n := l.length) (by omega) (by omega), hr]
      · rw [hd2, drop_at l j (by omega)]; simp only [decide_eq_decide, List.mem_cons]
        constructor
        · exact .inr
        · rintro (h1 | h1)
          · exact absurd h1 h
          · exact h1

theorem Contains_eq (l : List Int) (x : Int) (hn : l.length ≤ 1048576) (k : Nat) (hk : l.length < k) : slices_Contains_int_int.f k l x = some (decide (x ∈ l)) := by
  unfold slices_Contains_int_int.f slices_Index_int_int.f
  obtain ⟨r, hr, hd⟩ := Index_loop l x hn l.length k 0 (by omega) (by omega) hk
  rw [show (0 : Int) = ((0 : Nat) : Int) from rfl, hr]; simp only [Option.bind_some]
  rw [show ((0 : Nat) : Int) = 0 from rfl, hd]; simp

theorem rd52_at (l : List S52) (j : Nat) : rd_T52 l (j : Int) = l.getD j z52 := by unfold rd_T52; rw [Int.toNat_natCast]
theorem rd53_at (l : List S53) (j : Nat) : rd_T53 l (j : Int) = l.getD j z53 := by unfold rd_T53; rw [Int.toNat_natCast]
theorem takeS_at {α : Type} (z : α) (l : List α) (j : Nat) (h : j < l.length) : l.take (j + 1) = l.take j ++ [l.getD j z] := by
  rw [List.take_succ_eq_append_getElem h, List.getD_eq_getElem?_getD, List.getElem?_eq_getElem h]; rfl
theorem dropS_at {α : Type} (z : α) (l : List α) (j : Nat) (h : j < l.length) : l.drop j = l.getD j z :: l.drop (j + 1) := by
  rw [List.drop_eq_getElem_cons h, List.getD_eq_getElem?_getD, List.getElem?_eq_getElem h]; rfl
theorem getD_mem {α : Type} (z : α) (l : List α) (j : Nat) (h : j < l.length) : l.getD j z ∈ l := by
  rw [List.getD_eq_getElem?_getD, List.getElem?_eq_getElem h]; exact List.getElem_mem h
def ShortT (x : S53) : Prop := x.f1.length ≤ 1048576
def taskOf (x : S52) : S53 := ⟨x.f0, x.f1⟩
def tasks (l : List S52) : List S53 := l.map taskOf
theorem tasks_length (l : List S52) : (tasks l).length = l.length := by unfold tasks; rw [List.length_map]
theorem getD_tasks (l : List S52) (j : Nat) (h : j < l.length) : (tasks l).getD j z53 = taskOf (l.getD j z52) := by
  unfold tasks; rw [List.getD_eq_getElem?_getD, List.getElem?_map, List.getElem?_eq_getElem h, List.getD_eq_getElem?_getD, List.getElem?_eq_getElem h]; rfl
theorem szIntS_eq (l : List Int) (a : Int) (h0 : 0 ≤ a) (h1 : a ≤ 1048576) (hl : l.length ≤ 9223372036854775807) : laws_szIntS.f l a = some (if (l.length : Int) ≤ a then a - l.length else -1) := by
  unfold laws_szIntS.f; rw [wrap_small (by omega) (by omega)]
  by_cases h : (l.length : Int) ≤ a
  · rw [if_neg (by omega), if_pos h]
  · rw [if_pos (by omega), if_neg h]
theorem szTask_eq (n : Int) (y : List Int) (a : Int) (h0 : 0 ≤ a) (h1 : a ≤ 1048576) (hy : y.length ≤ 9223372036854775807) :
    ∃ r, laws_szTask.f n y a = some r ∧ (r < 0 ∨ (0 ≤ r ∧ r ≤ a ∧ y.length ≤ 1048576)) := by
  unfold laws_szTask.f
  rw [szIntS_eq y a h0 h1 hy]; simp only [Option.bind_some]
  by_cases h : (y.length : Int) ≤ a
  · rw [if_pos h, if_neg (by omega)]
    exact ⟨_, rfl, .inr ⟨by omega, by omega, by omega⟩⟩
  · rw [if_neg h, if_pos (by omega)]
    exact ⟨_, rfl, .inl (by omega)⟩
theorem szTaskS_loop (l : List S52) (hn : l.length ≤ 1048576) (hy : ∀ y ∈ l, y.f1.length ≤ 9223372036854775807) (d : Nat) : ∀ (k j : Nat) (a : Int), 0 ≤ a → a ≤ 1048576 → j ≤ l.length → l.length - j = d → d < k →
    ∃ r, laws_szTaskS.l0 k l a j = some r ∧ (r < 0 ∨ (0 ≤ r ∧ ∀ i, j ≤ i → i < l.length → ShortT (taskOf (l.getD i z52)))) := by
  induction d with
  | zero =>
    intro k j a h0 h1 hj hd hk
    obtain ⟨k, rfl⟩ : ∃ m, k = m + 1 := ⟨k - 1, by omega⟩
    simp only [laws_szTaskS.l0]; rw [if_neg (by omega)]
    exact ⟨a, rfl, .inr ⟨h0, fun i hi hil => by omega⟩⟩
  | succ d ih =>
    intro k j a h0 h1 hj hd hk
    obtain ⟨k, rfl⟩ : ∃ m, k = m + 1 := ⟨k - 1, by omega⟩
    simp only [laws_szTaskS.l0]; rw [if_pos (by omega), if_pos (by omega), wrap_next (n := l.length) (by omega) (by omega), rd52_at]
    have hm := hy _ (getD_mem z52 l j (by omega))
    obtain ⟨r, hr, hc⟩ := szTask_eq (l.getD j z52).f0 (l.getD j z52).f1 a h0 h1 hm
    rw [hr]; simp only [Option.bind_some]
    rcases hc with hc | ⟨hc, hc2, hy2⟩
    · rw [if_pos hc]; exact ⟨_, rfl, .inl (by omega)⟩
    · rw [if_neg (by omega)]
      obtain ⟨r2, hr2, hc3⟩ := ih k (j + 1) r hc (by omega) (by omega) (by omega) (by omega)
      refine ⟨r2, hr2, ?_⟩
      rcases hc3 with hc3 | ⟨hc3, hs⟩
      · exact .inl hc3
      · refine .inr ⟨hc3, fun i hi hil => ?_⟩
        by_cases e : i = j
        · subst e; exact hy2
        · exact hs i (by omega) hil
theorem szTaskS_eq (l : List S52) (hl : l.length ≤ 9223372036854775807) (hy : ∀ y ∈ l, y.f1.length ≤ 9223372036854775807) (k : Nat) (hk : 1048576 < k) :
    ∃ r, laws_szTaskS.f k l 1048576 = some r ∧ (r < 0 ∨ (0 ≤ r ∧ l.length ≤ 1048576 ∧ ∀ x ∈ tasks l, ShortT x)) := by
  unfold laws_szTaskS.f
  rw [wrap_small (by omega) (by omega)]
  by_cases h : (1048576 : Int) - (l.length : Int) < 0
  · rw [if_pos h]; exact ⟨_, rfl, .inl (by omega)⟩
  · rw [if_neg h]
    obtain ⟨r, hr, hc⟩ := szTaskS_loop l (by omega) hy l.length k 0 (1048576 - (l.length : Int)) (by omega) (by omega) (by omega) (by omega) (by omega)
    rw [show ((0 : Nat) : Int) = 0 from rfl] at hr
    rw [hr]
    rcases hc with hc | ⟨hc, hs⟩
    · exact ⟨_, rfl, .inl (by omega)⟩
    · refine ⟨_, rfl, .inr ⟨hc, by omega, fun x hx => ?_⟩⟩
      unfold tasks at hx
      obtain ⟨y, hym, rfl⟩ := List.mem_map.1 hx
      obtain ⟨i, hi, rfl⟩ := List.getElem_of_mem hym
      have := hs i (by omega) hi
      rwa [List.getD_eq_getElem?_getD, List.getElem?_eq_getElem hi] at this
theorem toTaskS_loop (l : List S52) (hn : l.length ≤ 1048576) (hs : ∀ x ∈ tasks l, ShortT x) (d : Nat) : ∀ (k j : Nat) (x : List S53), x.length = l.length → x.take j = (tasks l).take j → j ≤ l.length → l.length - j = d → d + 1048576 < k →
    laws_toTaskS.l0 k l x j = some (tasks l) := by
  induction d with
  | zero =>
    intro k j x hx ht hj hd hk
    obtain ⟨k, rfl⟩ : ∃ m, k = m + 1 := ⟨k - 1, by omega⟩
    simp only [laws_toTaskS.l0]; rw [if_neg (by omega)]
    rw [List.take_of_length_le (by omega), List.take_of_length_le (by rw [tasks_length]; omega)] at ht; rw [ht]
  | succ d ih =>
    intro k j x hx ht hj hd hk
    obtain ⟨k, rfl⟩ : ∃ m, k = m + 1 := ⟨k - 1, by omega⟩
    have hm : ShortT (taskOf (l.getD j z52)) := by rw [← getD_tasks l j (by omega)]; exact hs _ (getD_mem z53 _ j (by rw [tasks_length]; omega))
    have h1 : (l.getD j z52).f1.length ≤ 1048576 := hm
    simp only [laws_toTaskS.l0]; rw [if_pos (by omega), if_pos (by omega), rd52_at]
    simp only [laws_toTask.f]; rw [toIntS_eq _ (by omega) k (by omega)]; simp only [Option.bind_some]
    rw [if_pos (by omega), wrap_next (n := l.length) (by omega) (by omega), Int.toNat_natCast]
    refine ih k (j + 1) _ (by rw [List.length_set]; exact hx) ?_ (by omega) (by omega) (by omega)
    rw [takeS_at z53 (tasks l) j (by rw [tasks_length]; omega), List.take_succ_eq_append_getElem (by rw [List.length_set]; omega), List.getElem_set_self, List.take_set_of_le (by omega), ht, getD_tasks l j (by omega)]; rfl
theorem toTaskS_eq (l : List S52) (hn : l.length ≤ 1048576) (hs : ∀ x ∈ tasks l, ShortT x) (k : Nat) (hk : 2097152 < k) : laws_toTaskS.f k l = some (tasks l) := by
  unfold laws_toTaskS.f
  rw [if_pos (by omega), Int.toNat_natCast, if_pos (by omega)]
  have := toTaskS_loop l hn hs l.length k 0 (List.replicate l.length z53) (by simp) (by simp) (by omega) (by omega) (by omega)
  rw [show ((0 : Nat) : Int) = 0 from rfl] at this
  exact this
theorem eqTaskS_loop (a : List S53) (hn : a.length ≤ 1048576) (hs : ∀ x ∈ a, ShortT x) (d : Nat) : ∀ (k j : Nat), j ≤ a.length → a.length - j = d → d + 1048576 < k →
    laws_eqTaskS.l0 k a a j = some true := by
  induction d with
  | zero =>
    intro k j hj hd hk
    obtain ⟨k, rfl⟩ : ∃ m, k = m + 1 := ⟨k - 1, by omega⟩
    simp only [laws_eqTaskS.l0]; rw [if_neg (by omega)]
  | succ d ih =>
    intro k j hj hd hk
    obtain ⟨k, rfl⟩ : ∃ m, k = m + 1 := ⟨k - 1, by omega⟩
    have h1 : (a.getD j z53).f1.length ≤ 1048576 := hs _ (getD_mem z53 a j (by omega))
    simp only [laws_eqTaskS.l0]; rw [if_pos (by omega), if_pos (by omega), if_pos (by omega), rd53_at]
    simp only [laws_eqTask.f, if_true]; rw [eqIntS_self _ (by omega) k (by omega)]; simp only [Option.bind_some, if_true]
    rw [wrap_next (n := a.length) (by omega) (by omega)]
    exact ih k (j + 1) (by omega) (by omega) (by omega)
theorem eqTaskS_self (a : List S53) (hn : a.length ≤ 1048576) (hs : ∀ x ∈ a, ShortT x) (k : Nat) (hk : 2097152 < k) : laws_eqTaskS.f k a a = some true := by
  unfold laws_eqTaskS.f
  rw [if_pos rfl]
  have := eqTaskS_loop a hn hs a.length k 0 (by omega) (by omega) (by omega)
  rw [show ((0 : Nat) : Int) = 0 from rfl] at this
  exact this

theorem tot53_bound (l : List S53) (hs : ∀ x ∈ l, ShortT x) : tot53 l ≤ l.length * 1048577 := by
  unfold tot53
  induction l with
  | nil => simp
  | cons x l ih =>
    have h1 : x.f1.length ≤ 1048576 := hs x List.mem_cons_self
    have h2 := ih (fun y hy => hs y (List.mem_cons_of_mem _ hy))
    simp only [List.map_cons, List.sum_cons, List.length_cons]
    omega

/-- task i is not out, and all that it needs is -/
def readyB (l : List S53) (out : List Int) (i : Nat) : Bool := !(decide ((i : Int) ∈ out)) && (l.getD i z53).f1.all (fun x => decide (x ∈ out))
/-- the first ready task from j on, d tasks long; -1 without one -/
def firstB (l : List S53) (out : List Int) : Nat → Nat → Int
  | 0, _ => -1
  | d + 1, j => if readyB l out j = true then (j : Int) else firstB l out d (j + 1)
theorem firstB_ge (l : List S53) (out : List Int) (d : Nat) : ∀ j, firstB l out d j = -1 ∨ ∃ i : Nat, firstB l out d j = i ∧ j ≤ i ∧ i < j + d ∧ readyB l out i = true ∧ ∀ m, j ≤ m → m < i → readyB l out m = false := by
  induction d with
  | zero => intro j; exact .inl rfl
  | succ d ih =>
    intro j
    simp only [firstB]
    by_cases h : readyB l out j = true
    · rw [if_pos h]; exact .inr ⟨j, rfl, Nat.le_refl _, by omega, h, fun m h1 h2 => by omega⟩
    · rw [if_neg h]
      rcases ih (j + 1) with h1 | ⟨i, h1, h2, h3, h4, h5⟩
      · exact .inl h1
      · refine .inr ⟨i, h1, by omega, by omega, h4, fun m h6 h7 => ?_⟩
        by_cases e : m = j
        · subst e; exact Bool.eq_false_iff.2 h
        · exact h5 m (by omega) h7
theorem firstB_none (l : List S53) (out : List Int) (d : Nat) : ∀ j, firstB l out d j = -1 → ∀ m, j ≤ m → m < j + d → readyB l out m = false := by
  induction d with
  | zero => intro j _ m h1 h2; omega
  | succ d ih =>
    intro j h m h1 h2
    simp only [firstB] at h
    by_cases hr : readyB l out j = true
    · rw [if_pos hr] at h; omega
    · rw [if_neg hr] at h
      by_cases e : m = j
      · subst e; exact Bool.eq_false_iff.2 hr
      · exact ih (j + 1) h m (by omega) (by omega)
/-- all needs lie in the plan -/
def NeedIn (l : List S53) : Prop := ∀ t ∈ l, ∀ x ∈ t.f1, 0 ≤ x ∧ x < l.length
/-- how many of the first numbers are out -/
def cntIn (out : List Int) : Nat → Nat
  | 0 => 0
  | n + 1 => cntIn out n + if (n : Int) ∈ out then 1 else 0
theorem cntIn_le (out : List Int) (n : Nat) : cntIn out n ≤ n := by
  induction n with
  | zero => exact Nat.le_refl _
  | succ n ih => simp only [cntIn]; split <;> omega
theorem cntIn_all (out : List Int) (n : Nat) (h : cntIn out n = n) : ∀ j : Nat, j < n → (j : Int) ∈ out := by
  induction n with
  | zero => intro j hj; omega
  | succ n ih =>
    intro j hj
    simp only [cntIn] at h
    have := cntIn_le out n
    by_cases hn : (n : Int) ∈ out
    · rw [if_pos hn] at h
      by_cases e : j = n
      · subst e; exact hn
      · exact ih (by omega) j (by omega)
    · rw [if_neg hn] at h; omega
theorem cntIn_add (out : List Int) (i : Nat) (hi : (i : Int) ∉ out) (n : Nat) : cntIn (out ++ [(i : Int)]) n = cntIn out n + if i < n then 1 else 0 := by
  induction n with
  | zero => simp [cntIn]
  | succ n ih =>
    simp only [cntIn, ih]
    have hmem : ((n : Int) ∈ out ++ [(i : Int)]) ↔ ((n : Int) ∈ out ∨ n = i) := by
      rw [List.mem_append, List.mem_singleton]
      constructor
      · rintro (h | h)
        · exact .inl h
        · exact .inr (by omega)
      · rintro (h | h)
        · exact .inl h
        · exact .inr (by omega)
    by_cases e : n = i
    · subst e
      rw [if_pos (hmem.2 (.inr rfl)), if_neg hi, if_neg (Nat.lt_irrefl n), if_pos (Nat.lt_succ_self n)]
    · by_cases h2 : (n : Int) ∈ out
      · rw [if_pos (hmem.2 (.inl h2)), if_pos h2]
        by_cases h3 : i < n
        · rw [if_pos h3, if_pos (show i < n + 1 by omega)]
        · rw [if_neg h3, if_neg (show ¬ i < n + 1 by omega)]
      · rw [if_neg (fun h => (hmem.1 h).elim h2 e), if_neg h2]
        by_cases h3 : i < n
        · rw [if_pos h3, if_pos (show i < n + 1 by omega)]
        · rw [if_neg h3, if_neg (show ¬ i < n + 1 by omega)]
/-- what stands out so far: each behind all that it needs -/
structure OutOK (l : List S53) (out : List Int) : Prop where
  rng : ∀ x ∈ out, 0 ≤ x ∧ x < l.length
  cnt : cntIn out l.length = out.length
  topo : ∀ (a b : List Int) (x : Int), out = a ++ x :: b → x ∉ a ∧ ∀ y ∈ (l.getD x.toNat z53).f1, y ∈ a
theorem OutOK.nil (l : List S53) : OutOK l [] := ⟨by simp, by
  have : ∀ n, cntIn [] n = 0 := by intro n; induction n with
    | zero => rfl
    | succ n ih => simp [cntIn, ih]
  simp [this], fun a b x h => by simp at h⟩
theorem OutOK.snoc {l : List S53} {out : List Int} (h : OutOK l out) {i : Nat} (hi : i < l.length) (hr : readyB l out i = true) : OutOK l (out ++ [(i : Int)]) := by
  unfold readyB at hr
  simp only [Bool.and_eq_true, Bool.not_eq_true', decide_eq_false_iff_not, List.all_eq_true, decide_eq_true_eq] at hr
  refine ⟨fun x hx => ?_, ?_, fun a b x hab => ?_⟩
  · rcases List.mem_append.1 hx with hx | hx
    · exact h.rng x hx
    · rw [List.mem_singleton.1 hx]; omega
  · rw [cntIn_add out i hr.1, if_pos hi, h.cnt, List.length_append]; rfl
  · rcases List.eq_nil_or_concat b with rfl | ⟨b', z, rfl⟩
    · have := List.append_inj' hab rfl
      obtain ⟨rfl, h2⟩ := this
      simp only [List.cons.injEq, and_true] at h2
      subst h2
      rw [Int.toNat_natCast]
      exact ⟨hr.1, hr.2⟩
    · rw [List.concat_eq_append, show a ++ x :: (b' ++ [z]) = (a ++ x :: b') ++ [z] by simp] at hab
      have := List.append_inj' hab rfl
      exact h.topo a b' x this.1
theorem OutOK.len {l : List S53} {out : List Int} (h : OutOK l out) : out.length ≤ l.length := by
  rw [← h.cnt]; exact cntIn_le _ _
theorem OutOK.full {l : List S53} {out : List Int} (h : OutOK l out) (hl : out.length = l.length) : ∀ j : Nat, j < l.length → (j : Int) ∈ out := cntIn_all out l.length (by rw [h.cnt, hl])
theorem OutOK.stop {l : List S53} {out : List Int} (h : OutOK l out) (hl : out.length = l.length) : firstB l out l.length 0 = -1 := by
  rcases firstB_ge l out l.length 0 with h1 | ⟨i, h1, _, h3, h4, _⟩
  · exact h1
  · have := h.full hl i (by omega)
    unfold readyB at h4
    rw [decide_eq_true this] at h4
    cases h4
/-- the program's flags are what stands out -/
def Flags (l : List S53) (out : List Int) (done : List Bool) : Prop := done.length = l.length ∧ ∀ i : Nat, i < l.length → done.getD i false = decide ((i : Int) ∈ out)
theorem rdOf_at {α : Type} (d : α) (xs : List α) (j : Nat) : rdOf d xs (j : Int) = xs.getD j d := by unfold rdOf; rw [Int.toNat_natCast]
theorem find_first {l : List S53} (hn : NeedIn l) {out : List Int} {done : List Bool} (hf : Flags l out done) (d : Nat) : ∀ j, j ≤ l.length → l.length - j = d → findGo done (l.drop j) j = some (firstB l out d j) := by
  induction d with
  | zero =>
    intro j hj hd
    rw [List.drop_of_length_le (by omega)]; rfl
  | succ d ih =>
    intro j hj hd
    have hjl : j < l.length := by omega
    rw [dropS_at z53 l j hjl]
    simp only [findGo, firstB]
    rw [rdOf_at, hf.2 j hjl]
    have hin : ∀ x ∈ (l.getD j z53).f1, 0 ≤ x ∧ x < (done.length : Int) := fun x hx => by rw [hf.1]; exact hn _ (getD_mem z53 l j hjl) x hx
    have hany : needAny done (l.getD j z53).f1 = some (!((l.getD j z53).f1.all fun x => decide (x ∈ out))) := by
      unfold needAny
      rw [if_pos hin]
      congr 1
      rw [List.not_all_eq_any_not]
      apply Bool.eq_iff_iff.2
      simp only [List.any_eq_true]
      constructor
      · rintro ⟨x, hx, h⟩
        have h2 := hin x hx
        obtain ⟨i, rfl⟩ := Int.eq_ofNat_of_zero_le h2.1
        rw [rdOf_at, hf.2 i (by rw [← hf.1]; omega)] at h
        exact ⟨_, hx, h⟩
      · rintro ⟨x, hx, h⟩
        have h2 := hin x hx
        obtain ⟨i, rfl⟩ := Int.eq_ofNat_of_zero_le h2.1
        refine ⟨_, hx, ?_⟩
        rw [rdOf_at, hf.2 i (by rw [← hf.1]; omega)]
        exact h
    rw [hany, ih (j + 1) (by omega) (by omega)]
    by_cases e : (j : Int) ∈ out
    · have hr : ¬ readyB l out j = true := by unfold readyB; rw [decide_eq_true e]; simp
      rw [if_pos (decide_eq_true e), if_neg hr]
    · rw [if_neg (by rw [decide_eq_false e]; simp)]
      simp only [Option.bind_some]
      by_cases h : ((l.getD j z53).f1.all fun x => decide (x ∈ out)) = true
      · have hr : readyB l out j = true := by unfold readyB; rw [h, decide_eq_false e]; rfl
        rw [if_neg (by rw [h]; simp), if_pos hr]
      · rw [Bool.not_eq_true] at h
        have hr : ¬ readyB l out j = true := by unfold readyB; rw [h]; simp
        rw [if_pos (by rw [h]; rfl), if_neg hr]
theorem Flags.snoc {l : List S53} {out : List Int} {done : List Bool} (hf : Flags l out done) {i : Nat} (hi : i < l.length) : Flags l (out ++ [(i : Int)]) (done.set i true) := by
  refine ⟨by rw [List.length_set]; exact hf.1, fun j hj => ?_⟩
  rw [List.getD_eq_getElem?_getD, List.getElem?_set]
  by_cases e : i = j
  · subst e
    rw [if_pos rfl, if_pos (by rw [hf.1]; exact hi)]
    simp
  · rw [if_neg e, ← List.getD_eq_getElem?_getD, hf.2 j hj]
    simp only [decide_eq_decide, List.mem_append, List.mem_singleton]
    constructor
    · exact .inl
    · rintro (h | h)
      · exact h
      · omega
theorem spec_order_l2 {l : List S53} (hl : l.length ≤ 1000) {out : List Int} (hlen : out.length < l.length) (i : Nat) (hi : i < l.length) (hs : (l.getD i z53).f1.length ≤ 1048576) (r : List Int × Bool) (b : Nat) : ∀ (j : Nat) (rd : Bool), j ≤ (l.getD i z53).f1.length → (l.getD i z53).f1.length - j = b →
        ((rd && ((l.getD i z53).f1.drop j).all fun x => decide (x ∈ out)) = true → Ev (fun k => spec_l4Order.l0 k l (out ++ [(i : Int)])) r) →
        ((rd && ((l.getD i z53).f1.drop j).all fun x => decide (x ∈ out)) = false → Ev (fun k => spec_l4Order.l1 k l out (-1) l l.length ((i + 1 : Nat) : Int)) r) →
        Ev (fun k => spec_l4Order.l2 k l out (-1) i rd l l.length i (l.getD i z53).f1 (l.getD i z53).f1.length j) r := by
  induction b with
  | zero =>
    intro j rd hj hb h1 h2
    rw [List.drop_of_length_le (by omega)] at h1 h2
    simp only [List.all_nil, Bool.and_true] at h1 h2
    cases rd with
    | true =>
      refine Ev.step (fun k => ?_) (h1 rfl)
      simp only [spec_l4Order.l2]
      rw [if_neg (by omega)]; simp only [if_true]; rw [if_neg (by omega), if_pos (by omega)]
    | false =>
      refine Ev.step (fun k => ?_) (h2 rfl)
      simp only [spec_l4Order.l2]
      rw [if_neg (by omega), if_neg (by decide), wrap_next hi (by omega)]
  | succ b ihb =>
    intro j rd hj hb h1 h2
    have hjl : j < (l.getD i z53).f1.length := by omega
    rw [drop_at _ j hjl, List.all_cons] at h1 h2
    cases rd with
    | true =>
      simp only [Bool.true_and] at h1 h2
      obtain ⟨K, hK⟩ := ihb (j + 1) (decide ((l.getD i z53).f1.getD j 0 ∈ out)) (by omega) (by omega) h1 h2
      refine ⟨K + l.length + 2, fun k hk => ?_⟩
      obtain ⟨k, rfl⟩ : ∃ m, k = m + 1 := ⟨k - 1, by omega⟩
      simp only [spec_l4Order.l2]
      rw [if_pos (by omega), if_pos (by omega), if_pos (by omega)]; simp only [if_true]; rw [rd_at, l1Has_eq out _ (by omega) k (by omega)]
      simp only [Option.bind_some]
      rw [wrap_next hjl (by omega)]
      exact hK k (by omega)
    | false =>
      simp only [Bool.false_and] at h1 h2
      have := ihb (j + 1) false (by omega) (by omega) (fun h => by simp at h) (fun _ => h2 trivial)
      refine Ev.step (fun k => ?_) this
      simp only [spec_l4Order.l2]
      rw [if_pos (by omega), if_pos (by omega), if_pos (by omega), if_neg (by decide), wrap_next hjl (by omega)]
theorem spec_order_l1 {l : List S53} (hl : l.length ≤ 1000) (hs : ∀ x ∈ l, ShortT x) {out : List Int} (hlen : out.length < l.length) (r : List Int × Bool) (b : Nat) : ∀ (j : Nat), j ≤ l.length → l.length - j = b →
    (∀ i : Nat, firstB l out b j = i → Ev (fun k => spec_l4Order.l0 k l (out ++ [(i : Int)])) r) → (firstB l out b j = -1 → r = ([], false)) → Ev (fun k => spec_l4Order.l1 k l out (-1) l l.length j) r := by
  induction b with
  | zero =>
    intro j hj hb h1 h2
    rw [h2 rfl]
    refine Ev.step (f := fun _ => some ([], false)) (fun k => ?_) (Ev.now _)
    simp only [spec_l4Order.l1]
    rw [if_neg (by omega), if_pos (by decide)]
  | succ b ih =>
    intro j hj hb h1 h2
    have hjl : j < l.length := by omega
    simp only [firstB] at h1 h2
    have hsj : (l.getD j z53).f1.length ≤ 1048576 := hs _ (getD_mem z53 l j hjl)
    have hin := spec_order_l2 hl hlen j hjl hsj r (l.getD j z53).f1.length 0 (!(decide ((j : Int) ∈ out))) (by omega) (by omega)
      (fun h => by
        rw [List.drop_zero] at h
        exact h1 j (by rw [if_pos (show readyB l out j = true from h)]))
      (fun h => by
        rw [List.drop_zero] at h
        have hr : ¬ readyB l out j = true := by unfold readyB; rw [h]; decide
        rw [if_neg hr] at h1 h2
        exact ih (j + 1) (by omega) (by omega) h1 h2)
    obtain ⟨K, hK⟩ := hin
    refine ⟨K + l.length + 2, fun k hk => ?_⟩
    obtain ⟨k, rfl⟩ : ∃ m, k = m + 1 := ⟨k - 1, by omega⟩
    simp only [spec_l4Order.l1]
    rw [if_pos (by omega), if_pos (by omega), if_pos (by omega), l1Has_eq out _ (by omega) k (by omega), rd53_at]
    simp only [Option.bind_some]
    exact hK k (by omega)
/-- where the order ends -/
theorem order_go {l : List S53} (hn : NeedIn l) (hl : l.length ≤ 1000) (hs : ∀ x ∈ l, ShortT x) (d : Nat) : ∀ (out : List Int) (done : List Bool), OutOK l out → Flags l out done → l.length - out.length = d →
    ∃ O, OutOK l O ∧ firstB l O l.length 0 = -1 ∧ (∀ q, d < q → ordGo l q out done = some O) ∧ (∃ t, O = out ++ t) ∧
      ∀ r, (O.length = l.length → r = (O, true)) → (O.length ≠ l.length → r = ([], false)) → Ev (fun k => spec_l4Order.l0 k l out) r := by
  induction d with
  | zero =>
    intro out done ho hf hd
    have hlen : out.length = l.length := by have := ho.len; omega
    refine ⟨out, ho, ho.stop hlen, fun q hq => ?_, ⟨[], by simp⟩, fun r h1 h2 => ?_⟩
    · obtain ⟨q, rfl⟩ : ∃ m, q = m + 1 := ⟨q - 1, by omega⟩
      simp only [ordGo]
      have := find_first hn hf l.length 0 (by omega) (by omega)
      rw [List.drop_zero] at this
      rw [this, ho.stop hlen]; rfl
    · rw [h1 hlen]
      refine Ev.step (f := fun _ => some (out, true)) (fun k => ?_) (Ev.now _)
      simp only [spec_l4Order.l0]
      rw [if_neg (by omega)]
  | succ d ih =>
    intro out done ho hf hd
    have hlen : out.length < l.length := by omega
    have hfind := find_first hn hf l.length 0 (by omega) (by omega)
    rw [List.drop_zero] at hfind
    rcases firstB_ge l out l.length 0 with h1 | ⟨i, h1, _, h3, h4, _⟩
    · refine ⟨out, ho, h1, fun q hq => ?_, ⟨[], by simp⟩, fun r _ h2 => ?_⟩
      · obtain ⟨q, rfl⟩ : ∃ m, q = m + 1 := ⟨q - 1, by omega⟩
        simp only [ordGo]
        rw [show findGo done l 0 = _ from hfind, h1]; rfl
      · have h5 := spec_order_l1 hl hs hlen r l.length 0 (by omega) (by omega) (fun i hi => by rw [h1] at hi; omega) (fun _ => h2 (by omega))
        refine Ev.step (fun k => ?_) h5
        simp only [spec_l4Order.l0]
        rw [if_pos (by omega)]; rfl
    · have hil : i < l.length := by omega
      obtain ⟨O, hO1, hO2, hO3, ⟨t, hO4⟩, hO5⟩ := ih (out ++ [(i : Int)]) (done.set i true) (ho.snoc hil h4) (hf.snoc hil) (by rw [List.length_append]; simp; omega)
      refine ⟨O, hO1, hO2, fun q hq => ?_, ⟨[(i : Int)] ++ t, by rw [hO4]; simp⟩, fun r hr1 hr2 => ?_⟩
      · obtain ⟨q, rfl⟩ : ∃ m, q = m + 1 := ⟨q - 1, by omega⟩
        simp only [ordGo]
        rw [show findGo done l 0 = _ from hfind, h1]; simp only [Option.bind_some]
        rw [if_neg (by omega), if_pos (by omega), Int.toNat_natCast]
        exact hO3 q (by omega)
      · have h5 := spec_order_l1 hl hs hlen r l.length 0 (by omega) (by omega) (fun i' hi' => by
          rw [h1] at hi'
          have : i = i' := by omega
          subst this
          exact hO5 r hr1 hr2) (fun h => by rw [h1] at h; omega)
        refine Ev.step (fun k => ?_) h5
        simp only [spec_l4Order.l0]
        rw [if_pos (by omega)]; rfl
theorem order_both {l : List S53} (hn : NeedIn l) (hl : l.length ≤ 1000) (hs : ∀ x ∈ l, ShortT x) : ∃ O, OutOK l O ∧ firstB l O l.length 0 = -1 ∧ (∀ k, l.length < k → impl_order.f k l = some O) ∧ Ev (fun k => spec_l4Order.f k l) (if O.length = l.length then (O, true) else ([], false)) := by
  obtain ⟨O, h1, h2, h3, _, h5⟩ := order_go hn hl hs l.length [] (List.replicate l.length false) (OutOK.nil l) ⟨List.length_replicate, fun i hi => by simp [List.getD_eq_getElem?_getD, hi]⟩ (by simp)
  refine ⟨O, h1, h2, fun k hk => ?_, ?_⟩
  · unfold impl_order.f
    rw [if_pos (by omega)]
    exact h3 k hk
  · have := h5 (if O.length = l.length then (O, true) else ([], false)) (fun h => by rw [if_pos h]) (fun h => by rw [if_neg h])
    exact this

def taskOk (n : Nat) (i : Nat) (t : S53) : Bool := decide (1 ≤ t.f0 ∧ t.f0 ≤ 100) && (riseFrom t.f1 (wrap64 ((n : Int) - 1)) 0 t.f1.length && !(decide ((i : Int) ∈ t.f1)))
def tasksOk (l : List S53) (d : Nat) : Nat → Bool := fun j => (List.range d).all fun m => taskOk l.length (j + m) (l.getD (j + m) z53)
def tasksFrom (l : List S53) : Nat → Nat → Bool
  | 0, _ => true
  | d + 1, j => taskOk l.length j (l.getD j z53) && tasksFrom l d (j + 1)
theorem tasksFrom_all (l : List S53) (d : Nat) : ∀ j, tasksFrom l d j = true → ∀ i, j ≤ i → i < j + d → taskOk l.length i (l.getD i z53) = true := by
  induction d with
  | zero => intro j _ i h1 h2; omega
  | succ d ih =>
    intro j h i h1 h2
    simp only [tasksFrom, Bool.and_eq_true] at h
    by_cases e : i = j
    · subst e; exact h.1
    · exact ih (j + 1) h.2 i (by omega) (by omega)
theorem spec_plan_loop (l : List S53) (hn : l.length ≤ 30) (hs : ∀ x ∈ l, ShortT x) (d : Nat) : ∀ (j : Nat), j ≤ l.length → l.length - j = d → ∀ r : Bool,
    (tasksFrom l d j = false → r = false) → (tasksFrom l d j = true → ∃ p : List Int × Bool, p.2 = r ∧ Ev (fun k => spec_l4Order.f k l) p) → Ev (fun k => spec_GoodPlan.l0 k l l l.length j) r := by
  induction d with
  | zero =>
    intro j hj hd r h1 h2
    obtain ⟨p, rfl, h3⟩ := h2 rfl
    refine Ev.step (f := fun k => (spec_l4Order.f k l).bind fun b => some b.2) (fun k => ?_) (Ev.bind (f := fun _ b => some b.2) h3 (Ev.now p.2))
    simp only [spec_GoodPlan.l0]; rw [if_neg (by omega)]
  | succ d ih =>
    intro j hj hd r h1 h2
    have hjl : j < l.length := by omega
    have hsj : (l.getD j z53).f1.length ≤ 1048576 := hs _ (getD_mem z53 l j hjl)
    simp only [tasksFrom] at h1 h2
    have hrec : taskOk l.length j (l.getD j z53) = true → Ev (fun k => spec_GoodPlan.l0 k l l l.length ((j + 1 : Nat) : Int)) r := fun hk => by
      rw [hk, Bool.true_and] at h1 h2
      exact ih (j + 1) (by omega) (by omega) r h1 h2
    cases hk : taskOk l.length j (l.getD j z53) with
    | true =>
      obtain ⟨K, hK⟩ := hrec hk
      refine ⟨K + 1048580, fun k hkk => ?_⟩
      obtain ⟨k, rfl⟩ : ∃ m, k = m + 1 := ⟨k - 1, by omega⟩
      unfold taskOk at hk
      simp only [Bool.and_eq_true, Bool.not_eq_true'] at hk
      simp only [spec_GoodPlan.l0]
      rw [if_pos (by omega), if_pos (by omega), if_pos (by omega), rd53_at, l1In_eq, hk.1]; simp only [Option.bind_some, if_true]
      rw [l3List_eq _ _ hsj k (by omega), hk.2.1]; simp only [Option.bind_some, if_true]
      rw [l1Has_eq _ _ hsj k (by omega), hk.2.2]; simp only [Option.bind_some]
      rw [if_neg (by decide), wrap_next hjl (by omega)]
      exact hK k (by omega)
    | false =>
      rw [hk, Bool.false_and] at h1
      obtain rfl := h1 rfl
      refine ⟨1048580, fun k hkk => ?_⟩
      obtain ⟨k, rfl⟩ : ∃ m, k = m + 1 := ⟨k - 1, by omega⟩
      unfold taskOk at hk
      simp only [spec_GoodPlan.l0]
      rw [if_pos (by omega), if_pos (by omega), if_pos (by omega), rd53_at, l1In_eq]; simp only [Option.bind_some]
      by_cases c1 : 1 ≤ (l.getD j z53).f0 ∧ (l.getD j z53).f0 ≤ 100
      · rw [decide_eq_true c1, Bool.true_and] at hk
        rw [decide_eq_true c1, if_pos rfl, l3List_eq _ _ hsj k (by omega)]; simp only [Option.bind_some]
        cases c2 : riseFrom (l.getD j z53).f1 (wrap64 ((l.length : Int) - 1)) 0 (l.getD j z53).f1.length with
        | true =>
          rw [c2, Bool.true_and, Bool.not_eq_false'] at hk
          rw [if_pos rfl, l1Has_eq _ _ hsj k (by omega), hk]; simp
        | false => rw [if_neg (by decide)]
      · rw [decide_eq_false c1, if_neg (by decide)]
theorem impl_plan_loop (l : List S53) (hn : l.length ≤ 30) (hs : ∀ x ∈ l, ShortT x) (d : Nat) : ∀ (j : Nat), j ≤ l.length → l.length - j = d → ∀ r : Bool,
    (tasksFrom l d j = false → r = false) → (tasksFrom l d j = true → ∃ O : List Int, ((O.length : Int) == (l.length : Int)) = r ∧ Ev (fun k => impl_order.f k l) O) → Ev (fun k => impl_GoodPlan.l0 k l l l.length j) r := by
  induction d with
  | zero =>
    intro j hj hd r h1 h2
    obtain ⟨p, rfl, h3⟩ := h2 rfl
    refine Ev.step (f := fun k => (impl_order.f k l).bind fun b => some ((b.length : Int) == (l.length : Int))) (fun k => ?_) (Ev.bind (f := fun _ b => some ((b.length : Int) == (l.length : Int))) h3 (Ev.now _))
    simp only [impl_GoodPlan.l0]; rw [if_neg (by omega)]
  | succ d ih =>
    intro j hj hd r h1 h2
    have hjl : j < l.length := by omega
    have hsj : (l.getD j z53).f1.length ≤ 1048576 := hs _ (getD_mem z53 l j hjl)
    simp only [tasksFrom] at h1 h2
    have hrec : taskOk l.length j (l.getD j z53) = true → Ev (fun k => impl_GoodPlan.l0 k l l l.length ((j + 1 : Nat) : Int)) r := fun hk => by
      rw [hk, Bool.true_and] at h1 h2
      exact ih (j + 1) (by omega) (by omega) r h1 h2
    cases hk : taskOk l.length j (l.getD j z53) with
    | true =>
      obtain ⟨K, hK⟩ := hrec hk
      refine ⟨K + 1048580, fun k hkk => ?_⟩
      obtain ⟨k, rfl⟩ : ∃ m, k = m + 1 := ⟨k - 1, by omega⟩
      unfold taskOk at hk
      simp only [Bool.and_eq_true, Bool.not_eq_true'] at hk
      simp only [impl_GoodPlan.l0]
      rw [if_pos (by omega), if_pos (by omega), if_pos (by omega), rd53_at, in_eq, hk.1]; simp only [Option.bind_some, if_true]
      rw [rising_eq _ _ hsj k (by omega), hk.2.1]; simp only [Option.bind_some, if_true]
      rw [Contains_eq _ _ hsj k (by omega), hk.2.2]; simp only [Option.bind_some]
      rw [if_neg (by decide), wrap_next hjl (by omega)]
      exact hK k (by omega)
    | false =>
      rw [hk, Bool.false_and] at h1
      obtain rfl := h1 rfl
      refine ⟨1048580, fun k hkk => ?_⟩
      obtain ⟨k, rfl⟩ : ∃ m, k = m + 1 := ⟨k - 1, by omega⟩
      unfold taskOk at hk
      simp only [impl_GoodPlan.l0]
      rw [if_pos (by omega), if_pos (by omega), if_pos (by omega), rd53_at, in_eq]; simp only [Option.bind_some]
      by_cases c1 : 1 ≤ (l.getD j z53).f0 ∧ (l.getD j z53).f0 ≤ 100
      · rw [decide_eq_true c1, Bool.true_and] at hk
        rw [decide_eq_true c1, if_pos rfl, rising_eq _ _ hsj k (by omega)]; simp only [Option.bind_some]
        cases c2 : riseFrom (l.getD j z53).f1 (wrap64 ((l.length : Int) - 1)) 0 (l.getD j z53).f1.length with
        | true =>
          rw [c2, Bool.true_and, Bool.not_eq_false'] at hk
          rw [if_pos rfl, Contains_eq _ _ hsj k (by omega), hk]; simp
        | false => rw [if_neg (by decide)]
      · rw [decide_eq_false c1, if_neg (by decide)]
theorem rise_bound (l : List Int) (q : Int) (h : riseFrom l q 0 l.length = true) : ∀ p ∈ l, 0 ≤ p ∧ p ≤ q := by
  have key : ∀ (d j : Nat), j + d = l.length → riseFrom l q j d = true → ∀ i, j ≤ i → i < l.length → 0 ≤ l.getD i 0 ∧ l.getD i 0 ≤ q := by
    intro d
    induction d with
    | zero => intro j hj _ i h1 h2; omega
    | succ d ih =>
      intro j hj h i h1 h2
      simp only [riseFrom, Bool.and_eq_true] at h
      by_cases e : i = j
      · subst e; have h3 := h.1; unfold riseOk at h3; simp only [decide_eq_true_eq] at h3; exact ⟨h3.1, h3.2.1⟩
      · exact ih (j + 1) (by omega) h.2 i (by omega) h2
  intro p hp
  obtain ⟨i, hi, rfl⟩ := List.getElem_of_mem hp
  have := key l.length 0 (by omega) h i (by omega) hi
  rwa [List.getD_eq_getElem?_getD, List.getElem?_eq_getElem hi] at this
theorem need_in (l : List S53) (hn : l.length ≤ 30) (h : tasksFrom l l.length 0 = true) : NeedIn l := by
  intro t ht x hx
  obtain ⟨i, hi, rfl⟩ := List.getElem_of_mem ht
  have := tasksFrom_all l l.length 0 h i (by omega) (by omega)
  unfold taskOk at this
  simp only [Bool.and_eq_true] at this
  rw [List.getD_eq_getElem?_getD, List.getElem?_eq_getElem hi] at this
  have h2 := rise_bound _ _ this.2.1 x hx
  rw [wrap_small (by omega) (by omega)] at h2
  omega
/-- a good plan, and its order -/
structure Plan (l : List S53) (O : List Int) : Prop where
  len : l.length ≤ 30
  ok : ∀ i, i < l.length → 1 ≤ (l.getD i z53).f0 ∧ (l.getD i z53).f0 ≤ 100
  need : NeedIn l
  out : OutOK l O
  full : O.length = l.length
  impl : ∀ k, 100 < k → impl_order.f k l = some O
  spec : Ev (fun k => spec_l4Order.f k l) (O, true)
theorem plan_both (l : List S53) (hs : ∀ x ∈ l, ShortT x) : ∃ r : Bool, Ev (fun k => spec_GoodPlan.f k l) r ∧ Ev (fun k => impl_GoodPlan.f k l) r ∧ (r = true → ∃ O, Plan l O) := by
  by_cases h30 : (l.length : Int) > 30
  · refine ⟨false, ⟨0, fun k _ => ?_⟩, ⟨0, fun k _ => ?_⟩, fun h => by cases h⟩
    · show spec_GoodPlan.f k l = some false
      unfold spec_GoodPlan.f; rw [if_pos h30]
    · show impl_GoodPlan.f k l = some false
      unfold impl_GoodPlan.f; rw [if_pos h30]
  · have hlen : l.length ≤ 30 := by omega
    cases ht : tasksFrom l l.length 0 with
    | false =>
      refine ⟨false, Ev.congr (fun k => ?_) (spec_plan_loop l hlen hs l.length 0 (by omega) (by omega) false (fun _ => rfl) (fun h => by rw [ht] at h; cases h)), Ev.congr (fun k => ?_) (impl_plan_loop l hlen hs l.length 0 (by omega) (by omega) false (fun _ => rfl) (fun h => by rw [ht] at h; cases h)), fun h => by cases h⟩
      · unfold spec_GoodPlan.f; rw [if_neg h30]; rfl
      · unfold impl_GoodPlan.f; rw [if_neg h30]; rfl
    | true =>
      have hne := need_in l hlen ht
      obtain ⟨O, h1, h2, h3, h4⟩ := order_both hne (by omega) hs
      refine ⟨decide (O.length = l.length), Ev.congr (fun k => ?_) (spec_plan_loop l hlen hs l.length 0 (by omega) (by omega) _ (fun h => by rw [ht] at h; cases h) (fun _ => ⟨_, ?_, h4⟩)), Ev.congr (fun k => ?_) (impl_plan_loop l hlen hs l.length 0 (by omega) (by omega) _ (fun h => by rw [ht] at h; cases h) (fun _ => ⟨O, ?_, ⟨l.length + 1, fun k hk => h3 k (by omega)⟩⟩)), fun h => ?_⟩
      · unfold spec_GoodPlan.f; rw [if_neg h30]; rfl
      · by_cases e : O.length = l.length
        · rw [if_pos e, decide_eq_true e]
        · rw [if_neg e, decide_eq_false e]
      · unfold impl_GoodPlan.f; rw [if_neg h30]; rfl
      · by_cases e : O.length = l.length
        · rw [decide_eq_true e, e]; simp
        · rw [decide_eq_false e]; simp; omega
      · have e := of_decide_eq_true h
        rw [if_pos e] at h4
        refine ⟨O, hlen, fun i hi => ?_, hne, h1, e, fun k hk => h3 k (by omega), h4⟩
        have := tasksFrom_all l l.length 0 ht i (by omega) (by omega)
        unfold taskOk at this
        simp only [Bool.and_eq_true, decide_eq_true_eq] at this
        exact this.1

def lg (l : List S53) (x : Int) : Int := (l.getD x.toNat z53).f0
def nd (l : List S53) (x : Int) : List Int := (l.getD x.toNat z53).f1
theorem rd_lg (l : List S53) (x : Int) : (rd_T53 l x).f0 = lg l x := rfl
theorem rd_nd (l : List S53) (x : Int) : (rd_T53 l x).f1 = nd l x := rfl
theorem mx_l (a b : Int) : a ≤ mx a b := by unfold mx; split <;> omega
theorem mx_r (a b : Int) : b ≤ mx a b := by unfold mx; split <;> omega
theorem mx_or (a b : Int) : mx a b = a ∨ mx a b = b := by unfold mx; split <;> simp
theorem rd_set (t : List Int) (i j v : Int) (h0 : 0 ≤ i) (h1 : i < t.length) (hj : 0 ≤ j) : rd (t.set i.toNat v) j = if i = j then v else rd t j := by
  unfold rd
  rw [List.getD_eq_getElem?_getD, List.getElem?_set, List.getD_eq_getElem?_getD]
  by_cases e : i = j
  · subst e
    rw [if_pos rfl, if_pos (by omega), if_pos rfl]; rfl
  · rw [if_neg (by omega), if_neg e]
theorem out_apart {l : List S53} {A B : List Int} {x : Int} (h : OutOK l (A ++ x :: B)) : x ∉ B ∧ (∀ y ∈ A, y ≠ x ∧ y ∉ B) ∧ ∀ y ∈ nd l x, y ∈ A := by
  have h1 := h.topo A B x rfl
  refine ⟨fun hx => ?_, fun y hy => ⟨fun e => h1.1 (e ▸ hy), fun hyb => ?_⟩, h1.2⟩
  · obtain ⟨b1, b2, rfl⟩ := List.append_of_mem hx
    exact (h.topo (A ++ x :: b1) b2 x (by simp)).1 (by simp)
  · obtain ⟨b1, b2, rfl⟩ := List.append_of_mem hyb
    exact (h.topo (A ++ x :: b1) b2 y (by simp)).1 (by simp [hy])
theorem Plan.longs {l : List S53} {O : List Int} (p : Plan l O) {x : Int} (h0 : 0 ≤ x) (h1 : x < l.length) : 1 ≤ lg l x ∧ lg l x ≤ 100 := by
  have := p.ok x.toNat (by omega)
  exact this
theorem Plan.ends {l : List S53} {O : List Int} (p : Plan l O) {x : Int} (h0 : 0 ≤ x) (h1 : x < l.length) : ∀ n ∈ nd l x, 0 ≤ n ∧ n < (l.length : Int) := fun n hn => p.need _ (getD_mem z53 l x.toNat (by omega)) n hn
theorem Plan.all_in {l : List S53} {O : List Int} (p : Plan l O) {x : Int} (h0 : 0 ≤ x) (h1 : x < l.length) : x ∈ O := by
  have := p.out.full p.full x.toNat (by omega)
  rwa [Int.toNat_of_nonneg h0] at this

/-- what a task needs, and what those need -/
inductive Reach (l : List S53) (t : Int) : Int → Prop
  | base {n : Int} (h : n ∈ nd l t) : Reach l t n
  | step {k n : Int} (hk : Reach l t k) (h : n ∈ nd l k) : Reach l t n
theorem Reach.rng {l : List S53} {O : List Int} (p : Plan l O) {t : Int} (h0 : 0 ≤ t) (h1 : t < l.length) {n : Int} (h : Reach l t n) : 0 ≤ n ∧ n < (l.length : Int) := by
  induction h with
  | base h => exact p.ends h0 h1 _ h
  | step _ h ih => exact p.ends ih.1 ih.2 _ h
theorem Reach.before {l : List S53} {O : List Int} (p : Plan l O) {A B : List Int} {t n : Int} (hO : O = A ++ t :: B) (h : Reach l t n) : n ∈ A := by
  induction h with
  | base h => exact (out_apart (hO ▸ p.out)).2.2 _ h
  | step hk h ih =>
    obtain ⟨a1, a2, rfl⟩ := List.append_of_mem ih
    have := (out_apart (l := l) (A := a1) (x := _) (B := a2 ++ t :: B) (by have := p.out; rw [hO] at this; simpa using this)).2.2 _ h
    simp [this]
theorem Reach.ne {l : List S53} {O : List Int} (p : Plan l O) {t n : Int} (h0 : 0 ≤ t) (h1 : t < l.length) (h : Reach l t n) : n ≠ t := by
  obtain ⟨A, B, hO⟩ := List.append_of_mem (p.all_in h0 h1)
  intro e
  subst e
  exact ((out_apart (hO ▸ p.out)).2.1 n (h.before p hO)).1 rfl
theorem rdB_set (t : List Bool) (i j : Int) (v : Bool) (h0 : 0 ≤ i) (h1 : i < t.length) (hj : 0 ≤ j) : rdOf false (t.set i.toNat v) j = if i = j then v else rdOf false t j := by
  unfold rdOf
  rw [List.getD_eq_getElem?_getD, List.getElem?_set, List.getD_eq_getElem?_getD]
  by_cases e : i = j
  · subst e
    rw [if_pos rfl, if_pos (by omega), if_pos rfl]; rfl
  · rw [if_neg (by omega), if_neg e]
theorem naMark_eq : ∀ (ns : List Int) (s : List Bool), (∀ n ∈ ns, 0 ≤ n ∧ n < s.length) → (naMark ns s).length = s.length ∧ ∀ j, 0 ≤ j → (rdOf false (naMark ns s) j = true ↔ j ∈ ns ∨ rdOf false s j = true)
  | [], s, _ => ⟨rfl, fun j _ => by simp [naMark]⟩
  | n :: ns, s, h => by
    have hn := h n List.mem_cons_self
    obtain ⟨h1, h2⟩ := naMark_eq ns (s.set n.toNat true) (fun m hm => by rw [List.length_set]; exact h m (List.mem_cons_of_mem _ hm))
    unfold naMark at h1 h2 ⊢
    rw [List.foldl_cons]
    refine ⟨by rw [h1, List.length_set], fun j hj => ?_⟩
    rw [h2 j hj, rdB_set s n j true hn.1 hn.2 hj]
    by_cases e : n = j
    · subst e; simp
    · rw [if_neg e, List.mem_cons]
      constructor
      · rintro (h | h)
        · exact .inl (.inr h)
        · exact .inr h
      · rintro ((h | h) | h)
        · exact absurd h.symm e
        · exact .inl h
        · exact .inr h
/-- the program's flags behind the tasks of B -/
structure NaInv (l : List S53) (t : Int) (B : List Int) (s : List Bool) : Prop where
  len : s.length = l.length
  self : rdOf false s t = true
  sound : ∀ j : Int, 0 ≤ j → rdOf false s j = true → j = t ∨ Reach l t j
  closed : ∀ k ∈ B, rdOf false s k = true → ∀ n ∈ nd l k, rdOf false s n = true
theorem NaInv.step {l : List S53} {O : List Int} (p : Plan l O) {t : Int} {A B : List Int} {x : Int} (hO : O = A ++ x :: B) {s : List Bool} (ht0 : 0 ≤ t) (h : NaInv l t B s) : NaInv l t (x :: B) (naStep l s x) := by
  obtain ⟨a1, a2, a3⟩ := out_apart (hO ▸ p.out)
  have hx := p.out.rng x (by rw [hO]; simp)
  have hBr : ∀ k ∈ B, 0 ≤ k ∧ k < (l.length : Int) := fun k hk => p.out.rng k (by rw [hO]; simp [hk])
  unfold naStep
  rw [rd_nd]
  by_cases c : rdOf false s x = true
  · rw [if_pos c]
    obtain ⟨h1, h2⟩ := naMark_eq (nd l x) s (fun n hn => by rw [h.len]; exact p.ends hx.1 hx.2 n hn)
    refine ⟨h1.trans h.len, (h2 t ht0).2 (.inr h.self), fun j hj hs => ?_, fun k hk hs n hn => ?_⟩
    · rcases (h2 j hj).1 hs with hs | hs
      · rcases h.sound x hx.1 c with e | e
        · subst e; exact .inr (.base hs)
        · exact .inr (.step e hs)
      · exact h.sound j hj hs
    · rcases List.mem_cons.1 hk with rfl | hk
      · exact (h2 n (p.ends hx.1 hx.2 n hn).1).2 (.inl hn)
      · have hs2 : rdOf false s k = true := by
          rcases (h2 k (hBr k hk).1).1 hs with hs | hs
          · exact absurd hk (a2 k (a3 k hs)).2
          · exact hs
        exact (h2 n (p.ends (hBr k hk).1 (hBr k hk).2 n hn).1).2 (.inr (h.closed k hk hs2 n hn))
  · rw [if_neg c]
    refine ⟨h.len, h.self, h.sound, fun k hk hs n hn => ?_⟩
    rcases List.mem_cons.1 hk with rfl | hk
    · exact absurd hs c
    · exact h.closed k hk hs n hn
def naOf (l : List S53) (t : Int) (B : List Int) : List Bool := B.foldr (fun x s => naStep l s x) ((List.replicate l.length false).set t.toNat true)
theorem na_inv {l : List S53} {O : List Int} (p : Plan l O) {t : Int} (h0 : 0 ≤ t) (h1 : t < l.length) : ∀ (B A : List Int), O = A ++ B → NaInv l t B (naOf l t B)
  | [], A, _ => by
    refine ⟨by simp [naOf], ?_, fun j hj hs => ?_, fun k hk => by simp at hk⟩
    · show rdOf false ((List.replicate l.length false).set t.toNat true) t = true
      rw [rdB_set _ t t true h0 (by simpa using h1) h0, if_pos rfl]
    · left
      have hs2 : rdOf false ((List.replicate l.length false).set t.toNat true) j = true := hs
      rw [rdB_set _ t j true h0 (by simpa using h1) hj] at hs2
      by_cases e : t = j
      · exact e.symm
      · rw [if_neg e] at hs2
        unfold rdOf at hs2
        rw [List.getD_eq_getElem?_getD, List.getElem?_replicate] at hs2
        split at hs2 <;> cases hs2
  | x :: B, A, h => (na_inv p h0 h1 B (A ++ [x]) (by simp [h])).step p h h0
theorem na_final {l : List S53} {O : List Int} (p : Plan l O) {t : Int} (h0 : 0 ≤ t) (h1 : t < l.length) (j : Int) (hj : 0 ≤ j) : (rdOf false (naOf l t O) j = true ∧ j ≠ t) ↔ Reach l t j := by
  have h := na_inv p h0 h1 O [] rfl
  constructor
  · rintro ⟨hs, hne⟩
    exact (h.sound j hj hs).resolve_left hne
  · intro hr
    refine ⟨?_, hr.ne p h0 h1⟩
    clear hj
    induction hr with
    | base hn => exact h.closed t (p.all_in h0 h1) h.self _ hn
    | step hk hn ih => exact h.closed _ (by have := hk.rng p h0 h1; exact p.all_in this.1 this.2) ih _ hn
theorem naPick_eq (t : Int) : ∀ (s s' : List Bool) (j : Nat), s.length = s'.length → (∀ i : Nat, i < s.length → ((s.getD i false = true ∧ ((j + i : Nat) : Int) ≠ t) ↔ s'.getD i false = true)) → naPick t s j = naPick (-1) s' j
  | [], [], _, _, _ => rfl
  | [], _ :: _, _, h, _ => by simp at h
  | _ :: _, [], _, h, _ => by simp at h
  | b :: bs, c :: cs, j, h, hi => by
    have ih := naPick_eq t bs cs (j + 1) (by simpa using h) (fun i hil => by
      have := hi (i + 1) (by simp; omega)
      rw [show j + (i + 1) = j + 1 + i by omega] at this
      simpa using this)
    have h0 := hi 0 (by simp)
    simp only [List.getD_cons_zero, Nat.add_zero] at h0
    unfold naPick
    by_cases e : b = true ∧ (j : Int) ≠ t
    · rw [if_pos e, if_pos ⟨h0.1 e, by omega⟩, ih]
    · rw [if_neg e, if_neg (fun hc => e (h0.2 hc.1)), ih]
theorem na_l4 (s : List Bool) (hs : s.length ≤ 1000) (d : Nat) : ∀ (j k : Nat) (out : List Int), j ≤ s.length → s.length - j = d → d < k → out.length ≤ j → spec_NeedsAll.l4 k out s (s.length : Int) j = some (out ++ naPick (-1) (s.drop j) j, true) := by
  induction d with
  | zero =>
    intro j k out hj hd hk ho
    obtain ⟨k, rfl⟩ : ∃ m, k = m + 1 := ⟨k - 1, by omega⟩
    simp only [spec_NeedsAll.l4]
    rw [if_neg (by omega), List.drop_of_length_le (by omega)]; simp [naPick]
  | succ d ih =>
    intro j k out hj hd hk ho
    obtain ⟨k, rfl⟩ : ∃ m, k = m + 1 := ⟨k - 1, by omega⟩
    rw [dropS_at false s j (by omega)]
    simp only [spec_NeedsAll.l4]
    rw [if_pos (by omega), if_pos (by omega), if_pos (by omega), wrap_next (n := s.length) (by omega) (by omega), rdOf_at]
    unfold naPick
    by_cases e : s.getD j false = true
    · rw [if_pos e, if_pos (by omega), ih (j + 1) k _ (by omega) (by omega) (by omega) (by rw [List.length_append]; simp; omega), if_pos ⟨e, by omega⟩, List.append_assoc]; rfl
    · rw [if_neg e, ih (j + 1) k _ (by omega) (by omega) (by omega) (by omega), if_neg (fun h => e h.1)]
/-- the reference's flags: what it has seen is needed -/
structure NsInv (l : List S53) (t : Int) (s : List Bool) : Prop where
  len : s.length = l.length
  sound : ∀ j : Int, 0 ≤ j → rdOf false s j = true → Reach l t j
  base : ∀ n ∈ nd l t, rdOf false s n = true
def cntT : List Bool → Nat
  | [] => 0
  | b :: bs => cntT bs + if b = true then 1 else 0
theorem cntT_le : ∀ s : List Bool, cntT s ≤ s.length
  | [] => Nat.le_refl _
  | b :: bs => by have := cntT_le bs; simp only [cntT, List.length_cons]; split <;> omega
theorem cntT_set : ∀ (s : List Bool) (i : Nat), i < s.length → s.getD i false = false → cntT (s.set i true) = cntT s + 1
  | [], i, h, _ => by simp at h
  | b :: bs, 0, _, h => by
    simp only [List.getD_cons_zero] at h
    subst h
    simp [cntT]
  | b :: bs, i + 1, h, hb => by
    have := cntT_set bs i (by simpa using h) (by simpa using hb)
    simp only [List.set_cons_succ, cntT]
    omega
/-- one round over the needs of task i from j on -/
theorem ns_l3 {l : List S53} {O : List Int} (p : Plan l O) {t : Int} (i : Nat) (hi : i < l.length) (hs : (l.getD i z53).f1.length ≤ 1048576) (r : List Int × Bool) (d : Nat) : ∀ (j : Nat) (s : List Bool) (ag : Bool), NsInv l t s → j ≤ (l.getD i z53).f1.length → (l.getD i z53).f1.length - j = d →
    (∀ s' : List Bool, ∀ ag' : Bool, NsInv l t s' → cntT s ≤ cntT s' → (ag = true → ag' = true) → (ag' = false → s' = s ∧ (rdOf false s i = true → ∀ q, j ≤ q → q < (l.getD i z53).f1.length → rdOf false s ((l.getD i z53).f1.getD q 0) = true)) → (ag = false → ag' = true → cntT s < cntT s') → Ev (fun k => spec_NeedsAll.l2 k l s' ag' (l.length : Int) ((i + 1 : Nat) : Int)) r) →
    Ev (fun k => spec_NeedsAll.l3 k l s ag i (l.length : Int) i (l.getD i z53).f1 (l.getD i z53).f1.length j) r := by
  have hl := p.len
  induction d with
  | zero =>
    intro j s ag hinv hj hd hr
    refine Ev.step (fun k => ?_) (hr s ag hinv (Nat.le_refl _) id (fun h => ⟨rfl, fun _ q h1 h2 => by omega⟩) (fun h1 h2 => by rw [h1] at h2; cases h2))
    simp only [spec_NeedsAll.l3]
    rw [if_neg (by omega), wrap_next (n := l.length) (by omega) (by omega)]
  | succ d ih =>
    intro j s ag hinv hj hd hr
    have hjl : j < (l.getD i z53).f1.length := by omega
    have hx := p.need _ (getD_mem z53 l i hi) ((l.getD i z53).f1.getD j 0) (getD_mem 0 _ j hjl)
    obtain ⟨x, hxx⟩ : ∃ x, x = (l.getD i z53).f1.getD j 0 := ⟨_, rfl⟩
    rw [← hxx] at hx
    have hlen := hinv.len
    have hxm : x ∈ nd l i := by unfold nd; rw [Int.toNat_natCast, hxx]; exact getD_mem 0 _ j hjl
    have skip : (rdOf false s i = true → rdOf false s x = true) → Ev (fun k => spec_NeedsAll.l3 k l s ag i (l.length : Int) i (l.getD i z53).f1 (l.getD i z53).f1.length ((j + 1 : Nat) : Int)) r := fun hsk =>
      ih (j + 1) s ag hinv (by omega) (by omega) (fun s' ag' h1 h2 h3 h4 h5 => hr s' ag' h1 h2 h3 (fun h => ⟨(h4 h).1, fun hsi q h6 h7 => by
        by_cases e : q = j
        · subst e; rw [← hxx]; exact hsk hsi
        · exact (h4 h).2 hsi q (by omega) h7⟩) h5)
    by_cases c1 : rdOf false s (i : Int) = true
    · by_cases c2 : rdOf false s x = true
      · refine Ev.step (fun k => ?_) (skip (fun _ => c2))
        simp only [spec_NeedsAll.l3]
        rw [if_pos (by omega), if_pos (by omega), if_pos (by omega), if_pos (by omega), if_pos (by omega), if_pos c1, rd_at, ← hxx, if_pos hx.1, if_pos (by omega), if_pos c2, wrap_next hjl (by omega)]
      · have hxn : x.toNat < s.length := by omega
        have hcnt : cntT (s.set x.toNat true) = cntT s + 1 := cntT_set s x.toNat hxn (by
          have : rdOf false s x = s.getD x.toNat false := rfl
          rw [← this]; cases h : rdOf false s x with
          | false => rfl
          | true => exact absurd h c2)
        have hinv' : NsInv l t (s.set x.toNat true) := ⟨by rw [List.length_set]; exact hlen, fun q hq hqs => by
            rw [rdB_set s x q true hx.1 (by omega) hq] at hqs
            by_cases e : x = q
            · subst e; exact .step (hinv.sound i (by omega) c1) hxm
            · rw [if_neg e] at hqs; exact hinv.sound q hq hqs, fun n hn => by
            have h0 := hinv.sound n
            by_cases e : x = n
            · subst e; rw [rdB_set s x x true hx.1 (by omega) hx.1, if_pos rfl]
            · have hb := hinv.base n hn
              by_cases hn0 : 0 ≤ n
              · rw [rdB_set s x n true hx.1 (by omega) hn0, if_neg e]; exact hb
              · unfold rdOf at hb ⊢
                rw [show n.toNat = 0 by omega] at hb ⊢
                rw [List.getD_eq_getElem?_getD, List.getElem?_set]
                by_cases e2 : x.toNat = 0
                · rw [if_pos e2, if_pos (by omega)]; rfl
                · rw [if_neg e2, ← List.getD_eq_getElem?_getD]; exact hb⟩
        refine Ev.step (fun k => ?_) (ih (j + 1) (s.set x.toNat true) true hinv' (by omega) (by omega) (fun s' ag' h1 h2 h3 h4 h5 => hr s' ag' h1 (by omega) (fun _ => h3 rfl) (fun h => by rw [h3 rfl] at h; cases h) (fun _ _ => by omega)))
        simp only [spec_NeedsAll.l3]
        rw [if_pos (by omega), if_pos (by omega), if_pos (by omega), if_pos (by omega), if_pos (by omega), if_pos c1, rd_at, ← hxx, if_pos hx.1, if_pos (by omega), if_neg c2, wrap_next hjl (by omega)]
    · refine Ev.step (fun k => ?_) (skip (fun h => absurd h c1))
      simp only [spec_NeedsAll.l3]
      rw [if_pos (by omega), if_pos (by omega), if_pos (by omega), if_pos (by omega), if_pos (by omega), if_neg c1, wrap_next hjl (by omega)]
theorem ns_l2 {l : List S53} {O : List Int} (hs : ∀ x ∈ l, ShortT x) (p : Plan l O) {t : Int} (r : List Int × Bool) (d : Nat) : ∀ (i : Nat) (s : List Bool) (ag : Bool), NsInv l t s → i ≤ l.length → l.length - i = d →
    (∀ s' : List Bool, ∀ ag' : Bool, NsInv l t s' → cntT s ≤ cntT s' → (ag = true → ag' = true) → (ag' = false → s' = s ∧ ∀ q : Nat, i ≤ q → q < l.length → rdOf false s q = true → ∀ n ∈ nd l q, rdOf false s n = true) → (ag = false → ag' = true → cntT s < cntT s') → Ev (fun k => spec_NeedsAll.l1 k l s' ag') r) →
    Ev (fun k => spec_NeedsAll.l2 k l s ag (l.length : Int) i) r := by
  have hl := p.len
  induction d with
  | zero =>
    intro i s ag hinv hi hd hr
    refine Ev.step (fun k => ?_) (hr s ag hinv (Nat.le_refl _) id (fun h => ⟨rfl, fun q h1 h2 => by omega⟩) (fun h1 h2 => by rw [h1] at h2; cases h2))
    simp only [spec_NeedsAll.l2]
    rw [if_neg (by omega)]
  | succ d ih =>
    intro i s ag hinv hi hd hr
    have hil : i < l.length := by omega
    refine Ev.step (fun k => ?_) (ns_l3 p i hil (hs _ (getD_mem z53 l i hil)) r (l.getD i z53).f1.length 0 s ag hinv (by omega) (by omega) (fun s1 ag1 h1 h2 h3 h4 h5 =>
      ih (i + 1) s1 ag1 h1 (by omega) (by omega) (fun s2 ag2 g1 g2 g3 g4 g5 => hr s2 ag2 g1 (by omega) (fun h => g3 (h3 h)) (fun h => by
        have e1 : ag1 = false := by cases e : ag1 with
          | false => rfl
          | true => rw [g3 e] at h; cases h
        obtain ⟨k1, k2⟩ := g4 h
        obtain ⟨k3, k4⟩ := h4 e1
        subst k3
        refine ⟨k1, fun q q1 q2 q3 n hn => ?_⟩
        by_cases e : q = i
        · subst e
          unfold nd at hn
          rw [Int.toNat_natCast] at hn
          obtain ⟨m, hm, rfl⟩ := List.getElem_of_mem hn
          have := k4 q3 m (by omega) hm
          rwa [List.getD_eq_getElem?_getD, List.getElem?_eq_getElem hm] at this
        · exact k2 q (by omega) q2 q3 n hn) (fun a b => by
        cases e : ag1 with
        | false => have := g5 e b; omega
        | true => have := h5 a e; omega))))
    simp only [spec_NeedsAll.l2]
    rw [if_pos (by omega), if_pos (by omega), if_pos (by omega), rd53_at]; rfl
theorem ns_l1 {l : List S53} {O : List Int} (hs : ∀ x ∈ l, ShortT x) (p : Plan l O) {t : Int} (h0 : 0 ≤ t) (h1 : t < l.length) (r : List Int × Bool) (n : Nat) : ∀ (s : List Bool), NsInv l t s → l.length - cntT s ≤ n →
    (∀ s' : List Bool, s'.length = l.length → (∀ j : Int, 0 ≤ j → j < l.length → (rdOf false s' j = true ↔ Reach l t j)) → Ev (fun k => spec_NeedsAll.l4 k [] s' (s'.length : Int) 0) r) → Ev (fun k => spec_NeedsAll.l1 k l s true) r := by
  induction n with
  | zero =>
    intro s hinv hn hr
    refine Ev.step (fun k => ?_) (ns_l2 hs p r l.length 0 s false hinv (by omega) (by omega) (fun s' ag' g1 g2 g3 g4 g5 => ?_))
    · simp only [spec_NeedsAll.l1, if_true]; rfl
    · cases ag' with
      | true =>
        have := g5 rfl rfl
        have h2 := cntT_le s'
        rw [g1.len] at h2
        omega
      | false =>
        obtain ⟨rfl, k2⟩ := g4 rfl
        refine Ev.step (fun k => ?_) (hr s' hinv.len (fun j hj hjl => ⟨fun h => hinv.sound j hj h, fun h => ?_⟩))
        · simp only [spec_NeedsAll.l1]; rw [if_neg (by decide)]
        · clear hj hjl
          induction h with
          | base hn => exact hinv.base _ hn
          | @step k' n' hk hn ih =>
            have hr := hk.rng p h0 h1
            have := k2 k'.toNat (Nat.zero_le _) (by omega)
            rw [Int.toNat_of_nonneg hr.1] at this
            exact this ih _ hn
  | succ n ihn =>
    intro s hinv hn hr
    refine Ev.step (fun k => ?_) (ns_l2 hs p r l.length 0 s false hinv (by omega) (by omega) (fun s' ag' g1 g2 g3 g4 g5 => ?_))
    · simp only [spec_NeedsAll.l1, if_true]; rfl
    · cases ag' with
      | true =>
        have := g5 rfl rfl
        have h2 := cntT_le s'
        rw [g1.len] at h2
        exact ihn s' g1 (by omega) hr
      | false =>
        obtain ⟨rfl, k2⟩ := g4 rfl
        refine Ev.step (fun k => ?_) (hr s' hinv.len (fun j hj hjl => ⟨fun h => hinv.sound j hj h, fun h => ?_⟩))
        · simp only [spec_NeedsAll.l1]; rw [if_neg (by decide)]
        · clear hj hjl
          induction h with
          | base hn => exact hinv.base _ hn
          | @step k' n' hk hn ih =>
            have hr := hk.rng p h0 h1
            have := k2 k'.toNat (Nat.zero_le _) (by omega)
            rw [Int.toNat_of_nonneg hr.1] at this
            exact this ih _ hn
/-- the needs of the task itself -/
theorem ns_l0 {l : List S53} {O : List Int} (p : Plan l O) {t : Nat} (ht : t < l.length) (hs : (l.getD t z53).f1.length ≤ 1048576) (r : List Int × Bool) (d : Nat) : ∀ (j : Nat) (s : List Bool), s.length = l.length → j ≤ (l.getD t z53).f1.length → (l.getD t z53).f1.length - j = d → (∀ q : Int, 0 ≤ q → rdOf false s q = true → Reach l t q) → (∀ m, m < j → rdOf false s ((l.getD t z53).f1.getD m 0) = true) →
    (∀ s' : List Bool, NsInv l t s' → Ev (fun k => spec_NeedsAll.l1 k l s' true) r) → Ev (fun k => spec_NeedsAll.l0 k l s (l.getD t z53).f1 (l.getD t z53).f1.length j) r := by
  induction d with
  | zero =>
    intro j s h1 h2 h3 h4 h5 hr
    refine Ev.step (fun k => ?_) (hr s ⟨h1, h4, fun n hn => ?_⟩)
    · simp only [spec_NeedsAll.l0]; rw [if_neg (by omega)]
    · unfold nd at hn
      rw [Int.toNat_natCast] at hn
      obtain ⟨m, hm, rfl⟩ := List.getElem_of_mem hn
      have := h5 m (by omega)
      rwa [List.getD_eq_getElem?_getD, List.getElem?_eq_getElem hm] at this
  | succ d ih =>
    intro j s h1 h2 h3 h4 h5 hr
    have hjl : j < (l.getD t z53).f1.length := by omega
    have hx := p.need _ (getD_mem z53 l t ht) ((l.getD t z53).f1.getD j 0) (getD_mem 0 _ j hjl)
    have hxm : (l.getD t z53).f1.getD j 0 ∈ nd l t := by unfold nd; rw [Int.toNat_natCast]; exact getD_mem 0 _ j hjl
    obtain ⟨x, hxx⟩ : ∃ x, x = (l.getD t z53).f1.getD j 0 := ⟨_, rfl⟩
    rw [← hxx] at hx hxm
    have hv : ∀ q : Int, 0 ≤ q → rdOf false (s.set x.toNat true) q = if x = q then true else rdOf false s q := fun q hq => rdB_set s x q true hx.1 (by omega) hq
    refine Ev.step (fun k => ?_) (ih (j + 1) (s.set x.toNat true) (by rw [List.length_set]; exact h1) (by omega) (by omega) (fun q hq hqs => by
      rw [hv q hq] at hqs
      by_cases e : x = q
      · subst e; exact .base hxm
      · rw [if_neg e] at hqs; exact h4 q hq hqs) (fun m hm => by
      have hy := p.need _ (getD_mem z53 l t ht) ((l.getD t z53).f1.getD m 0) (getD_mem 0 _ m (by omega))
      rw [hv _ hy.1]
      by_cases e : x = (l.getD t z53).f1.getD m 0
      · rw [if_pos e]
      · rw [if_neg e]
        by_cases c : m = j
        · subst c; exact absurd hxx e
        · exact h5 m (by omega)) hr)
    simp only [spec_NeedsAll.l0]
    rw [if_pos (by omega), if_pos (by omega), if_pos (by omega), rd_at, ← hxx, if_pos hx.1, if_pos (by omega), wrap_next hjl (by omega)]
theorem needsAll_both (l : List S53) (hs : ∀ x ∈ l, ShortT x) (a : Int) : ∃ (r : List Int × Bool) (K : Nat), r.1.length ≤ 1048576 ∧ ∀ k, K ≤ k → spec_NeedsAll.f k l a = some r ∧ impl_NeedsAll.f k l a = some r := by
  obtain ⟨v, ⟨K1, hv1⟩, ⟨K2, hv2⟩, hp⟩ := plan_both l hs
  cases v with
  | false =>
    refine ⟨([], false), K1 + K2 + 1, by simp, fun k hk => ⟨?_, ?_⟩⟩
    · obtain ⟨k, rfl⟩ : ∃ m, k = m + 1 := ⟨k - 1, by omega⟩
      unfold spec_NeedsAll.f; rw [show spec_GoodPlan.f (k + 1) l = some false from hv1 _ (by omega)]; rfl
    · unfold impl_NeedsAll.f; rw [show impl_GoodPlan.f k l = some false from hv2 _ (by omega)]; rfl
  | true =>
    obtain ⟨O, p⟩ := hp rfl
    have hl := p.len
    by_cases hin : 0 ≤ a ∧ a < l.length
    · have hf := na_final p hin.1 hin.2
      have hni := na_inv p hin.1 hin.2 O [] rfl
      obtain ⟨t, rfl⟩ := Int.eq_ofNat_of_zero_le hin.1
      have htl : t < l.length := by omega
      have hspec : Ev (fun k => spec_NeedsAll.l0 k l (List.replicate l.length false) (l.getD t z53).f1 (l.getD t z53).f1.length ((0 : Nat) : Int)) (naPick t (naOf l t O) 0, true) := by
        refine ns_l0 p htl (hs _ (getD_mem z53 l t htl)) _ (l.getD t z53).f1.length 0 (List.replicate l.length false) (by simp) (by omega) (by omega) (fun q hq hqs => ?_) (fun m hm => by omega) (fun s' hs' => ?_)
        · unfold rdOf at hqs
          rw [List.getD_eq_getElem?_getD, List.getElem?_replicate] at hqs
          split at hqs <;> cases hqs
        · refine ns_l1 hs p hin.1 hin.2 _ l.length s' hs' (by omega) (fun s2 e1 e2 => ?_)
          have h4 := na_l4 s2 (by omega) s2.length 0
          refine ⟨s2.length + 1, fun k hk => ?_⟩
          have h5 := h4 k [] (by omega) (by omega) (by omega) (by simp)
          rw [List.drop_zero, List.nil_append] at h5
          show spec_NeedsAll.l4 k [] s2 (s2.length : Int) ((0 : Nat) : Int) = _
          rw [h5, naPick_eq t (naOf l t O) s2 0 (by rw [hni.len, e1]) (fun i hi => ?_)]
          have hil : i < l.length := by rw [hni.len] at hi; exact hi
          have a1 := hf (i : Int) (by omega)
          have a2 := e2 (i : Int) (by omega) (by omega)
          rw [rdOf_at] at a1 a2
          rw [Nat.zero_add]
          exact a1.trans a2.symm
      obtain ⟨K3, h3⟩ := hspec
      refine ⟨(naPick t (naOf l t O) 0, true), K1 + K2 + K3 + 102, by have := naPick_le t (naOf l t O) 0; rw [hni.len] at this; show (naPick t (naOf l t O) 0).length ≤ _; omega, fun k hk => ⟨?_, ?_⟩⟩
      · obtain ⟨k, rfl⟩ : ∃ m, k = m + 1 := ⟨k - 1, by omega⟩
        unfold spec_NeedsAll.f; rw [show spec_GoodPlan.f (k + 1) l = some true from hv1 _ (by omega)]; simp only [Option.bind_some, if_true]
        unfold spec_l1In.f
        rw [wrap_small (by omega) (by omega), if_pos (by omega), decide_eq_true (by omega)]
        simp only [Option.bind_some, Bool.not_true, spec_NeedsAll.j0]
        rw [if_neg (by decide), if_pos (by omega), Int.toNat_natCast, if_pos (by omega), if_pos (by omega), if_pos (by omega), rd53_at]
        exact h3 k (by omega)
      · unfold impl_NeedsAll.f; rw [show impl_GoodPlan.f k l = some true from hv2 _ (by omega)]; simp only [Option.bind_some, if_true]
        unfold impl_in.f
        rw [wrap_small (by omega) (by omega), if_pos (by omega), decide_eq_true (by omega)]
        simp only [Option.bind_some, if_true]
        rw [p.impl k (by omega)]; simp only [Option.bind_some]
        rw [if_pos ⟨by omega, by omega, fun x hx => by have := p.out.rng x hx; exact ⟨this.1, this.2, p.ends this.1 this.2⟩⟩, List.foldl_reverse]
        rfl
    · refine ⟨([], false), K1 + K2 + 1, by simp, fun k hk => ⟨?_, ?_⟩⟩
      · obtain ⟨k, rfl⟩ : ∃ m, k = m + 1 := ⟨k - 1, by omega⟩
        unfold spec_NeedsAll.f; rw [show spec_GoodPlan.f (k + 1) l = some true from hv1 _ (by omega)]; simp only [Option.bind_some, if_true]
        unfold spec_l1In.f
        rw [wrap_small (by omega) (by omega)]
        by_cases c : a ≥ 0
        · rw [if_pos c, decide_eq_false (by omega)]; rfl
        · rw [if_neg c]; rfl
      · unfold impl_NeedsAll.f; rw [show impl_GoodPlan.f k l = some true from hv2 _ (by omega)]; simp only [Option.bind_some, if_true]
        unfold impl_in.f
        rw [wrap_small (by omega) (by omega)]
        by_cases c : a ≥ 0
        · rw [if_pos c, decide_eq_false (by omega)]; rfl
        · rw [if_neg c]; rfl

/-- THE PURE STATEMENT of the law. -/
def FnExactNeedsAll_Pure : Prop := ∀ (l0 : (List S52)) (a1 : Int), (l0.length ≤ 9223372036854775807 ∧ ∀ y ∈ l0, ((Lit.int .i64 y.f0).wf = true ∧ (y.f1.length ≤ 9223372036854775807 ∧ ∀ y2 ∈ y.f1, (Lit.int .i64 y2).wf = true))) → (Lit.int .i64 a1).wf = true → ∃ k, laws_FnExactNeedsAll.f k l0 a1 = some true

theorem FnExactNeedsAll : FnExactNeedsAll_Pure := by
  intro l a hl ha
  have htl := tasks_length l
  obtain ⟨m0, hm0⟩ : ∃ m, m = 2097160 := ⟨_, rfl⟩
  obtain ⟨r0, hs0, hr0⟩ := szTaskS_eq l hl.1 (fun y hy => (hl.2 y hy).2.1) m0 (by omega)
  by_cases hbad : r0 < 0
  · exact ⟨m0, by unfold laws_FnExactNeedsAll.f; rw [hs0]; simp only [Option.bind_some]; rw [if_pos hbad]⟩
  have hgood : l.length ≤ 1048576 ∧ ∀ x ∈ tasks l, ShortT x := by
    rcases hr0 with hr0 | ⟨_, h1, h2⟩
    · exact absurd hr0 hbad
    · exact ⟨h1, h2⟩
  obtain ⟨h, hsh⟩ := hgood
  obtain ⟨v, K, hvl, hv⟩ := needsAll_both (tasks l) hsh a
  obtain ⟨m, hm⟩ : ∃ m, m = K + 2097160 := ⟨_, rfl⟩
  obtain ⟨r, hs, hr⟩ := szTaskS_eq l hl.1 (fun y hy => (hl.2 y hy).2.1) m (by omega)
  have hb := tot53_bound (tasks l) hsh
  refine ⟨m, ?_⟩
  unfold laws_FnExactNeedsAll.f
  rw [hs]; simp only [Option.bind_some]
  by_cases h5 : r < 0
  · rw [if_pos h5]
  rw [if_neg h5, toTaskS_eq l h hsh _ (by omega)]; simp only [Option.bind_some]
  rw [(hv _ (by omega)).1, (hv _ (by omega)).2]; simp only [Option.bind_some]
  rw [eqIntS_self _ (by omega) _ (by omega)]; simp only [Option.bind_some]
  rw [eqTaskS_self (tasks l) (by omega) hsh _ (by omega)]; simp only [Option.bind_some]
  rw [markIntS_eq _ 1 (by omega) (by omega) (by omega) _ (by omega)]; simp only [Option.bind_some]
  rw [heldIntS_eq 1 _ (by omega) (by omega) (by omega) _ (by omega)]; simp only [Option.bind_some]
  rw [if_pos (by refine ⟨?_, ?_, ?_, ?_, ?_, ?_⟩ <;> first | trivial | omega)]

end Go.Proofs.Ytpgegjbnnbkhiaa.Pure
