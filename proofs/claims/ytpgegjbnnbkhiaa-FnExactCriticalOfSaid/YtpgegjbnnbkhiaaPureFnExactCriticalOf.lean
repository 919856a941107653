/- The program tells a plan's critical tasks as the reference does: the law answers true. No conditions but the reach of a slice. -/
import Derived.Test.YtpgegjbnnbkhiaaPFnExactCriticalOfx11
namespace Go.Proofs.Ytpgegjbnnbkhiaa.Pure
open Go.RowKit Go.Proofs.Ytpgegjbnnbkhiaa.PFnExactCriticalOf Go.Proofs.YtpgegjbnnbkhiaaW.PrintWords Go.Proofs.YtpgegjbnnbkhiaaW.PrintLast
set_option linter.unusedVariables false
set_option linter.unusedSimpArgs false

theorem wrap_small {x : Int} (h0 : -9223372036854775808 ≤ x) (h1 : x ≤ 9223372036854775807) : wrap64 x = x := by
  unfold wrap64
  omega

theorem wrap_next {j n : Nat} (h : j < n) (hn : n ≤ 140737488351232) : wrap64 ((j : Int) + 1) = ((j + 1 : Nat) : Int) := by
  rw [wrap_small (by omega) (by omega)]; rfl

theorem rd_at (l : List Int) (j : Nat) : rd l (j : Int) = l.getD j 0 := by
  unfold rd; rw [Int.toNat_natCast]

theorem drop_at (l : List Int) (j : Nat) (h : j < l.length) : l.drop j = l.getD j 0 :: l.drop (j + 1) := by
  rw [List.drop_eq_getElem_cons h, List.getD_eq_getElem?_getD, List.getElem?_eq_getElem h]; rfl

theorem take_at (l : List Int) (j : Nat) (h : j < l.length) : l.take (j + 1) = l.take j ++ [l.getD j 0] := by
  rw [List.take_succ_eq_append_getElem h, List.getD_eq_getElem?_getD, List.getElem?_eq_getElem h]; rfl

theorem toIntS_loop (l : List Int) (hn : l.length ≤ 140737488351232) (d : Nat) : ∀ (k j : Nat) (x : List Int), x.length = l.length → x.take j = l.take j → j ≤ l.length → l.length - j = d → d < k →
    laws_toIntS.l0 k l x j = some l := by
  induction d with
  | zero =>
    intro k j x hx ht hj hd hk
    obtain ⟨k, rfl⟩ : ∃ m, k = m + 1 := ⟨k - 1, by omega⟩
    simp only [laws_toIntS.l0]; rw [if_neg (by omega)]
    rw [List.take_of_length_le (by omega), List.take_of_length_le (by omega)] at ht; rw [ht]
  | succ d ih =>
    intro k j x hx ht hj hd hk
    obtain ⟨k, rfl⟩ : ∃ m, k = m + 1 := ⟨k - 1, by omega⟩
    simp only [laws_toIntS.l0]; rw [if_pos (by omega), if_pos (by omega), if_pos (by omega), wrap_next (n := l.length) (by omega) hn, rd_at, Int.toNat_natCast]
    refine ih k (j + 1) _ (by rw [List.length_set]; exact hx) ?_ (by omega) (by omega) (by omega)
    rw [take_at l j (by omega), List.take_succ_eq_append_getElem (by rw [List.length_set]; omega), List.getElem_set_self, List.take_set_of_le (by omega), ht]

theorem toIntS_eq (l : List Int) (hn : l.length ≤ 17592186044416) (k : Nat) (hk : l.length < k) : laws_toIntS.f k l = some l := by
  unfold laws_toIntS.f
  rw [if_pos (by omega), Int.toNat_natCast, if_pos (by omega)]
  exact toIntS_loop l (by omega) l.length k 0 _ (by simp) (by simp) (by omega) (by omega) hk

theorem eqIntS_loop (a b : List Int) (hn : a.length ≤ 140737488351232) (hab : a.length = b.length) (d : Nat) : ∀ (k j : Nat), j ≤ a.length → a.length - j = d → d < k →
    laws_eqIntS.l0 k a b j = some (decide (a.drop j = b.drop j)) := by
  induction d with
  | zero =>
    intro k j hj hd hk
    obtain ⟨k, rfl⟩ : ∃ m, k = m + 1 := ⟨k - 1, by omega⟩
    simp only [laws_eqIntS.l0]; rw [if_neg (by omega), List.drop_of_length_le (by omega), List.drop_of_length_le (by omega)]; simp
  | succ d ih =>
    intro k j hj hd hk
    obtain ⟨k, rfl⟩ : ∃ m, k = m + 1 := ⟨k - 1, by omega⟩
    simp only [laws_eqIntS.l0]; rw [if_pos (by omega), if_pos (by omega), if_pos (by omega), wrap_next (n := a.length) (by omega) hn, rd_at, rd_at, drop_at a j (by omega), drop_at b j (by omega)]
    by_cases h : a.getD j 0 = b.getD j 0
    · rw [if_pos h, ih k (j + 1) (by omega) (by omega) (by omega)]; simp only [List.cons.injEq, h, true_and]
    · rw [if_neg h]; simp only [List.cons.injEq, h, false_and, decide_false]

theorem eqIntS_eq (a b : List Int) (hn : a.length ≤ 140737488351232) (k : Nat) (hk : a.length < k) : laws_eqIntS.f k a b = some (decide (a = b)) := by
  unfold laws_eqIntS.f
  by_cases h : a.length = b.length
  · rw [if_pos (by omega)]
    have := eqIntS_loop a b hn h a.length k 0 (by omega) (by omega) hk
    simpa using this
  · rw [if_neg (by omega), decide_eq_false (fun e => h (by rw [e]))]

theorem eqIntS_self (a : List Int) (hn : a.length ≤ 140737488351232) (k : Nat) (hk : a.length < k) : laws_eqIntS.f k a a = some true := by
  rw [eqIntS_eq a a hn k hk]; simp

/-- the numbers v, v + 1, .. -/
def run (v : Int) : Nat → List Int
  | 0 => []
  | n + 1 => v :: run (v + 1) n

theorem run_length (n : Nat) : ∀ v, (run v n).length = n := by
  induction n with
  | zero => intro v; rfl
  | succ n ih => intro v; simp [run, ih]

theorem markIntS_loop (d : Nat) : ∀ (k j : Nat) (v : Int) (l : List Int), l.length ≤ 140737488351232 → 0 ≤ v → v + d ≤ 1000000000000000000 → j ≤ l.length → l.length - j = d → d < k →
    laws_markIntS.l0 k l v j = some (v + d, l.take j ++ run v d) := by
  induction d with
  | zero =>
    intro k j v l hn hv0 hv1 hj hd hk
    obtain ⟨k, rfl⟩ : ∃ m, k = m + 1 := ⟨k - 1, by omega⟩
    simp only [laws_markIntS.l0]; rw [if_neg (by omega), List.take_of_length_le (by omega)]; simp [run]
  | succ d ih =>
    intro k j v l hn hv0 hv1 hj hd hk
    obtain ⟨k, rfl⟩ : ∃ m, k = m + 1 := ⟨k - 1, by omega⟩
    simp only [laws_markIntS.l0]; rw [if_pos (by omega), if_pos (by omega), wrap_next (n := l.length) (by omega) hn, wrap_small (x := v + 1) (by omega) (by omega), Int.toNat_natCast]
    rw [ih k (j + 1) (v + 1) (l.set j v) (by rw [List.length_set]; exact hn) (by omega) (by omega) (by rw [List.length_set]; omega) (by rw [List.length_set]; omega) (by omega)]
    congr 2
    · omega
    · rw [List.take_succ_eq_append_getElem (by rw [List.length_set]; omega), List.getElem_set_self, List.take_set_of_le (by omega)]; simp [run]

theorem markIntS_eq (l : List Int) (v : Int) (hn : l.length ≤ 140737488351232) (hv0 : 0 ≤ v) (hv1 : v ≤ 500000000000000000) (k : Nat) (hk : l.length < k) :
    laws_markIntS.f k l v = some (v + l.length, run v l.length) := by
  unfold laws_markIntS.f
  have := markIntS_loop l.length k 0 v l hn hv0 (by omega) (by omega) (by omega) hk
  simpa using this

theorem heldIntS_loop (d : Nat) : ∀ (k : Nat) (v : Int) (p : List Int), p.length + d ≤ 140737488351232 → 0 ≤ v → v + d ≤ 1000000000000000000 → d < k →
    laws_heldIntS.l0 k (p ++ run v d) v p.length = some (v + d) := by
  induction d with
  | zero =>
    intro k v p hn hv0 hv1 hk
    obtain ⟨k, rfl⟩ : ∃ m, k = m + 1 := ⟨k - 1, by omega⟩
    simp only [laws_heldIntS.l0]; rw [if_neg (by simp [run])]; simp
  | succ d ih =>
    intro k v p hn hv0 hv1 hk
    obtain ⟨k, rfl⟩ : ∃ m, k = m + 1 := ⟨k - 1, by omega⟩
    have hl : (p ++ run v (d + 1)).length = p.length + (d + 1) := by rw [List.length_append, run_length]
    have hg : (p ++ run v (d + 1)).getD p.length 0 = v := by simp [run]
    simp only [laws_heldIntS.l0]; rw [if_pos (by omega), if_pos (by omega), rd_at, hg, if_pos rfl, wrap_next (n := p.length + (d + 1)) (by omega) hn, wrap_small (x := v + 1) (by omega) (by omega)]
    have := ih k (v + 1) (p ++ [v]) (by simp; omega) (by omega) (by omega) (by omega)
    simp only [List.append_assoc, List.length_append, List.length_singleton, List.singleton_append] at this
    rw [show run v (d + 1) = v :: run (v + 1) d from rfl, this]
    congr 1; omega

theorem heldIntS_eq (v : Int) (n : Nat) (hn : n ≤ 140737488351232) (hv0 : 0 ≤ v) (hv1 : v ≤ 500000000000000000) (k : Nat) (hk : n < k) :
    laws_heldIntS.f k (run v n) v = some (v + n) := by
  unfold laws_heldIntS.f
  have := heldIntS_loop n k v [] (by simpa using hn) hv0 (by omega) hk
  simpa using this

theorem in_eq (a b c : Int) : impl_in.f a b c = some (decide (b ≤ a ∧ a ≤ c)) := by
  unfold impl_in.f
  by_cases h : a ≥ b
  · rw [if_pos h]; congr 1; simp only [decide_eq_decide]; omega
  · rw [if_neg h, decide_eq_false (by omega)]
theorem l1In_eq (a b c : Int) : spec_l1In.f a b c = some (decide (b ≤ a ∧ a ≤ c)) := by
  unfold spec_l1In.f
  by_cases h : a ≥ b
  · rw [if_pos h]; congr 1; simp only [decide_eq_decide]; omega
  · rw [if_neg h, decide_eq_false (by omega)]

/-- element j lies in 0..q and is above the one ahead of it -/
def riseOk (l : List Int) (q : Int) (j : Nat) : Bool := decide (0 ≤ l.getD j 0 ∧ l.getD j 0 ≤ q ∧ (0 < j → l.getD (j - 1) 0 < l.getD j 0))
def riseFrom (l : List Int) (q : Int) (j : Nat) : Nat → Bool
  | 0 => true
  | d + 1 => riseOk l q j && riseFrom l q (j + 1) d

theorem rise_round (l : List Int) (q : Int) (j : Nat) (x : Option Bool) (hn : l.length ≤ 1048576) (hj : j < l.length) :
    ((some (decide (0 ≤ l.getD j 0 ∧ l.getD j 0 ≤ q)) : Option Bool).bind fun t => (if t = true then (if (j : Int) > 0 then (if 0 ≤ (wrap64 ((j : Int) - 1)) then (if (wrap64 ((j : Int) - 1)) < (l.length : Int) then (if (rd l (wrap64 ((j : Int) - 1))) ≥ l.getD j 0 then (some false) else x) else (none)) else (none)) else x) else (some false)))
      = if riseOk l q j = true then x else some false := by
  simp only [Option.bind_some]
  by_cases h1 : 0 ≤ l.getD j 0 ∧ l.getD j 0 ≤ q
  · rw [decide_eq_true h1, if_pos rfl]
    by_cases h2 : (j : Int) > 0
    · have e : wrap64 ((j : Int) - 1) = ((j - 1 : Nat) : Int) := by rw [wrap_small (by omega) (by omega)]; omega
      rw [if_pos h2, e, if_pos (by omega), if_pos (by omega), rd_at]
      by_cases h3 : l.getD (j - 1) 0 ≥ l.getD j 0
      · rw [if_pos h3, if_neg (by unfold riseOk; simp only [decide_eq_true_eq]; intro h; have := h.2.2 (by omega); omega)]
      · rw [if_neg h3, if_pos (by unfold riseOk; simp only [decide_eq_true_eq]; exact ⟨h1.1, h1.2, fun _ => by omega⟩)]
    · rw [if_neg h2, if_pos (by unfold riseOk; simp only [decide_eq_true_eq]; exact ⟨h1.1, h1.2, fun h => by omega⟩)]
  · rw [decide_eq_false h1, if_neg (by simp), if_neg (by unfold riseOk; simp only [decide_eq_true_eq]; exact fun h => h1 ⟨h.1, h.2.1⟩)]

theorem rising_loop (l : List Int) (b : Int) (hn : l.length ≤ 1048576) (d : Nat) : ∀ (k j : Nat), j ≤ l.length → l.length - j = d → d < k →
    impl_rising.l0 k l b l l.length j = some (riseFrom l (wrap64 (b - 1)) j d) := by
  induction d with
  | zero =>
    intro k j hj hd hk
    obtain ⟨k, rfl⟩ : ∃ m, k = m + 1 := ⟨k - 1, by omega⟩
    simp only [impl_rising.l0]; rw [if_neg (by omega)]; rfl
  | succ d ih =>
    intro k j hj hd hk
    obtain ⟨k, rfl⟩ : ∃ m, k = m + 1 := ⟨k - 1, by omega⟩
    simp only [impl_rising.l0]; rw [if_pos (by omega), if_pos (by omega), if_pos (by omega), in_eq, wrap_next (n := l.length) (by omega) (by omega), rd_at, rise_round l _ j _ hn (by omega), ih k (j + 1) (by omega) (by omega) (by omega)]
    simp only [riseFrom]
    cases riseOk l (wrap64 (b - 1)) j <;> simp

theorem rising_eq (l : List Int) (b : Int) (hn : l.length ≤ 1048576) (k : Nat) (hk : l.length < k) : impl_rising.f k l b = some (riseFrom l (wrap64 (b - 1)) 0 l.length) := by
  unfold impl_rising.f
  exact rising_loop l b hn l.length k 0 (by omega) (by omega) hk

theorem l3List_loop (l : List Int) (b : Int) (hn : l.length ≤ 1048576) (d : Nat) : ∀ (k j : Nat), j ≤ l.length → l.length - j = d → d < k →
    spec_l3List.l0 k l b l l.length j = some (riseFrom l (wrap64 (b - 1)) j d) := by
  induction d with
  | zero =>
    intro k j hj hd hk
    obtain ⟨k, rfl⟩ : ∃ m, k = m + 1 := ⟨k - 1, by omega⟩
    simp only [spec_l3List.l0]; rw [if_neg (by omega)]; rfl
  | succ d ih =>
    intro k j hj hd hk
    obtain ⟨k, rfl⟩ : ∃ m, k = m + 1 := ⟨k - 1, by omega⟩
    simp only [spec_l3List.l0]; rw [if_pos (by omega), if_pos (by omega), if_pos (by omega), l1In_eq, wrap_next (n := l.length) (by omega) (by omega), rd_at, rise_round l _ j _ hn (by omega), ih k (j + 1) (by omega) (by omega) (by omega)]
    simp only [riseFrom]
    cases riseOk l (wrap64 (b - 1)) j <;> simp

theorem l3List_eq (l : List Int) (b : Int) (hn : l.length ≤ 1048576) (k : Nat) (hk : l.length < k) : spec_l3List.f k l b = some (riseFrom l (wrap64 (b - 1)) 0 l.length) := by
  unfold spec_l3List.f
  exact l3List_loop l b hn l.length k 0 (by omega) (by omega) hk

theorem l1Has_loop (l : List Int) (x : Int) (hn : l.length ≤ 1048576) (d : Nat) : ∀ (k j : Nat), j ≤ l.length → l.length - j = d → d < k →
    spec_l1Has.l0 k x l l.length j = some (decide (x ∈ l.drop j)) := by
  induction d with
  | zero =>
    intro k j hj hd hk
    obtain ⟨k, rfl⟩ : ∃ m, k = m + 1 := ⟨k - 1, by omega⟩
    simp only [spec_l1Has.l0]; rw [if_neg (by omega), List.drop_of_length_le (by omega)]; simp
  | succ d ih =>
    intro k j hj hd hk
    obtain ⟨k, rfl⟩ : ∃ m, k = m + 1 := ⟨k - 1, by omega⟩
    simp only [spec_l1Has.l0]; rw [if_pos (by omega), if_pos (by omega), if_pos (by omega), wrap_next (n := l.length) (by omega) (by omega), rd_at, drop_at l j (by omega)]
    by_cases h : l.getD j 0 = x
    · rw [if_pos h, ← h]; simp
    · rw [if_neg h, ih k (j + 1) (by omega) (by omega) (by omega)]; congr 1; simp only [decide_eq_decide, List.mem_cons]
      constructor
      · exact .inr
      · rintro (h1 | h1)
        · exact absurd h1.symm h
        · exact h1

theorem l1Has_eq (l : List Int) (x : Int) (hn : l.length ≤ 1048576) (k : Nat) (hk : l.length < k) : spec_l1Has.f k l x = some (decide (x ∈ l)) := by
  unfold spec_l1Has.f
  have := l1Has_loop l x hn l.length k 0 (by omega) (by omega) hk
  simpa using this

theorem Index_loop (l : List Int) (x : Int) (hn : l.length ≤ 1048576) (d : Nat) : ∀ (k j : Nat), j ≤ l.length → l.length - j = d → d < k →
    ∃ r, slices_Index_int_int.l0 k l x l.length j = some r ∧ decide (r ≥ 0) = decide (x ∈ l.drop j) := by
  induction d with
  | zero =>
    intro k j hj hd hk
    obtain ⟨k, rfl⟩ : ∃ m, k = m + 1 := ⟨k - 1, by omega⟩
    refine ⟨-1, ?_, ?_⟩
    · simp only [slices_Index_int_int.l0]; rw [if_neg (by omega)]
    · rw [List.drop_of_length_le (by omega)]; simp
  | succ d ih =>
    intro k j hj hd hk
    obtain ⟨k, rfl⟩ : ∃ m, k = m + 1 := ⟨k - 1, by omega⟩
    by_cases h : x = l.getD j 0
    · refine ⟨j, ?_, ?_⟩
      · simp only [slices_Index_int_int.l0]; rw [if_pos (by omega), if_pos (by omega), if_pos (by omega), rd_at, if_pos h]
      · rw [drop_at l j (by omega), ← h, decide_eq_true (by omega)]; simp
    · obtain ⟨r, hr, hd2⟩ := ih k (j + 1) (by omega) (by omega) (by omega)
      refine ⟨r, ?_, ?_⟩
      · simp only [slices_Index_int_int.l0]; rw [if_pos (by omega), if_pos (by omega), if_pos (by omega), rd_at, if_neg h, wrap_next (n := l.length) (by omega) (by omega), hr]
      · rw [hd2, drop_at l j (by omega)]; simp only [decide_eq_decide, List.mem_cons]
        constructor
        · exact .inr
        · rintro (h1 | h1)
          · exact absurd h1 h
          · exact h1

theorem Contains_eq (l : List Int) (x : Int) (hn : l.length ≤ 1048576) (k : Nat) (hk : l.length < k) : slices_Contains_int_int.f k l x = some (decide (x ∈ l)) := by
  unfold slices_Contains_int_int.f slices_Index_int_int.f
  obtain ⟨r, hr, hd⟩ := Index_loop l x hn l.length k 0 (by omega) (by omega) hk
  rw [show (0 : Int) = ((0 : Nat) : Int) from rfl, hr]; simp only [Option.bind_some]
  rw [show ((0 : Nat) : Int) = 0 from rfl, hd]; simp

theorem rd52_at (l : List S52) (j : Nat) : rd_T52 l (j : Int) = l.getD j z52 := by unfold rd_T52; rw [Int.toNat_natCast]
theorem rd53_at (l : List S53) (j : Nat) : rd_T53 l (j : Int) = l.getD j z53 := by unfold rd_T53; rw [Int.toNat_natCast]
theorem takeS_at {α : Type} (z : α) (l : List α) (j : Nat) (h : j < l.length) : l.take (j + 1) = l.take j ++ [l.getD j z] := by
  rw [List.take_succ_eq_append_getElem h, List.getD_eq_getElem?_getD, List.getElem?_eq_getElem h]; rfl
theorem dropS_at {α : Type} (z : α) (l : List α) (j : Nat) (h : j < l.length) : l.drop j = l.getD j z :: l.drop (j + 1) := by
  rw [List.drop_eq_getElem_cons h, List.getD_eq_getElem?_getD, List.getElem?_eq_getElem h]; rfl
theorem getD_mem {α : Type} (z : α) (l : List α) (j : Nat) (h : j < l.length) : l.getD j z ∈ l := by
  rw [List.getD_eq_getElem?_getD, List.getElem?_eq_getElem h]; exact List.getElem_mem h
def ShortT (x : S53) : Prop := x.f1.length ≤ 1048576
def taskOf (x : S52) : S53 := ⟨x.f0, x.f1⟩
def tasks (l : List S52) : List S53 := l.map taskOf
theorem tasks_length (l : List S52) : (tasks l).length = l.length := by unfold tasks; rw [List.length_map]
theorem getD_tasks (l : List S52) (j : Nat) (h : j < l.length) : (tasks l).getD j z53 = taskOf (l.getD j z52) := by
  unfold tasks; rw [List.getD_eq_getElem?_getD, List.getElem?_map, List.getElem?_eq_getElem h, List.getD_eq_getElem?_getD, List.getElem?_eq_getElem h]; rfl
theorem szIntS_eq (l : List Int) (a : Int) (h0 : 0 ≤ a) (h1 : a ≤ 1048576) (hl : l.length ≤ 9223372036854775807) : laws_szIntS.f l a = some (if (l.length : Int) ≤ a then a - l.length else -1) := by
  unfold laws_szIntS.f; rw [wrap_small (by omega) (by omega)]
  by_cases h : (l.length : Int) ≤ a
  · rw [if_neg (by omega), if_pos h]
  · rw [if_pos (by omega), if_neg h]
theorem szTask_eq (n : Int) (y : List Int) (a : Int) (h0 : 0 ≤ a) (h1 : a ≤ 1048576) (hy : y.length ≤ 9223372036854775807) :
    ∃ r, laws_szTask.f n y a = some r ∧ (r < 0 ∨ (0 ≤ r ∧ r ≤ a ∧ y.length ≤ 1048576)) := by
  unfold laws_szTask.f
  rw [szIntS_eq y a h0 h1 hy]; simp only [Option.bind_some]
  by_cases h : (y.length : Int) ≤ a
  · rw [if_pos h, if_neg (by omega)]
    exact ⟨_, rfl, .inr ⟨by omega, by omega, by omega⟩⟩
  · rw [if_neg h, if_pos (by omega)]
    exact ⟨_, rfl, .inl (by omega)⟩
theorem szTaskS_loop (l : List S52) (hn : l.length ≤ 1048576) (hy : ∀ y ∈ l, y.f1.length ≤ 9223372036854775807) (d : Nat) : ∀ (k j : Nat) (a : Int), 0 ≤ a → a ≤ 1048576 → j ≤ l.length → l.length - j = d → d < k →
    ∃ r, laws_szTaskS.l0 k l a j = some r ∧ (r < 0 ∨ (0 ≤ r ∧ ∀ i, j ≤ i → i < l.length → ShortT (taskOf (l.getD i z52)))) := by
  induction d with
  | zero =>
    intro k j a h0 h1 hj hd hk
    obtain ⟨k, rfl⟩ : ∃ m, k = m + 1 := ⟨k - 1, by omega⟩
    simp only [laws_szTaskS.l0]; rw [if_neg (by omega)]
    exact ⟨a, rfl, .inr ⟨h0, fun i hi hil => by omega⟩⟩
  | succ d ih =>
    intro k j a h0 h1 hj hd hk
    obtain ⟨k, rfl⟩ : ∃ m, k = m + 1 := ⟨k - 1, by omega⟩
    simp only [laws_szTaskS.l0]; rw [if_pos (by omega), if_pos (by omega), wrap_next (n := l.length) (by omega) (by omega), rd52_at]
    have hm := hy _ (getD_mem z52 l j (by omega))
    obtain ⟨r, hr, hc⟩ := szTask_eq (l.getD j z52).f0 (l.getD j z52).f1 a h0 h1 hm
    rw [hr]; simp only [Option.bind_some]
    rcases hc with hc | ⟨hc, hc2, hy2⟩
    · rw [if_pos hc]; exact ⟨_, rfl, .inl (by omega)⟩
    · rw [if_neg (by omega)]
      obtain ⟨r2, hr2, hc3⟩ := ih k (j + 1) r hc (by omega) (by omega) (by omega) (by omega)
      refine ⟨r2, hr2, ?_⟩
      rcases hc3 with hc3 | ⟨hc3, hs⟩
      · exact .inl hc3
      · refine .inr ⟨hc3, fun i hi hil => ?_⟩
        by_cases e : i = j
        · subst e; exact hy2
        · exact hs i (by omega) hil
theorem szTaskS_eq (l : List S52) (hl : l.length ≤ 9223372036854775807) (hy : ∀ y ∈ l, y.f1.length ≤ 9223372036854775807) (k : Nat) (hk : 1048576 < k) :
    ∃ r, laws_szTaskS.f k l 1048576 = some r ∧ (r < 0 ∨ (0 ≤ r ∧ l.length ≤ 1048576 ∧ ∀ x ∈ tasks l, ShortT x)) := by
  unfold laws_szTaskS.f
  rw [wrap_small (by omega) (by omega)]
  by_cases h : (1048576 : Int) - (l.length : Int) < 0
  · rw [if_pos h]; exact ⟨_, rfl, .inl (by omega)⟩
  · rw [if_neg h]
    obtain ⟨r, hr, hc⟩ := szTaskS_loop l (by omega) hy l.length k 0 (1048576 - (l.length : Int)) (by omega) (by omega) (by omega) (by omega) (by omega)
    rw [show ((0 : Nat) : Int) = 0 from rfl] at hr
    rw [hr]
    rcases hc with hc | ⟨hc, hs⟩
    · exact ⟨_, rfl, .inl (by omega)⟩
    · refine ⟨_, rfl, .inr ⟨hc, by omega, fun x hx => ?_⟩⟩
      unfold tasks at hx
      obtain ⟨y, hym, rfl⟩ := List.mem_map.1 hx
      obtain ⟨i, hi, rfl⟩ := List.getElem_of_mem hym
      have := hs i (by omega) hi
      rwa [List.getD_eq_getElem?_getD, List.getElem?_eq_getElem hi] at this
theorem toTaskS_loop (l : List S52) (hn : l.length ≤ 1048576) (hs : ∀ x ∈ tasks l, ShortT x) (d : Nat) : ∀ (k j : Nat) (x : List S53), x.length = l.length → x.take j = (tasks l).take j → j ≤ l.length → l.length - j = d → d + 1048576 < k →
    laws_toTaskS.l0 k l x j = some (tasks l) := by
  induction d with
  | zero =>
    intro k j x hx ht hj hd hk
    obtain ⟨k, rfl⟩ : ∃ m, k = m + 1 := ⟨k - 1, by omega⟩
    simp only [laws_toTaskS.l0]; rw [if_neg (by omega)]
    rw [List.take_of_length_le (by omega), List.take_of_length_le (by rw [tasks_length]; omega)] at ht; rw [ht]
  | succ d ih =>
    intro k j x hx ht hj hd hk
    obtain ⟨k, rfl⟩ : ∃ m, k = m + 1 := ⟨k - 1, by omega⟩
    have hm : ShortT (taskOf (l.getD j z52)) := by rw [← getD_tasks l j (by omega)]; exact hs _ (getD_mem z53 _ j (by rw [tasks_length]; omega))
    have h1 : (l.getD j z52).f1.length ≤ 1048576 := hm
    simp only [laws_toTaskS.l0]; rw [if_pos (by omega), if_pos (by omega), rd52_at]
    simp only [laws_toTask.f]; rw [toIntS_eq _ (by omega) k (by omega)]; simp only [Option.bind_some]
    rw [if_pos (by omega), wrap_next (n := l.length) (by omega) (by omega), Int.toNat_natCast]
    refine ih k (j + 1) _ (by rw [List.length_set]; exact hx) ?_ (by omega) (by omega) (by omega)
    rw [takeS_at z53 (tasks l) j (by rw [tasks_length]; omega), List.take_succ_eq_append_getElem (by rw [List.length_set]; omega), List.getElem_set_self, List.take_set_of_le (by omega), ht, getD_tasks l j (by omega)]; rfl
theorem toTaskS_eq (l : List S52) (hn : l.length ≤ 1048576) (hs : ∀ x ∈ tasks l, ShortT x) (k : Nat) (hk : 2097152 < k) : laws_toTaskS.f k l = some (tasks l) := by
  unfold laws_toTaskS.f
  rw [if_pos (by omega), Int.toNat_natCast, if_pos (by omega)]
  have := toTaskS_loop l hn hs l.length k 0 (List.replicate l.length z53) (by simp) (by simp) (by omega) (by omega) (by omega)
  rw [show ((0 : Nat) : Int) = 0 from rfl] at this
  exact this
theorem eqTaskS_loop (a : List S53) (hn : a.length ≤ 1048576) (hs : ∀ x ∈ a, ShortT x) (d : Nat) : ∀ (k j : Nat), j ≤ a.length → a.length - j = d → d + 1048576 < k →
    laws_eqTaskS.l0 k a a j = some true := by
  induction d with
  | zero =>
    intro k j hj hd hk
    obtain ⟨k, rfl⟩ : ∃ m, k = m + 1 := ⟨k - 1, by omega⟩
    simp only [laws_eqTaskS.l0]; rw [if_neg (by omega)]
  | succ d ih =>
    intro k j hj hd hk
    obtain ⟨k, rfl⟩ : ∃ m, k = m + 1 := ⟨k - 1, by omega⟩
    have h1 : (a.getD j z53).f1.length ≤ 1048576 := hs _ (getD_mem z53 a j (by omega))
    simp only [laws_eqTaskS.l0]; rw [if_pos (by omega), if_pos (by omega), if_pos (by omega), rd53_at]
    simp only [laws_eqTask.f, if_true]; rw [eqIntS_self _ (by omega) k (by omega)]; simp only [Option.bind_some, if_true]
    rw [wrap_next (n := a.length) (by omega) (by omega)]
    exact ih k (j + 1) (by omega) (by omega) (by omega)
theorem eqTaskS_self (a : List S53) (hn : a.length ≤ 1048576) (hs : ∀ x ∈ a, ShortT x) (k : Nat) (hk : 2097152 < k) : laws_eqTaskS.f k a a = some true := by
  unfold laws_eqTaskS.f
  rw [if_pos rfl]
  have := eqTaskS_loop a hn hs a.length k 0 (by omega) (by omega) (by omega)
  rw [show ((0 : Nat) : Int) = 0 from rfl] at this
  exact this

theorem tot53_bound (l : List S53) (hs : ∀ x ∈ l, ShortT x) : tot53 l ≤ l.length * 1048577 := by
  unfold tot53
  induction l with
  | nil => simp
  | cons x l ih =>
    have h1 : x.f1.length ≤ 1048576 := hs x List.mem_cons_self
    have h2 := ih (fun y hy => hs y (List.mem_cons_of_mem _ hy))
    simp only [List.map_cons, List.sum_cons, List.length_cons]
    omega

/-- task i is not out, and all that it needs is -/
def readyB (l : List S53) (out : List Int) (i : Nat) : Bool := !(decide ((i : Int) ∈ out)) && (l.getD i z53).f1.all (fun x => decide (x ∈ out))
/-- the first ready task from j on, d tasks long; -1 without one -/
def firstB (l : List S53) (out : List Int) : Nat → Nat → Int
  | 0, _ => -1
  | d + 1, j => if readyB l out j = true then (j : Int) else firstB l out d (j + 1)
theorem firstB_ge (l : List S53) (out : List Int) (d : Nat) : ∀ j, firstB l out d j = -1 ∨ ∃ i : Nat, firstB l out d j = i ∧ j ≤ i ∧ i < j + d ∧ readyB l out i = true ∧ ∀ m, j ≤ m → m < i → readyB l out m = false := by
  induction d with
  | zero => intro j; exact .inl rfl
  | succ d ih =>
    intro j
    simp only [firstB]
    by_cases h : readyB l out j = true
    · rw [if_pos h]; exact .inr ⟨j, rfl, Nat.le_refl _, by omega, h, fun m h1 h2 => by omega⟩
    · rw [if_neg h]
      rcases ih (j + 1) with h1 | ⟨i, h1, h2, h3, h4, h5⟩
      · exact .inl h1
      · refine .inr ⟨i, h1, by omega, by omega, h4, fun m h6 h7 => ?_⟩
        by_cases e : m = j
        · subst e; exact Bool.eq_false_iff.2 h
        · exact h5 m (by omega) h7
theorem firstB_none (l : List S53) (out : List Int) (d : Nat) : ∀ j, firstB l out d j = -1 → ∀ m, j ≤ m → m < j + d → readyB l out m = false := by
  induction d with
  | zero => intro j _ m h1 h2; omega
  | succ d ih =>
    intro j h m h1 h2
    simp only [firstB] at h
    by_cases hr : readyB l out j = true
    · rw [if_pos hr] at h; omega
    · rw [if_neg hr] at h
      by_cases e : m = j
      · subst e; exact Bool.eq_false_iff.2 hr
      · exact ih (j + 1) h m (by omega) (by omega)
/-- all needs lie in the plan -/
def NeedIn (l : List S53) : Prop := ∀ t ∈ l, ∀ x ∈ t.f1, 0 ≤ x ∧ x < l.length
/-- how many of the first numbers are out -/
def cntIn (out : List Int) : Nat → Nat
  | 0 => 0
  | n + 1 => cntIn out n + if (n : Int) ∈ out then 1 else 0
theorem cntIn_le (out : List Int) (n : Nat) : cntIn out n ≤ n := by
  induction n with
  | zero => exact Nat.le_refl _
  | succ n ih => simp only [cntIn]; split <;> omega
theorem cntIn_all (out : List Int) (n : Nat) (h : cntIn out n = n) : ∀ j : Nat, j < n → (j : Int) ∈ out := by
  induction n with
  | zero => intro j hj; omega
  | succ n ih =>
    intro j hj
    simp only [cntIn] at h
    have := cntIn_le out n
    by_cases hn : (n : Int) ∈ out
    · rw [if_pos hn] at h
      by_cases e : j = n
      · subst e; exact hn
      · exact ih (by omega) j (by omega)
    · rw [if_neg hn] at h; omega
theorem cntIn_add (out : List Int) (i : Nat) (hi : (i : Int) ∉ out) (n : Nat) : cntIn (out ++ [(i : Int)]) n = cntIn out n + if i < n then 1 else 0 := by
  induction n with
  | zero => simp [cntIn]
  | succ n ih =>
    simp only [cntIn, ih]
    have hmem : ((n : Int) ∈ out ++ [(i : Int)]) ↔ ((n : Int) ∈ out ∨ n = i) := by
      rw [List.mem_append, List.mem_singleton]
      constructor
      · rintro (h | h)
        · exact .inl h
        · exact .inr (by omega)
      · rintro (h | h)
        · exact .inl h
        · exact .inr (by omega)
    by_cases e : n = i
    · subst e
      rw [if_pos (hmem.2 (.inr rfl)), if_neg hi, if_neg (Nat.lt_irrefl n), if_pos (Nat.lt_succ_self n)]
    · by_cases h2 : (n : Int) ∈ out
      · rw [if_pos (hmem.2 (.inl h2)), if_pos h2]
        by_cases h3 : i < n
        · rw [if_pos h3, if_pos (show i < n + 1 by omega)]
        · rw [if_neg h3, if_neg (show ¬ i < n + 1 by omega)]
      · rw [if_neg (fun h => (hmem.1 h).elim h2 e), if_neg h2]
        by_cases h3 : i < n
        · rw [if_pos h3, if_pos (show i < n + 1 by omega)]
        · rw [if_neg h3, if_neg (show ¬ i < n + 1 by omega)]
/-- what stands out so far: each behind all that it needs -/
structure OutOK (l : List S53) (out : List Int) : Prop where
  rng : ∀ x ∈ out, 0 ≤ x ∧ x < l.length
  cnt : cntIn out l.length = out.length
  topo : ∀ (a b : List Int) (x : Int), out = a ++ x :: b → x ∉ a ∧ ∀ y ∈ (l.getD x.toNat z53).f1, y ∈ a
theorem OutOK.nil (l : List S53) : OutOK l [] := ⟨by simp, by
  have : ∀ n, cntIn [] n = 0 := by intro n; induction n with
    | zero => rfl
    | succ n ih => simp [cntIn, ih]
  simp [this], fun a b x h => by simp at h⟩
theorem OutOK.snoc {l : List S53} {out : List Int} (h : OutOK l out) {i : Nat} (hi : i < l.length) (hr : readyB l out i = true) : OutOK l (out ++ [(i : Int)]) := by
  unfold readyB at hr
  simp only [Bool.and_eq_true, Bool.not_eq_true', decide_eq_false_iff_not, List.all_eq_true, decide_eq_true_eq] at hr
  refine ⟨fun x hx => ?_, ?_, fun a b x hab => ?_⟩
  · rcases List.mem_append.1 hx with hx | hx
    · exact h.rng x hx
    · rw [List.mem_singleton.1 hx]; omega
  · rw [cntIn_add out i hr.1, if_pos hi, h.cnt, List.length_append]; rfl
  · rcases List.eq_nil_or_concat b with rfl | ⟨b', z, rfl⟩
    · have := List.append_inj' hab rfl
      obtain ⟨rfl, h2⟩ := this
      simp only [List.cons.injEq, and_true] at h2
      subst h2
      rw [Int.toNat_natCast]
      exact ⟨hr.1, hr.2⟩
    · rw [List.concat_eq_append, show a ++ x :: (b' ++ [z]) = (a ++ x :: b') ++ [z] by simp] at hab
      have := List.append_inj' hab rfl
      exact h.topo a b' x this.1
theorem OutOK.len {l : List S53} {out : List Int} (h : OutOK l out) : out.length ≤ l.length := by
  rw [← h.cnt]; exact cntIn_le _ _
theorem OutOK.full {l : List S53} {out : List Int} (h : OutOK l out) (hl : out.length = l.length) : ∀ j : Nat, j < l.length → (j : Int) ∈ out := cntIn_all out l.length (by rw [h.cnt, hl])
theorem OutOK.stop {l : List S53} {out : List Int} (h : OutOK l out) (hl : out.length = l.length) : firstB l out l.length 0 = -1 := by
  rcases firstB_ge l out l.length 0 with h1 | ⟨i, h1, _, h3, h4, _⟩
  · exact h1
  · have := h.full hl i (by omega)
    unfold readyB at h4
    rw [decide_eq_true this] at h4
    cases h4
/-- the program's flags are what stands out -/
def Flags (l : List S53) (out : List Int) (done : List Bool) : Prop := done.length = l.length ∧ ∀ i : Nat, i < l.length → done.getD i false = decide ((i : Int) ∈ out)
theorem rdOf_at {α : Type} (d : α) (xs : List α) (j : Nat) : rdOf d xs (j : Int) = xs.getD j d := by unfold rdOf; rw [Int.toNat_natCast]
theorem find_first {l : List S53} (hn : NeedIn l) {out : List Int} {done : List Bool} (hf : Flags l out done) (d : Nat) : ∀ j, j ≤ l.length → l.length - j = d → findGo done (l.drop j) j = some (firstB l out d j) := by
  induction d with
  | zero =>
    intro j hj hd
    rw [List.drop_of_length_le (by omega)]; rfl
  | succ d ih =>
    intro j hj hd
    have hjl : j < l.length := by omega
    rw [dropS_at z53 l j hjl]
    simp only [findGo, firstB]
    rw [rdOf_at, hf.2 j hjl]
    have hin : ∀ x ∈ (l.getD j z53).f1, 0 ≤ x ∧ x < (done.length : Int) := fun x hx => by rw [hf.1]; exact hn _ (getD_mem z53 l j hjl) x hx
    have hany : needAny done (l.getD j z53).f1 = some (!((l.getD j z53).f1.all fun x => decide (x ∈ out))) := by
      unfold needAny
      rw [if_pos hin]
      congr 1
      rw [List.not_all_eq_any_not]
      apply Bool.eq_iff_iff.2
      simp only [List.any_eq_true]
      constructor
      · rintro ⟨x, hx, h⟩
        have h2 := hin x hx
        obtain ⟨i, rfl⟩ := Int.eq_ofNat_of_zero_le h2.1
        rw [rdOf_at, hf.2 i (by rw [← hf.1]; omega)] at h
        exact ⟨_, hx, h⟩
      · rintro ⟨x, hx, h⟩
        have h2 := hin x hx
        obtain ⟨i, rfl⟩ := Int.eq_ofNat_of_zero_le h2.1
        refine ⟨_, hx, ?_⟩
        rw [rdOf_at, hf.2 i (by rw [← hf.1]; omega)]
        exact h
    rw [hany, ih (j + 1) (by omega) (by omega)]
    by_cases e : (j : Int) ∈ out
    · have hr : ¬ readyB l out j = true := by unfold readyB; rw [decide_eq_true e]; simp
      rw [if_pos (decide_eq_true e), if_neg hr]
    · rw [if_neg (by rw [decide_eq_false e]; simp)]
      simp only [Option.bind_some]
      by_cases h : ((l.getD j z53).f1.all fun x => decide (x ∈ out)) = true
      · have hr : readyB l out j = true := by unfold readyB; rw [h, decide_eq_false e]; rfl
        rw [if_neg (by rw [h]; simp), if_pos hr]
      · rw [Bool.not_eq_true] at h
        have hr : ¬ readyB l out j = true := by unfold readyB; rw [h]; simp
        rw [if_pos (by rw [h]; rfl), if_neg hr]
theorem Flags.snoc {l : List S53} {out : List Int} {done : List Bool} (hf : Flags l out done) {i : Nat} (hi : i < l.length) : Flags l (out ++ [(i : Int)]) (done.set i true) := by
  refine ⟨by rw [List.length_set]; exact hf.1, fun j hj => ?_⟩
  rw [List.getD_eq_getElem?_getD, List.getElem?_set]
  by_cases e : i = j
  · subst e
    rw [if_pos rfl, if_pos (by rw [hf.1]; exact hi)]
    simp
  · rw [if_neg e, ← List.getD_eq_getElem?_getD, hf.2 j hj]
    simp only [decide_eq_decide, List.mem_append, List.mem_singleton]
    constructor
    · exact .inl
    · rintro (h | h)
      · exact h
      · omega
theorem spec_order_l2 {l : List S53} (hl : l.length ≤ 1000) {out : List Int} (hlen : out.length < l.length) (i : Nat) (hi : i < l.length) (hs : (l.getD i z53).f1.length ≤ 1048576) (r : List Int × Bool) (b : Nat) : ∀ (j : Nat) (rd : Bool), j ≤ (l.getD i z53).f1.length → (l.getD i z53).f1.length - j = b →
        ((rd && ((l.getD i z53).f1.drop j).all fun x => decide (x ∈ out)) = true → Ev (fun k => spec_l4Order.l0 k l (out ++ [(i : Int)])) r) →
        ((rd && ((l.getD i z53).f1.drop j).all fun x => decide (x ∈ out)) = false → Ev (fun k => spec_l4Order.l1 k l out (-1) l l.length ((i + 1 : Nat) : Int)) r) →
        Ev (fun k => spec_l4Order.l2 k l out (-1) i rd l l.length i (l.getD i z53).f1 (l.getD i z53).f1.length j) r := by
  induction b with
  | zero =>
    intro j rd hj hb h1 h2
    rw [List.drop_of_length_le (by omega)] at h1 h2
    simp only [List.all_nil, Bool.and_true] at h1 h2
    cases rd with
    | true =>
      refine Ev.step (fun k => ?_) (h1 rfl)
      simp only [spec_l4Order.l2]
      rw [if_neg (by omega)]; simp only [if_true]; rw [if_neg (by omega), if_pos (by omega)]
    | false =>
      refine Ev.step (fun k => ?_) (h2 rfl)
      simp only [spec_l4Order.l2]
      rw [if_neg (by omega), if_neg (by decide), wrap_next hi (by omega)]
  | succ b ihb =>
    intro j rd hj hb h1 h2
    have hjl : j < (l.getD i z53).f1.length := by omega
    rw [drop_at _ j hjl, List.all_cons] at h1 h2
    cases rd with
    | true =>
      simp only [Bool.true_and] at h1 h2
      obtain ⟨K, hK⟩ := ihb (j + 1) (decide ((l.getD i z53).f1.getD j 0 ∈ out)) (by omega) (by omega) h1 h2
      refine ⟨K + l.length + 2, fun k hk => ?_⟩
      obtain ⟨k, rfl⟩ : ∃ m, k = m + 1 := ⟨k - 1, by omega⟩
      simp only [spec_l4Order.l2]
      rw [if_pos (by omega), if_pos (by omega), if_pos (by omega)]; simp only [if_true]; rw [rd_at, l1Has_eq out _ (by omega) k (by omega)]
      simp only [Option.bind_some]
      rw [wrap_next hjl (by omega)]
      exact hK k (by omega)
    | false =>
      simp only [Bool.false_and] at h1 h2
      have := ihb (j + 1) false (by omega) (by omega) (fun h => by simp at h) (fun _ => h2 trivial)
      refine Ev.step (fun k => ?_) this
      simp only [spec_l4Order.l2]
      rw [if_pos (by omega), if_pos (by omega), if_pos (by omega), if_neg (by decide), wrap_next hjl (by omega)]
theorem spec_order_l1 {l : List S53} (hl : l.length ≤ 1000) (hs : ∀ x ∈ l, ShortT x) {out : List Int} (hlen : out.length < l.length) (r : List Int × Bool) (b : Nat) : ∀ (j : Nat), j ≤ l.length → l.length - j = b →
    (∀ i : Nat, firstB l out b j = i → Ev (fun k => spec_l4Order.l0 k l (out ++ [(i : Int)])) r) → (firstB l out b j = -1 → r = ([], false)) → Ev (fun k => spec_l4Order.l1 k l out (-1) l l.length j) r := by
  induction b with
  | zero =>
    intro j hj hb h1 h2
    rw [h2 rfl]
    refine Ev.step (f := fun _ => some ([], false)) (fun k => ?_) (Ev.now _)
    simp only [spec_l4Order.l1]
    rw [if_neg (by omega), if_pos (by decide)]
  | succ b ih =>
    intro j hj hb h1 h2
    have hjl : j < l.length := by omega
    simp only [firstB] at h1 h2
    have hsj : (l.getD j z53).f1.length ≤ 1048576 := hs _ (getD_mem z53 l j hjl)
    have hin := spec_order_l2 hl hlen j hjl hsj r (l.getD j z53).f1.length 0 (!(decide ((j : Int) ∈ out))) (by omega) (by omega)
      (fun h => by
        rw [List.drop_zero] at h
        exact h1 j (by rw [if_pos (show readyB l out j = true from h)]))
      (fun h => by
        rw [List.drop_zero] at h
        have hr : ¬ readyB l out j = true := by unfold readyB; rw [h]; decide
        rw [if_neg hr] at h1 h2
        exact ih (j + 1) (by omega) (by omega) h1 h2)
    obtain ⟨K, hK⟩ := hin
    refine ⟨K + l.length + 2, fun k hk => ?_⟩
    obtain ⟨k, rfl⟩ : ∃ m, k = m + 1 := ⟨k - 1, by omega⟩
    simp only [spec_l4Order.l1]
    rw [if_pos (by omega), if_pos (by omega), if_pos (by omega), l1Has_eq out _ (by omega) k (by omega), rd53_at]
    simp only [Option.bind_some]
    exact hK k (by omega)
/-- where the order ends -/
theorem order_go {l : List S53} (hn : NeedIn l) (hl : l.length ≤ 1000) (hs : ∀ x ∈ l, ShortT x) (d : Nat) : ∀ (out : List Int) (done : List Bool), OutOK l out → Flags l out done → l.length - out.length = d →
    ∃ O, OutOK l O ∧ firstB l O l.length 0 = -1 ∧ (∀ q, d < q → ordGo l q out done = some O) ∧ (∃ t, O = out ++ t) ∧
      ∀ r, (O.length = l.length → r = (O, true)) → (O.length ≠ l.length → r = ([], false)) → Ev (fun k => spec_l4Order.l0 k l out) r := by
  induction d with
  | zero =>
    intro out done ho hf hd
    have hlen : out.length = l.length := by have := ho.len; omega
    refine ⟨out, ho, ho.stop hlen, fun q hq => ?_, ⟨[], by simp⟩, fun r h1 h2 => ?_⟩
    · obtain ⟨q, rfl⟩ : ∃ m, q = m + 1 := ⟨q - 1, by omega⟩
      simp only [ordGo]
      have := find_first hn hf l.length 0 (by omega) (by omega)
      rw [List.drop_zero] at this
      rw [this, ho.stop hlen]; rfl
    · rw [h1 hlen]
      refine Ev.step (f := fun _ => some (out, true)) (fun k => ?_) (Ev.now _)
      simp only [spec_l4Order.l0]
      rw [if_neg (by omega)]
  | succ d ih =>
    intro out done ho hf hd
    have hlen : out.length < l.length := by omega
    have hfind := find_first hn hf l.length 0 (by omega) (by omega)
    rw [List.drop_zero] at hfind
    rcases firstB_ge l out l.length 0 with h1 | ⟨i, h1, _, h3, h4, _⟩
    · refine ⟨out, ho, h1, fun q hq => ?_, ⟨[], by simp⟩, fun r _ h2 => ?_⟩
      · obtain ⟨q, rfl⟩ : ∃ m, q = m + 1 := ⟨q - 1, by omega⟩
        simp only [ordGo]
        rw [show findGo done l 0 = _ from hfind, h1]; rfl
      · have h5 := spec_order_l1 hl hs hlen r l.length 0 (by omega) (by omega) (fun i hi => by rw [h1] at hi; omega) (fun _ => h2 (by omega))
        refine Ev.step (fun k => ?_) h5
        simp only [spec_l4Order.l0]
        rw [if_pos (by omega)]; rfl
    · have hil : i < l.length := by omega
      obtain ⟨O, hO1, hO2, hO3, ⟨t, hO4⟩, hO5⟩ := ih (out ++ [(i : Int)]) (done.set i true) (ho.snoc hil h4) (hf.snoc hil) (by rw [List.length_append]; simp; omega)
      refine ⟨O, hO1, hO2, fun q hq => ?_, ⟨[(i : Int)] ++ t, by rw [hO4]; simp⟩, fun r hr1 hr2 => ?_⟩
      · obtain ⟨q, rfl⟩ : ∃ m, q = m + 1 := ⟨q - 1, by omega⟩
        simp only [ordGo]
        rw [show findGo done l 0 = _ from hfind, h1]; simp only [Option.bind_some]
        rw [if_neg (by omega), if_pos (by omega), Int.toNat_natCast]
        exact hO3 q (by omega)
      · have h5 := spec_order_l1 hl hs hlen r l.length 0 (by omega) (by omega) (fun i' hi' => by
          rw [h1] at hi'
          have : i = i' := by omega
          subst this
          exact hO5 r hr1 hr2) (fun h => by rw [h1] at h; omega)
        refine Ev.step (fun k => ?_) h5
        simp only [spec_l4Order.l0]
        rw [if_pos (by omega)]; rfl
theorem order_both {l : List S53} (hn : NeedIn l) (hl : l.length ≤ 1000) (hs : ∀ x ∈ l, ShortT x) : ∃ O, OutOK l O ∧ firstB l O l.length 0 = -1 ∧ (∀ k, l.length < k → impl_order.f k l = some O) ∧ Ev (fun k => spec_l4Order.f k l) (if O.length = l.length then (O, true) else ([], false)) := by
  obtain ⟨O, h1, h2, h3, _, h5⟩ := order_go hn hl hs l.length [] (List.replicate l.length false) (OutOK.nil l) ⟨List.length_replicate, fun i hi => by simp [List.getD_eq_getElem?_getD, hi]⟩ (by simp)
  refine ⟨O, h1, h2, fun k hk => ?_, ?_⟩
  · unfold impl_order.f
    rw [if_pos (by omega)]
    exact h3 k hk
  · have := h5 (if O.length = l.length then (O, true) else ([], false)) (fun h => by rw [if_pos h]) (fun h => by rw [if_neg h])
    exact this

def taskOk (n : Nat) (i : Nat) (t : S53) : Bool := decide (1 ≤ t.f0 ∧ t.f0 ≤ 100) && (riseFrom t.f1 (wrap64 ((n : Int) - 1)) 0 t.f1.length && !(decide ((i : Int) ∈ t.f1)))
def tasksOk (l : List S53) (d : Nat) : Nat → Bool := fun j => (List.range d).all fun m => taskOk l.length (j + m) (l.getD (j + m) z53)
def tasksFrom (l : List S53) : Nat → Nat → Bool
  | 0, _ => true
  | d + 1, j => taskOk l.length j (l.getD j z53) && tasksFrom l d (j + 1)
theorem tasksFrom_all (l : List S53) (d : Nat) : ∀ j, tasksFrom l d j = true → ∀ i, j ≤ i → i < j + d → taskOk l.length i (l.getD i z53) = true := by
  induction d with
  | zero => intro j _ i h1 h2; omega
  | succ d ih =>
    intro j h i h1 h2
    simp only [tasksFrom, Bool.and_eq_true] at h
    by_cases e : i = j
    · subst e; exact h.1
    · exact ih (j + 1) h.2 i (by omega) (by omega)
theorem spec_plan_loop (l : List S53) (hn : l.length ≤ 30) (hs : ∀ x ∈ l, ShortT x) (d : Nat) : ∀ (j : Nat), j ≤ l.length → l.length - j = d → ∀ r : Bool,
    (tasksFrom l d j = false → r = false) → (tasksFrom l d j = true → ∃ p : List Int × Bool, p.2 = r ∧ Ev (fun k => spec_l4Order.f k l) p) → Ev (fun k => spec_GoodPlan.l0 k l l l.length j) r := by
  induction d with
  | zero =>
    intro j hj hd r h1 h2
    obtain ⟨p, rfl, h3⟩ := h2 rfl
    refine Ev.step (f := fun k => (spec_l4Order.f k l).bind fun b => some b.2) (fun k => ?_) (Ev.bind (f := fun _ b => some b.2) h3 (Ev.now p.2))
    simp only [spec_GoodPlan.l0]; rw [if_neg (by omega)]
  | succ d ih =>
    intro j hj hd r h1 h2
    have hjl : j < l.length := by omega
    have hsj : (l.getD j z53).f1.length ≤ 1048576 := hs _ (getD_mem z53 l j hjl)
    simp only [tasksFrom] at h1 h2
    have hrec : taskOk l.length j (l.getD j z53) = true → Ev (fun k => spec_GoodPlan.l0 k l l l.length ((j + 1 : Nat) : Int)) r := fun hk => by
      rw [hk, Bool.true_and] at h1 h2
      exact ih (j + 1) (by omega) (by omega) r h1 h2
    cases hk : taskOk l.length j (l.getD j z53) with
    | true =>
      obtain ⟨K, hK⟩ := hrec hk
      refine ⟨K + 1048580, fun k hkk => ?_⟩
      obtain ⟨k, rfl⟩ : ∃ m, k = m + 1 := ⟨k - 1, by omega⟩
      unfold taskOk at hk
      simp only [Bool.and_eq_true, Bool.not_eq_true'] at hk
      simp only [spec_GoodPlan.l0]
      rw [if_pos (by omega), if_pos (by omega), if_pos (by omega), rd53_at, l1In_eq, hk.1]; simp only [Option.bind_some, if_true]
      rw [l3List_eq _ _ hsj k (by omega), hk.2.1]; simp only [Option.bind_some, if_true]
      rw [l1Has_eq _ _ hsj k (by omega), hk.2.2]; simp only [Option.bind_some]
      rw [if_neg (by decide), wrap_next hjl (by omega)]
      exact hK k (by omega)
    | false =>
      rw [hk, Bool.false_and] at h1
      obtain rfl := h1 rfl
      refine ⟨1048580, fun k hkk => ?_⟩
      obtain ⟨k, rfl⟩ : ∃ m, k = m + 1 := ⟨k - 1, by omega⟩
      unfold taskOk at hk
      simp only [spec_GoodPlan.l0]
      rw [if_pos (by omega), if_pos (by omega), if_pos (by omega), rd53_at, l1In_eq]; simp only [Option.bind_some]
      by_cases c1 : 1 ≤ (l.getD j z53).f0 ∧ (l.getD j z53).f0 ≤ 100
      · rw [decide_eq_true c1, Bool.true_and] at hk
        rw [decide_eq_true c1, if_pos rfl, l3List_eq _ _ hsj k (by omega)]; simp only [Option.bind_some]
        cases c2 : riseFrom (l.getD j z53).f1 (wrap64 ((l.length : Int) - 1)) 0 (l.getD j z53).f1.length with
        | true =>
          rw [c2, Bool.true_and, Bool.not_eq_false'] at hk
          rw [if_pos rfl, l1Has_eq _ _ hsj k (by omega), hk]; simp
        | false => rw [if_neg (by decide)]
      · rw [decide_eq_false c1, if_neg (by decide)]
theorem impl_plan_loop (l : List S53) (hn : l.length ≤ 30) (hs : ∀ x ∈ l, ShortT x) (d : Nat) : ∀ (j : Nat), j ≤ l.length → l.length - j = d → ∀ r : Bool,
    (tasksFrom l d j = false → r = false) → (tasksFrom l d j = true → ∃ O : List Int, ((O.length : Int) == (l.length : Int)) = r ∧ Ev (fun k => impl_order.f k l) O) → Ev (fun k => impl_GoodPlan.l0 k l l l.length j) r := by
  induction d with
  | zero =>
    intro j hj hd r h1 h2
    obtain ⟨p, rfl, h3⟩ := h2 rfl
    refine Ev.step (f := fun k => (impl_order.f k l).bind fun b => some ((b.length : Int) == (l.length : Int))) (fun k => ?_) (Ev.bind (f := fun _ b => some ((b.length : Int) == (l.length : Int))) h3 (Ev.now _))
    simp only [impl_GoodPlan.l0]; rw [if_neg (by omega)]
  | succ d ih =>
    intro j hj hd r h1 h2
    have hjl : j < l.length := by omega
    have hsj : (l.getD j z53).f1.length ≤ 1048576 := hs _ (getD_mem z53 l j hjl)
    simp only [tasksFrom] at h1 h2
    have hrec : taskOk l.length j (l.getD j z53) = true → Ev (fun k => impl_GoodPlan.l0 k l l l.length ((j + 1 : Nat) : Int)) r := fun hk => by
      rw [hk, Bool.true_and] at h1 h2
      exact ih (j + 1) (by omega) (by omega) r h1 h2
    cases hk : taskOk l.length j (l.getD j z53) with
    | true =>
      obtain ⟨K, hK⟩ := hrec hk
      refine ⟨K + 1048580, fun k hkk => ?_⟩
      obtain ⟨k, rfl⟩ : ∃ m, k = m + 1 := ⟨k - 1, by omega⟩
      unfold taskOk at hk
      simp only [Bool.and_eq_true, Bool.not_eq_true'] at hk
      simp only [impl_GoodPlan.l0]
      rw [if_pos (by omega), if_pos (by omega), if_pos (by omega), rd53_at, in_eq, hk.1]; simp only [Option.bind_some, if_true]
      rw [rising_eq _ _ hsj k (by omega), hk.2.1]; simp only [Option.bind_some, if_true]
      rw [Contains_eq _ _ hsj k (by omega), hk.2.2]; simp only [Option.bind_some]
      rw [if_neg (by decide), wrap_next hjl (by omega)]
      exact hK k (by omega)
    | false =>
      rw [hk, Bool.false_and] at h1
      obtain rfl := h1 rfl
      refine ⟨1048580, fun k hkk => ?_⟩
      obtain ⟨k, rfl⟩ : ∃ m, k = m + 1 := ⟨k - 1, by omega⟩
      unfold taskOk at hk
      simp only [impl_GoodPlan.l0]
      rw [if_pos (by omega), if_pos (by omega), if_pos (by omega), rd53_at, in_eq]; simp only [Option.bind_some]
      by_cases c1 : 1 ≤ (l.getD j z53).f0 ∧ (l.getD j z53).f0 ≤ 100
      · rw [decide_eq_true c1, Bool.true_and] at hk
        rw [decide_eq_true c1, if_pos rfl, rising_eq _ _ hsj k (by omega)]; simp only [Option.bind_some]
        cases c2 : riseFrom (l.getD j z53).f1 (wrap64 ((l.length : Int) - 1)) 0 (l.getD j z53).f1.length with
        | true =>
          rw [c2, Bool.true_and, Bool.not_eq_false'] at hk
          rw [if_pos rfl, Contains_eq _ _ hsj k (by omega), hk]; simp
        | false => rw [if_neg (by decide)]
      · rw [decide_eq_false c1, if_neg (by decide)]
theorem rise_bound (l : List Int) (q : Int) (h : riseFrom l q 0 l.length = true) : ∀ p ∈ l, 0 ≤ p ∧ p ≤ q := by
  have key : ∀ (d j : Nat), j + d = l.length → riseFrom l q j d = true → ∀ i, j ≤ i → i < l.length → 0 ≤ l.getD i 0 ∧ l.getD i 0 ≤ q := by
    intro d
    induction d with
    | zero => intro j hj _ i h1 h2; omega
    | succ d ih =>
      intro j hj h i h1 h2
      simp only [riseFrom, Bool.and_eq_true] at h
      by_cases e : i = j
      · subst e; have h3 := h.1; unfold riseOk at h3; simp only [decide_eq_true_eq] at h3; exact ⟨h3.1, h3.2.1⟩
      · exact ih (j + 1) (by omega) h.2 i (by omega) h2
  intro p hp
  obtain ⟨i, hi, rfl⟩ := List.getElem_of_mem hp
  have := key l.length 0 (by omega) h i (by omega) hi
  rwa [List.getD_eq_getElem?_getD, List.getElem?_eq_getElem hi] at this
theorem need_in (l : List S53) (hn : l.length ≤ 30) (h : tasksFrom l l.length 0 = true) : NeedIn l := by
  intro t ht x hx
  obtain ⟨i, hi, rfl⟩ := List.getElem_of_mem ht
  have := tasksFrom_all l l.length 0 h i (by omega) (by omega)
  unfold taskOk at this
  simp only [Bool.and_eq_true] at this
  rw [List.getD_eq_getElem?_getD, List.getElem?_eq_getElem hi] at this
  have h2 := rise_bound _ _ this.2.1 x hx
  rw [wrap_small (by omega) (by omega)] at h2
  omega
/-- a good plan, and its order -/
structure Plan (l : List S53) (O : List Int) : Prop where
  len : l.length ≤ 30
  ok : ∀ i, i < l.length → 1 ≤ (l.getD i z53).f0 ∧ (l.getD i z53).f0 ≤ 100
  need : NeedIn l
  out : OutOK l O
  full : O.length = l.length
  impl : ∀ k, 100 < k → impl_order.f k l = some O
  spec : Ev (fun k => spec_l4Order.f k l) (O, true)
theorem plan_both (l : List S53) (hs : ∀ x ∈ l, ShortT x) : ∃ r : Bool, Ev (fun k => spec_GoodPlan.f k l) r ∧ Ev (fun k => impl_GoodPlan.f k l) r ∧ (r = true → ∃ O, Plan l O) := by
  by_cases h30 : (l.length : Int) > 30
  · refine ⟨false, ⟨0, fun k _ => ?_⟩, ⟨0, fun k _ => ?_⟩, fun h => by cases h⟩
    · show spec_GoodPlan.f k l = some false
      unfold spec_GoodPlan.f; rw [if_pos h30]
    · show impl_GoodPlan.f k l = some false
      unfold impl_GoodPlan.f; rw [if_pos h30]
  · have hlen : l.length ≤ 30 := by omega
    cases ht : tasksFrom l l.length 0 with
    | false =>
      refine ⟨false, Ev.congr (fun k => ?_) (spec_plan_loop l hlen hs l.length 0 (by omega) (by omega) false (fun _ => rfl) (fun h => by rw [ht] at h; cases h)), Ev.congr (fun k => ?_) (impl_plan_loop l hlen hs l.length 0 (by omega) (by omega) false (fun _ => rfl) (fun h => by rw [ht] at h; cases h)), fun h => by cases h⟩
      · unfold spec_GoodPlan.f; rw [if_neg h30]; rfl
      · unfold impl_GoodPlan.f; rw [if_neg h30]; rfl
    | true =>
      have hne := need_in l hlen ht
      obtain ⟨O, h1, h2, h3, h4⟩ := order_both hne (by omega) hs
      refine ⟨decide (O.length = l.length), Ev.congr (fun k => ?_) (spec_plan_loop l hlen hs l.length 0 (by omega) (by omega) _ (fun h => by rw [ht] at h; cases h) (fun _ => ⟨_, ?_, h4⟩)), Ev.congr (fun k => ?_) (impl_plan_loop l hlen hs l.length 0 (by omega) (by omega) _ (fun h => by rw [ht] at h; cases h) (fun _ => ⟨O, ?_, ⟨l.length + 1, fun k hk => h3 k (by omega)⟩⟩)), fun h => ?_⟩
      · unfold spec_GoodPlan.f; rw [if_neg h30]; rfl
      · by_cases e : O.length = l.length
        · rw [if_pos e, decide_eq_true e]
        · rw [if_neg e, decide_eq_false e]
      · unfold impl_GoodPlan.f; rw [if_neg h30]; rfl
      · by_cases e : O.length = l.length
        · rw [decide_eq_true e, e]; simp
        · rw [decide_eq_false e]; simp; omega
      · have e := of_decide_eq_true h
        rw [if_pos e] at h4
        refine ⟨O, hlen, fun i hi => ?_, hne, h1, e, fun k hk => h3 k (by omega), h4⟩
        have := tasksFrom_all l l.length 0 ht i (by omega) (by omega)
        unfold taskOk at this
        simp only [Bool.and_eq_true, decide_eq_true_eq] at this
        exact this.1

def lg (l : List S53) (x : Int) : Int := (l.getD x.toNat z53).f0
def nd (l : List S53) (x : Int) : List Int := (l.getD x.toNat z53).f1
theorem rd_lg (l : List S53) (x : Int) : (rd_T53 l x).f0 = lg l x := rfl
theorem rd_nd (l : List S53) (x : Int) : (rd_T53 l x).f1 = nd l x := rfl
theorem mx_l (a b : Int) : a ≤ mx a b := by unfold mx; split <;> omega
theorem mx_r (a b : Int) : b ≤ mx a b := by unfold mx; split <;> omega
theorem mx_or (a b : Int) : mx a b = a ∨ mx a b = b := by unfold mx; split <;> simp
theorem rd_set (t : List Int) (i j v : Int) (h0 : 0 ≤ i) (h1 : i < t.length) (hj : 0 ≤ j) : rd (t.set i.toNat v) j = if i = j then v else rd t j := by
  unfold rd
  rw [List.getD_eq_getElem?_getD, List.getElem?_set, List.getD_eq_getElem?_getD]
  by_cases e : i = j
  · subst e
    rw [if_pos rfl, if_pos (by omega), if_pos rfl]; rfl
  · rw [if_neg (by omega), if_neg e]
theorem out_apart {l : List S53} {A B : List Int} {x : Int} (h : OutOK l (A ++ x :: B)) : x ∉ B ∧ (∀ y ∈ A, y ≠ x ∧ y ∉ B) ∧ ∀ y ∈ nd l x, y ∈ A := by
  have h1 := h.topo A B x rfl
  refine ⟨fun hx => ?_, fun y hy => ⟨fun e => h1.1 (e ▸ hy), fun hyb => ?_⟩, h1.2⟩
  · obtain ⟨b1, b2, rfl⟩ := List.append_of_mem hx
    exact (h.topo (A ++ x :: b1) b2 x (by simp)).1 (by simp)
  · obtain ⟨b1, b2, rfl⟩ := List.append_of_mem hyb
    exact (h.topo (A ++ x :: b1) b2 y (by simp)).1 (by simp [hy])
theorem Plan.longs {l : List S53} {O : List Int} (p : Plan l O) {x : Int} (h0 : 0 ≤ x) (h1 : x < l.length) : 1 ≤ lg l x ∧ lg l x ≤ 100 := by
  have := p.ok x.toNat (by omega)
  exact this
theorem Plan.ends {l : List S53} {O : List Int} (p : Plan l O) {x : Int} (h0 : 0 ≤ x) (h1 : x < l.length) : ∀ n ∈ nd l x, 0 ≤ n ∧ n < (l.length : Int) := fun n hn => p.need _ (getD_mem z53 l x.toNat (by omega)) n hn
theorem Plan.all_in {l : List S53} {O : List Int} (p : Plan l O) {x : Int} (h0 : 0 ≤ x) (h1 : x < l.length) : x ∈ O := by
  have := p.out.full p.full x.toNat (by omega)
  rwa [Int.toNat_of_nonneg h0] at this

theorem tlNeeds_eq (x : Int) (hx0 : 0 ≤ x) : ∀ (ns : List Int) (t : List Int), x ∉ ns → (∀ n ∈ ns, 0 ≤ n ∧ n < t.length) →
    (ns.foldl (tlNeed x) t).length = t.length ∧ ∀ j, 0 ≤ j → rd (ns.foldl (tlNeed x) t) j = if j ∈ ns then mx (rd t j) (rd t x) else rd t j
  | [], t, _, _ => ⟨rfl, fun j _ => by simp⟩
  | n :: ns, t, hx, hr => by
    have hn := hr n List.mem_cons_self
    have hxn : n ≠ x := fun e => hx (by rw [e]; exact List.mem_cons_self)
    obtain ⟨h1, h2⟩ := tlNeeds_eq x hx0 ns (tlNeed x t n) (fun h => hx (List.mem_cons_of_mem _ h)) (fun m hm => by unfold tlNeed; rw [List.length_set]; exact hr m (List.mem_cons_of_mem _ hm))
    have hl : (tlNeed x t n).length = t.length := by unfold tlNeed; rw [List.length_set]
    have hv : ∀ j, 0 ≤ j → rd (tlNeed x t n) j = if n = j then mx (rd t n) (rd t x) else rd t j := fun j hj => by unfold tlNeed; exact rd_set t n j _ hn.1 hn.2 hj
    rw [List.foldl_cons]
    refine ⟨h1.trans hl, fun j hj => ?_⟩
    rw [h2 j hj, hv x hx0, if_neg hxn, hv j hj]
    by_cases e : n = j
    · subst e
      rw [if_pos rfl, if_pos List.mem_cons_self]
      by_cases h : n ∈ ns
      · rw [if_pos h]
        have a := mx_l (mx (rd t n) (rd t x)) (rd t x)
        have b := mx_r (rd t n) (rd t x)
        rcases mx_or (mx (rd t n) (rd t x)) (rd t x) with c | c
        · exact c
        · omega
      · rw [if_neg h]
    · rw [if_neg e]
      by_cases h : j ∈ ns
      · rw [if_pos h, if_pos (List.mem_cons_of_mem _ h)]
      · rw [if_neg h, if_neg (fun h2 => (List.mem_cons.1 h2).elim (fun e2 => e e2.symm) h)]
/-- what the tails are behind the tasks of B -/
structure TailInv (l : List S53) (B t : List Int) : Prop where
  len : t.length = l.length
  bnd : ∀ j : Int, 0 ≤ j → j < l.length → 0 ≤ rd t j ∧ rd t j ≤ 100 * (B.length : Int)
  up : ∀ k ∈ B, ∀ n ∈ nd l k, (n ∈ B → rd t k + lg l n ≤ rd t n) ∧ (n ∉ B → rd t k ≤ rd t n)
  inB : ∀ n ∈ B, rd t n = lg l n ∨ ∃ k ∈ B, n ∈ nd l k ∧ rd t n = lg l n + rd t k
  out : ∀ n : Int, 0 ≤ n → n < l.length → n ∉ B → rd t n = 0 ∨ ∃ k ∈ B, n ∈ nd l k ∧ rd t n = rd t k
theorem tl_val {l : List S53} {O : List Int} (p : Plan l O) {A B t : List Int} {x : Int} (hO : O = A ++ x :: B) (h : TailInv l B t) :
    (tlStep l t x).length = l.length ∧ ∀ j : Int, 0 ≤ j → rd (tlStep l t x) j = if j = x then rd t x + lg l x else if j ∈ nd l x then mx (rd t j) (rd t x + lg l x) else rd t j := by
  have hx := p.out.rng x (by rw [hO]; simp)
  have hap := out_apart (hO ▸ p.out)
  have hb := h.bnd x hx.1 hx.2
  have hg := p.longs hx.1 hx.2
  have hBl : B.length ≤ 30 := by have h1 := p.full; have h2 := p.len; rw [hO] at h1; simp at h1; omega
  have hxn : x ∉ nd l x := fun hn => (hap.2.1 x (hap.2.2 x hn)).1 rfl
  have hw : wrap64 (rd t x + lg l x) = rd t x + lg l x := wrap_small (by omega) (by omega)
  obtain ⟨h1, h2⟩ := tlNeeds_eq x hx.1 (nd l x) (t.set x.toNat (rd t x + lg l x)) hxn (fun n hn => by rw [List.length_set, h.len]; exact p.ends hx.1 hx.2 n hn)
  have hv : ∀ j, 0 ≤ j → rd (t.set x.toNat (rd t x + lg l x)) j = if x = j then rd t x + lg l x else rd t j := fun j hj => rd_set t x j _ hx.1 (by rw [h.len]; exact hx.2) hj
  unfold tlStep
  rw [rd_lg, rd_nd, hw]
  refine ⟨by rw [h1, List.length_set, h.len], fun j hj => ?_⟩
  rw [h2 j hj, hv x hx.1, if_pos rfl, hv j hj]
  by_cases e : j = x
  · subst e
    rw [if_neg hxn, if_pos rfl, if_pos rfl]
  · rw [if_neg (show ¬ x = j from fun h => e h.symm), if_neg e]
theorem TailInv.step {l : List S53} {O : List Int} (p : Plan l O) {A B t : List Int} {x : Int} (hO : O = A ++ x :: B) (h : TailInv l B t) : TailInv l (x :: B) (tlStep l t x) := by
  obtain ⟨hl, hv⟩ := tl_val p hO h
  obtain ⟨a1, a2, a3⟩ := out_apart (hO ▸ p.out)
  have hx := p.out.rng x (by rw [hO]; simp)
  have hg := p.longs hx.1 hx.2
  have hbx := h.bnd x hx.1 hx.2
  have hBr : ∀ k ∈ B, 0 ≤ k ∧ k < (l.length : Int) := fun k hk => p.out.rng k (by rw [hO]; simp [hk])
  have hAr : ∀ k ∈ A, 0 ≤ k ∧ k < (l.length : Int) := fun k hk => p.out.rng k (by rw [hO]; simp [hk])
  have hk : ∀ k ∈ B, rd (tlStep l t x) k = rd t k := fun k hk => by
    rw [hv k (hBr k hk).1, if_neg (show ¬ k = x from fun e => a1 (e ▸ hk)), if_neg (show ¬ k ∈ nd l x from fun h => (a2 k (a3 k h)).2 hk)]
  have hxv : rd (tlStep l t x) x = rd t x + lg l x := by rw [hv x hx.1, if_pos rfl]
  have hge : ∀ n : Int, 0 ≤ n → rd t n ≤ rd (tlStep l t x) n := fun n hn => by
    rw [hv n hn]
    by_cases e : n = x
    · subst e; rw [if_pos rfl]; omega
    · rw [if_neg e]
      by_cases e2 : n ∈ nd l x
      · rw [if_pos e2]; exact mx_l _ _
      · rw [if_neg e2]; exact Int.le_refl _
  refine ⟨hl, fun j h0 h1 => ?_, fun k hkm n hn => ?_, fun n hn => ?_, fun n h0 h1 hn => ?_⟩
  · have hb := h.bnd j h0 h1
    refine ⟨Int.le_trans hb.1 (hge j h0), ?_⟩
    rw [hv j h0, List.length_cons]
    by_cases e : j = x
    · rw [if_pos e]; omega
    · rw [if_neg e]
      by_cases e2 : j ∈ nd l x
      · rw [if_pos e2]
        rcases mx_or (rd t j) (rd t x + lg l x) with c | c <;> rw [c] <;> omega
      · rw [if_neg e2]; omega
  · rcases List.mem_cons.1 hkm with rfl | hkB
    · have hnA := a3 n hn
      have hn2 := a2 n hnA
      refine ⟨fun h2 => absurd h2 (fun h3 => (List.mem_cons.1 h3).elim hn2.1 hn2.2), fun _ => ?_⟩
      rw [hxv, hv n (hAr n hnA).1, if_neg hn2.1, if_pos hn]
      exact mx_r _ _
    · have hu := h.up k hkB n hn
      have hnr := p.ends (hBr k hkB).1 (hBr k hkB).2 n hn
      rw [hk k hkB]
      refine ⟨fun h2 => ?_, fun h2 => ?_⟩
      · rcases List.mem_cons.1 h2 with rfl | h3
        · rw [hxv]; have := hu.2 a1; omega
        · rw [hk n h3]; exact hu.1 h3
      · exact Int.le_trans (hu.2 (fun h3 => h2 (List.mem_cons_of_mem _ h3))) (hge n hnr.1)
  · rcases List.mem_cons.1 hn with rfl | hnB
    · rw [hxv]
      rcases h.out n hx.1 hx.2 a1 with c | ⟨k, hkB, hkn, c⟩
      · left; omega
      · right; exact ⟨k, List.mem_cons_of_mem _ hkB, hkn, by rw [hk k hkB]; omega⟩
    · rw [hk n hnB]
      rcases h.inB n hnB with c | ⟨k, hkB, hkn, c⟩
      · exact .inl c
      · exact .inr ⟨k, List.mem_cons_of_mem _ hkB, hkn, by rw [hk k hkB]; exact c⟩
  · have hnx : n ≠ x := fun e => hn (by rw [e]; exact List.mem_cons_self)
    have hnB : n ∉ B := fun h2 => hn (List.mem_cons_of_mem _ h2)
    have old : rd t n = 0 ∨ ∃ k ∈ x :: B, n ∈ nd l k ∧ rd t n = rd (tlStep l t x) k := by
      rcases h.out n h0 h1 hnB with c | ⟨k, hkB, hkn, c⟩
      · exact .inl c
      · exact .inr ⟨k, List.mem_cons_of_mem _ hkB, hkn, by rw [hk k hkB]; exact c⟩
    rw [hv n h0, if_neg hnx]
    by_cases e2 : n ∈ nd l x
    · rw [if_pos e2]
      rcases mx_or (rd t n) (rd t x + lg l x) with c | c
      · rw [c]; exact old
      · rw [c]; exact .inr ⟨x, List.mem_cons_self, e2, by rw [hxv]⟩
    · rw [if_neg e2]; exact old
theorem rd_zeros (n : Nat) (j : Int) : rd (List.replicate n (0 : Int)) j = 0 := by
  unfold rd
  rw [List.getD_eq_getElem?_getD, List.getElem?_replicate]
  split <;> rfl
def tlOf (l : List S53) (B : List Int) : List Int := B.foldr (fun x t => tlStep l t x) (List.replicate l.length 0)
theorem tails_inv {l : List S53} {O : List Int} (p : Plan l O) : ∀ (B A : List Int), O = A ++ B → TailInv l B (tlOf l B)
  | [], A, _ => ⟨by simp [tlOf], fun j _ _ => by simp [tlOf, rd_zeros], fun k hk => by simp at hk, fun k hk => by simp at hk, fun n _ _ _ => .inl (by simp [tlOf, rd_zeros])⟩
  | x :: B, A, h => (tails_inv p B (A ++ [x]) (by simp [h])).step p h
theorem tails_eq {l : List S53} {O : List Int} (p : Plan l O) (k : Nat) (hk : 100 < k) : impl_tails.f k l = some (tlOf l O) := by
  unfold impl_tails.f
  rw [p.impl k hk]; simp only [Option.bind_some]
  have hc : l.length ≤ 1000000 ∧ ∀ x ∈ O, tlOk l x := ⟨by have := p.len; omega, fun x hx => by
    have := p.out.rng x hx
    exact ⟨this.1, this.2, p.ends this.1 this.2⟩⟩
  rw [if_pos hc]
  unfold tlOf
  rw [List.foldl_reverse]

theorem earl_same (k : Nat) : (∀ x0 out all o n j, impl_earliest.l0 k x0 out all o n j = spec_l4Earliest.l0 k x0 out all o n j) ∧ (∀ x0 out all x o n j nd m q, impl_earliest.l1 k x0 out all x o n j nd m q = spec_l4Earliest.l1 k x0 out all x o n j nd m q) := by
  induction k with
  | zero => exact ⟨fun _ _ _ _ _ _ => rfl, fun _ _ _ _ _ _ _ _ _ _ => rfl⟩
  | succ k ih =>
    refine ⟨fun x0 out all o n j => ?_, fun x0 out all x o n j nd m q => ?_⟩
    · simp only [impl_earliest.l0, spec_l4Earliest.l0, ih.2]
    · simp only [impl_earliest.l1, spec_l4Earliest.l1, ih.1, ih.2]
      by_cases a : q < m
      · rw [if_pos a, if_pos a]
        by_cases b : 0 ≤ q
        · rw [if_pos b, if_pos b]
          by_cases c : q < (nd.length : Int)
          · rw [if_pos c, if_pos c]
            by_cases d : 0 ≤ x
            · by_cases e : x < (out.length : Int)
              · by_cases f : 0 ≤ rd nd q
                · by_cases g : rd nd q < (out.length : Int)
                  · by_cases h : rd nd q < (x0.length : Int)
                    · rw [if_pos d, if_pos e, if_pos f, if_pos g, if_pos h, if_pos f, if_pos g, if_pos h, if_pos d, if_pos e]
                      by_cases i : wrap64 (rd out (rd nd q) + (rd_T53 x0 (rd nd q)).f0) > rd out x
                      · rw [if_pos i, show mx (rd out x) (wrap64 (rd out (rd nd q) + (rd_T53 x0 (rd nd q)).f0)) = wrap64 (rd out (rd nd q) + (rd_T53 x0 (rd nd q)).f0) by unfold mx; rw [if_pos (by omega)]]
                      · rw [if_neg i, show mx (rd out x) (wrap64 (rd out (rd nd q) + (rd_T53 x0 (rd nd q)).f0)) = rd out x by unfold mx; rw [if_neg (by omega)]]
                        congr 1
                        unfold rd
                        rw [List.getD_eq_getElem?_getD, List.getElem?_eq_getElem (by omega)]
                        exact List.set_getElem_self _
                    · rw [if_pos d, if_pos e, if_pos f, if_pos g, if_neg h, if_pos f, if_pos g, if_neg h]
                  · rw [if_pos d, if_pos e, if_pos f, if_neg g, if_pos f, if_neg g]
                · rw [if_pos d, if_pos e, if_neg f, if_neg f]
              · rw [if_pos d, if_neg e]
                split <;> (try split) <;> (try split) <;> (try split) <;> (try split) <;> first | rfl | (exfalso; omega)
            · rw [if_neg d]
              split <;> (try split) <;> (try split) <;> (try split) <;> first | rfl | (exfalso; omega)
          · rw [if_neg c, if_neg c]
        · rw [if_neg b, if_neg b]
      · rw [if_neg a, if_neg a]
        by_cases d : 0 ≤ x
        · rw [if_pos d, if_pos d]
          by_cases e : x < (out.length : Int)
          · rw [if_pos e, if_pos e]
            by_cases f : x < (x0.length : Int)
            · rw [if_pos f, if_pos f]
              by_cases i : wrap64 (rd out x + (rd_T53 x0 x).f0) > all
              · rw [if_pos i, show mx all (wrap64 (rd out x + (rd_T53 x0 x).f0)) = wrap64 (rd out x + (rd_T53 x0 x).f0) by unfold mx; rw [if_pos (by omega)]]
              · rw [if_neg i, show mx all (wrap64 (rd out x + (rd_T53 x0 x).f0)) = all by unfold mx; rw [if_neg (by omega)]]
            · rw [if_neg f, if_neg f]
          · rw [if_neg e, if_neg e]
        · rw [if_neg d, if_neg d]

def erNeed (l : List S53) (x : Int) (e : List Int) (n : Int) : List Int := e.set x.toNat (mx (rd e x) (wrap64 (rd e n + lg l n)))
def erStep (l : List S53) (s : List Int × Int) (x : Int) : List Int × Int := ((nd l x).foldl (erNeed l x) s.1, mx s.2 (wrap64 (rd ((nd l x).foldl (erNeed l x) s.1) x + lg l x)))
theorem erNeed_length (l : List S53) (x : Int) : ∀ (ns e : List Int), (ns.foldl (erNeed l x) e).length = e.length
  | [], e => rfl
  | n :: ns, e => by rw [List.foldl_cons, erNeed_length l x ns]; unfold erNeed; rw [List.length_set]
theorem erNeeds (l : List S53) (x : Int) (hx0 : 0 ≤ x) (M : Int) (hM : M ≤ 1000000) : ∀ (ns e : List Int), x ∉ ns → x < e.length → (∀ n ∈ ns, 0 ≤ n ∧ n < (e.length : Int) ∧ 0 ≤ rd e n + lg l n ∧ rd e n + lg l n ≤ M) →
    (∀ j, 0 ≤ j → j ≠ x → rd (ns.foldl (erNeed l x) e) j = rd e j) ∧ rd e x ≤ rd (ns.foldl (erNeed l x) e) x ∧ (∀ n ∈ ns, rd e n + lg l n ≤ rd (ns.foldl (erNeed l x) e) x) ∧
    (rd (ns.foldl (erNeed l x) e) x = rd e x ∨ ∃ n ∈ ns, rd (ns.foldl (erNeed l x) e) x = rd e n + lg l n)
  | [], e, _, _, _ => ⟨fun j _ _ => rfl, Int.le_refl _, fun n hn => by simp at hn, .inl rfl⟩
  | n :: ns, e, hx, hxl, h => by
    have hn := h n List.mem_cons_self
    have hnx : n ≠ x := fun e2 => hx (by rw [e2]; exact List.mem_cons_self)
    have hv : ∀ j, 0 ≤ j → rd (erNeed l x e n) j = if x = j then mx (rd e x) (rd e n + lg l n) else rd e j := fun j hj => by
      unfold erNeed
      rw [wrap_small (by omega) (by omega)]
      exact rd_set e x j _ hx0 hxl hj
    have hl : (erNeed l x e n).length = e.length := by unfold erNeed; rw [List.length_set]
    have hvn : ∀ m ∈ ns, rd (erNeed l x e n) m = rd e m := fun m hm => by
      rw [hv m (h m (List.mem_cons_of_mem _ hm)).1, if_neg (fun e2 => hx (by rw [e2]; exact List.mem_cons_of_mem _ hm))]
    obtain ⟨h1, h2, h3, h4⟩ := erNeeds l x hx0 M hM ns (erNeed l x e n) (fun h2 => hx (List.mem_cons_of_mem _ h2)) (by rw [hl]; exact hxl) (fun m hm => by rw [hl, hvn m hm]; exact h m (List.mem_cons_of_mem _ hm))
    have hxx : rd (erNeed l x e n) x = mx (rd e x) (rd e n + lg l n) := by rw [hv x hx0, if_pos rfl]
    have ha := mx_l (rd e x) (rd e n + lg l n)
    have hb := mx_r (rd e x) (rd e n + lg l n)
    rw [hxx] at h2 h4
    rw [List.foldl_cons]
    refine ⟨fun j h0 hj => ?_, by omega, fun m hm => ?_, ?_⟩
    · rw [h1 j h0 hj, hv j h0, if_neg (fun e2 => hj e2.symm)]
    · rcases List.mem_cons.1 hm with rfl | hm
      · omega
      · have := h3 m hm; rw [hvn m hm] at this; exact this
    · rcases h4 with c | ⟨m, hm, c⟩
      · rcases mx_or (rd e x) (rd e n + lg l n) with d | d
        · left; omega
        · right; exact ⟨n, List.mem_cons_self, by omega⟩
      · right; exact ⟨m, List.mem_cons_of_mem _ hm, by rw [hvn m hm] at c; exact c⟩
structure EarlInv (l : List S53) (A : List Int) (s : List Int × Int) : Prop where
  len : s.1.length = l.length
  nn : ∀ j : Int, 0 ≤ j → j < l.length → 0 ≤ rd s.1 j
  yet : ∀ j : Int, 0 ≤ j → j < l.length → j ∉ A → rd s.1 j = 0
  le : ∀ k ∈ A, rd s.1 k + lg l k ≤ s.2
  bnd : 0 ≤ s.2 ∧ s.2 ≤ 100 * (A.length : Int)
  low : ∀ k ∈ A, ∀ n ∈ nd l k, rd s.1 n + lg l n ≤ rd s.1 k
  att : ∀ k ∈ A, rd s.1 k = 0 ∨ ∃ n ∈ nd l k, rd s.1 k = rd s.1 n + lg l n
  top : s.2 = 0 ∨ ∃ k ∈ A, s.2 = rd s.1 k + lg l k
theorem EarlInv.step {l : List S53} {O : List Int} (p : Plan l O) {A B : List Int} {x : Int} (hO : O = A ++ x :: B) {s : List Int × Int} (h : EarlInv l A s) : EarlInv l (A ++ [x]) (erStep l s x) := by
  obtain ⟨a1, a2, a3⟩ := out_apart (hO ▸ p.out)
  have hx := p.out.rng x (by rw [hO]; simp)
  have hg := p.longs hx.1 hx.2
  have hAl : A.length < 30 := by have h1 := p.full; have h2 := p.len; rw [hO] at h1; simp at h1; omega
  have hAr : ∀ k ∈ A, 0 ≤ k ∧ k < (l.length : Int) := fun k hk => p.out.rng k (by rw [hO]; simp [hk])
  have hxn : x ∉ nd l x := fun hn => (a2 x (a3 x hn)).1 rfl
  have hxA : x ∉ A := fun hn => (a2 x hn).1 rfl
  have hb := h.bnd
  obtain ⟨h1, h2, h3, h4⟩ := erNeeds l x hx.1 s.2 (by omega) (nd l x) s.1 hxn (by rw [h.len]; exact hx.2) (fun n hn => by
    have hr := hAr n (a3 n hn)
    have hg2 := p.longs hr.1 hr.2
    have := h.nn n hr.1 hr.2
    exact ⟨hr.1, by rw [h.len]; exact hr.2, by omega, h.le n (a3 n hn)⟩)
  obtain ⟨e, he⟩ : ∃ e, e = (nd l x).foldl (erNeed l x) s.1 := ⟨_, rfl⟩
  rw [← he] at h1 h2 h3 h4
  have hel : e.length = l.length := by rw [he, erNeed_length, h.len]
  have hx0 : rd s.1 x = 0 := h.yet x hx.1 hx.2 hxA
  have hxle : 0 ≤ rd e x ∧ rd e x ≤ s.2 := by
    refine ⟨by omega, ?_⟩
    rcases h4 with c | ⟨n, hn, c⟩
    · omega
    · have := h.le n (a3 n hn); omega
  have hst : erStep l s x = (e, mx s.2 (rd e x + lg l x)) := by
    unfold erStep
    rw [← he, wrap_small (by omega) (by omega)]
  have hm1 := mx_l s.2 (rd e x + lg l x)
  have hm2 := mx_r s.2 (rd e x + lg l x)
  have hk : ∀ k ∈ A, rd e k = rd s.1 k := fun k hk => h1 k (hAr k hk).1 (a2 k hk).1
  rw [hst]
  refine ⟨hel, fun j h0 hj => ?_, fun j h0 hj hjA => ?_, fun k hkA => ?_, ?_, fun k hkA n hn => ?_, fun k hkA => ?_, ?_⟩
  · by_cases c : j = x
    · subst c; exact hxle.1
    · show 0 ≤ rd e j
      rw [h1 j h0 c]; exact h.nn j h0 hj
  · have c : j ≠ x := fun c => hjA (by simp [c])
    show rd e j = 0
    rw [h1 j h0 c]; exact h.yet j h0 hj (fun c2 => hjA (by simp [c2]))
  · show rd e k + lg l k ≤ mx s.2 (rd e x + lg l x)
    rcases List.mem_append.1 hkA with hkA | hkA
    · have := h.le k hkA; rw [hk k hkA]; omega
    · rw [List.mem_singleton.1 hkA]; exact hm2
  · show 0 ≤ mx s.2 (rd e x + lg l x) ∧ mx s.2 (rd e x + lg l x) ≤ _
    rw [List.length_append]
    rcases mx_or s.2 (rd e x + lg l x) with c | c <;> rw [c] <;> simp <;> omega
  · show rd e n + lg l n ≤ rd e k
    rcases List.mem_append.1 hkA with hkA | hkA
    · have hr := p.ends (hAr k hkA).1 (hAr k hkA).2 n hn
      rw [hk k hkA]
      by_cases c : n = x
      · obtain ⟨c1, c2, rfl⟩ := List.append_of_mem hkA
        have hap := out_apart (l := l) (A := c1) (B := c2 ++ x :: B) (x := k) (by have := p.out; rw [hO] at this; simpa using this)
        have := hap.2.2 n hn
        exact absurd (show x ∈ c1 ++ k :: c2 from by rw [← c]; simp [this]) hxA
      · rw [h1 n hr.1 c]; exact h.low k hkA n hn
    · rw [List.mem_singleton.1 hkA] at hn ⊢
      rw [hk n (a3 n hn)]; exact h3 n hn
  · show rd e k = 0 ∨ ∃ n ∈ nd l k, rd e k = rd e n + lg l n
    rcases List.mem_append.1 hkA with hkA | hkA
    · rw [hk k hkA]
      rcases h.att k hkA with c | ⟨n, hn, c⟩
      · exact .inl c
      · have hr := p.ends (hAr k hkA).1 (hAr k hkA).2 n hn
        by_cases d : n = x
        · obtain ⟨c1, c2, rfl⟩ := List.append_of_mem hkA
          have hap := out_apart (l := l) (A := c1) (B := c2 ++ x :: B) (x := k) (by have := p.out; rw [hO] at this; simpa using this)
          have := hap.2.2 n hn
          exact absurd (show x ∈ c1 ++ k :: c2 from by rw [← d]; simp [this]) hxA
        · exact .inr ⟨n, hn, by rw [h1 n hr.1 d]; exact c⟩
    · rw [List.mem_singleton.1 hkA]
      rcases h4 with c | ⟨n, hn, c⟩
      · left; omega
      · exact .inr ⟨n, hn, by rw [hk n (a3 n hn)]; exact c⟩
  · show mx s.2 (rd e x + lg l x) = 0 ∨ ∃ k ∈ A ++ [x], mx s.2 (rd e x + lg l x) = rd e k + lg l k
    rcases mx_or s.2 (rd e x + lg l x) with c | c
    · rw [c]
      rcases h.top with d | ⟨k, hkA, d⟩
      · exact .inl d
      · exact .inr ⟨k, by simp [hkA], by rw [hk k hkA]; exact d⟩
    · rw [c]; exact .inr ⟨x, by simp, rfl⟩
def erOf (l : List S53) (A : List Int) : List Int × Int := A.foldl (erStep l) (List.replicate l.length 0, 0)
theorem early_from {l : List S53} {O : List Int} (p : Plan l O) : ∀ (B A : List Int) (s : List Int × Int), O = A ++ B → EarlInv l A s → EarlInv l O (B.foldl (erStep l) s)
  | [], A, s, h, hi => by rw [show O = A by simpa using h]; exact hi
  | x :: B, A, s, h, hi => by
    rw [List.foldl_cons]
    exact early_from p B (A ++ [x]) _ (by simp [h]) (hi.step p h)
theorem early_inv {l : List S53} {O : List Int} (p : Plan l O) : EarlInv l O (erOf l O) :=
  early_from p O [] _ rfl ⟨by simp, fun j _ _ => by simp [rd_zeros], fun j _ _ _ => by simp [rd_zeros], fun k hk => by simp at hk, by simp, fun k hk => by simp at hk, fun k hk => by simp at hk, .inl rfl⟩
theorem erNeed_keep {l : List S53} {x : Int} {e : List Int} {n : Int} (h0 : 0 ≤ x) (h1 : x < e.length) (h : ¬ wrap64 (rd e n + lg l n) > rd e x) : erNeed l x e n = e := by
  unfold erNeed
  rw [show mx (rd e x) (wrap64 (rd e n + lg l n)) = rd e x by unfold mx; rw [if_neg (by omega)]]
  unfold rd
  rw [List.getD_eq_getElem?_getD, List.getElem?_eq_getElem (by omega)]
  exact List.set_getElem_self _
theorem erNeed_put {l : List S53} {x : Int} {e : List Int} {n : Int} (h : wrap64 (rd e n + lg l n) > rd e x) : erNeed l x e n = e.set x.toNat (wrap64 (rd e n + lg l n)) := by
  unfold erNeed
  rw [show mx (rd e x) (wrap64 (rd e n + lg l n)) = wrap64 (rd e n + lg l n) by unfold mx; rw [if_pos (by omega)]]
theorem early_l1 {l : List S53} (hn : NeedIn l) (hl : l.length ≤ 1000) {i : Nat} (hi : i < l.length) (hs : (l.getD i z53).f1.length ≤ 1048576) (o : List Int) (n : Int) (jj : Nat) (hjj : jj < 1000) (r : List Int × Int) (d : Nat) : ∀ (j : Nat) (e : List Int) (all : Int), e.length = l.length → j ≤ (l.getD i z53).f1.length → (l.getD i z53).f1.length - j = d →
    Ev (fun k => spec_l4Earliest.l0 k l (((l.getD i z53).f1.drop j).foldl (erNeed l i) e) (mx all (wrap64 (rd (((l.getD i z53).f1.drop j).foldl (erNeed l i) e) i + lg l i))) o n ((jj + 1 : Nat) : Int)) r →
    Ev (fun k => spec_l4Earliest.l1 k l e all i o n jj (l.getD i z53).f1 (l.getD i z53).f1.length j) r := by
  induction d with
  | zero =>
    intro j e all ho hj hd hr
    rw [List.drop_of_length_le (by omega)] at hr
    simp only [List.foldl_nil] at hr
    by_cases h : wrap64 (rd e (i : Int) + (rd_T53 l (i : Int)).f0) > all
    · rw [show mx all (wrap64 (rd e (i : Int) + lg l i)) = wrap64 (rd e (i : Int) + lg l i) by unfold mx; rw [if_pos (by rw [← rd_lg]; omega)]] at hr
      refine Ev.step (fun k => ?_) hr
      simp only [spec_l4Earliest.l1]
      rw [if_neg (by omega), if_pos (by omega), if_pos (by omega), if_pos (by omega), if_pos h, wrap_next (n := 1000) hjj (by omega)]; rfl
    · rw [show mx all (wrap64 (rd e (i : Int) + lg l i)) = all by unfold mx; rw [if_neg (by rw [← rd_lg]; omega)]] at hr
      refine Ev.step (fun k => ?_) hr
      simp only [spec_l4Earliest.l1]
      rw [if_neg (by omega), if_pos (by omega), if_pos (by omega), if_pos (by omega), if_neg h, wrap_next (n := 1000) hjj (by omega)]
  | succ d ih =>
    intro j e all ho hj hd hr
    have hjl : j < (l.getD i z53).f1.length := by omega
    have hx := hn _ (getD_mem z53 l i hi) ((l.getD i z53).f1.getD j 0) (getD_mem 0 _ j hjl)
    rw [drop_at _ j hjl, List.foldl_cons] at hr
    obtain ⟨x, hxx⟩ : ∃ x, x = (l.getD i z53).f1.getD j 0 := ⟨_, rfl⟩
    rw [← hxx] at hx hr
    have hrec := ih (j + 1) (erNeed l i e x) all (by unfold erNeed; rw [List.length_set]; exact ho) (by omega) (by omega) hr
    by_cases h : wrap64 (rd e x + (rd_T53 l x).f0) > rd e (i : Int)
    · rw [erNeed_put (by rw [← rd_lg]; exact h)] at hrec
      refine Ev.step (fun k => ?_) hrec
      simp only [spec_l4Earliest.l1]
      rw [if_pos (by omega), if_pos (by omega), if_pos (by omega), rd_at, ← hxx, if_pos hx.1, if_pos (by omega), if_pos (by omega), if_pos (by omega), if_pos (by omega), if_pos h, Int.toNat_natCast, wrap_next hjl (by omega)]; rfl
    · rw [erNeed_keep (by omega) (by omega) (by rw [← rd_lg]; exact h)] at hrec
      refine Ev.step (fun k => ?_) hrec
      simp only [spec_l4Earliest.l1]
      rw [if_pos (by omega), if_pos (by omega), if_pos (by omega), rd_at, ← hxx, if_pos hx.1, if_pos (by omega), if_pos (by omega), if_pos (by omega), if_pos (by omega), if_neg h, wrap_next hjl (by omega)]
theorem erStep_length (l : List S53) (s : List Int × Int) (x : Int) : (erStep l s x).1.length = s.1.length := erNeed_length l x _ _
theorem early_l0 {l : List S53} (hn : NeedIn l) (hl : l.length ≤ 30) (hs : ∀ x ∈ l, ShortT x) {O : List Int} (hO : ∀ x ∈ O, 0 ≤ x ∧ x < l.length) (hOl : O.length ≤ 100) (d : Nat) : ∀ (j : Nat) (s : List Int × Int), s.1.length = l.length → j ≤ O.length → O.length - j = d →
    Ev (fun k => spec_l4Earliest.l0 k l s.1 s.2 O O.length j) ((O.drop j).foldl (erStep l) s) := by
  induction d with
  | zero =>
    intro j s ho hj hd
    rw [List.drop_of_length_le (by omega)]
    refine Ev.step (f := fun _ => some s) (fun k => ?_) (Ev.now _)
    simp only [spec_l4Earliest.l0]
    rw [if_neg (by omega)]
  | succ d ih =>
    intro j s ho hj hd
    have hjl : j < O.length := by omega
    have hx := hO (O.getD j 0) (by rw [List.getD_eq_getElem?_getD, List.getElem?_eq_getElem hjl]; exact List.getElem_mem hjl)
    rw [drop_at _ j hjl, List.foldl_cons]
    obtain ⟨i, hi⟩ := Int.eq_ofNat_of_zero_le hx.1
    have hil : i < l.length := by omega
    rw [hi]
    have hr := early_l1 hn (by omega) hil (hs _ (getD_mem z53 l i hil)) O O.length j (by omega) ((O.drop (j + 1)).foldl (erStep l) (erStep l s i)) (l.getD i z53).f1.length 0 s.1 s.2 ho (by omega) (by omega) (by
      rw [List.drop_zero]
      exact ih (j + 1) (erStep l s i) (by rw [erStep_length]; exact ho) (by omega) (by omega))
    refine Ev.step (fun k => ?_) hr
    simp only [spec_l4Earliest.l0]
    rw [if_pos (by omega), if_pos (by omega), if_pos (by omega), rd_at, hi, if_pos (by omega), if_pos (by omega), rd53_at]
    rfl
theorem early_both {l : List S53} (hs : ∀ x ∈ l, ShortT x) {O : List Int} (p : Plan l O) : Ev (fun k => spec_l4Earliest.f k l) (erOf l O) ∧ Ev (fun k => impl_earliest.f k l) (erOf l O) := by
  have h30 := p.len
  obtain ⟨K, hK⟩ := early_l0 p.need h30 hs p.out.rng (by have := p.full; omega) O.length 0 (List.replicate l.length 0, 0) (by simp) (by omega) (by omega)
  rw [List.drop_zero] at hK
  obtain ⟨K2, hK2⟩ := p.spec
  refine ⟨⟨K + K2 + 101, fun k hk => ?_⟩, ⟨K + K2 + 101, fun k hk => ?_⟩⟩
  · show spec_l4Earliest.f k l = some _
    unfold spec_l4Earliest.f
    rw [show spec_l4Order.f k l = some (O, true) from hK2 k (by omega)]; simp only [Option.bind_some]
    rw [if_pos (by omega), Int.toNat_natCast, if_pos (by omega)]
    exact hK k (by omega)
  · show impl_earliest.f k l = some _
    unfold impl_earliest.f
    rw [if_pos (by omega), Int.toNat_natCast, if_pos (by omega), p.impl k (by omega)]; simp only [Option.bind_some]
    rw [(earl_same k).1]
    exact hK k (by omega)

def lateNeed (l : List S53) (x : Int) (s : List Int) (n : Int) : List Int := if wrap64 (rd s x - lg l n) < rd s n then s.set n.toNat (wrap64 (rd s x - lg l n)) else s
def lateStep (l : List S53) (s : List Int) (x : Int) : List Int := (nd l x).foldl (lateNeed l x) s
theorem lateNeed_length (l : List S53) (x : Int) (s : List Int) (n : Int) : (lateNeed l x s n).length = s.length := by
  unfold lateNeed; split
  · rw [List.length_set]
  · rfl
theorem lateNeeds_length (l : List S53) (x : Int) : ∀ (ns s : List Int), (ns.foldl (lateNeed l x) s).length = s.length
  | [], s => rfl
  | n :: ns, s => by rw [List.foldl_cons, lateNeeds_length l x ns, lateNeed_length]
theorem lateNeeds_eq (l : List S53) (x : Int) (hx0 : 0 ≤ x) : ∀ (ns s : List Int), x ∉ ns → (∀ n ∈ ns, 0 ≤ n ∧ n < (s.length : Int) ∧ 1 ≤ lg l n ∧ lg l n ≤ 100) → -100000 ≤ rd s x → rd s x ≤ 100000 →
    ∀ j, 0 ≤ j → rd (ns.foldl (lateNeed l x) s) j = if j ∈ ns then (if rd s x - lg l j < rd s j then rd s x - lg l j else rd s j) else rd s j
  | [], s, _, _, _, _ => fun j _ => by simp
  | n :: ns, s, hx, h, b0, b1 => by
    have hn := h n List.mem_cons_self
    have hnx : n ≠ x := fun e => hx (by rw [e]; exact List.mem_cons_self)
    have hv : ∀ j, 0 ≤ j → rd (lateNeed l x s n) j = if n = j then (if rd s x - lg l n < rd s n then rd s x - lg l n else rd s n) else rd s j := fun j hj => by
      unfold lateNeed
      rw [wrap_small (by omega) (by omega)]
      by_cases c : rd s x - lg l n < rd s n
      · rw [if_pos c, if_pos c]; exact rd_set s n j _ hn.1 hn.2.1 hj
      · rw [if_neg c, if_neg c]
        by_cases e : n = j
        · rw [if_pos e, e]
        · rw [if_neg e]
    have hxx : rd (lateNeed l x s n) x = rd s x := by rw [hv x hx0, if_neg hnx]
    have ih := lateNeeds_eq l x hx0 ns (lateNeed l x s n) (fun h2 => hx (List.mem_cons_of_mem _ h2)) (fun m hm => by rw [lateNeed_length]; exact h m (List.mem_cons_of_mem _ hm)) (by rw [hxx]; exact b0) (by rw [hxx]; exact b1)
    intro j hj
    rw [List.foldl_cons, ih j hj, hxx, hv j hj]
    by_cases e : n = j
    · subst e
      rw [if_pos rfl, if_pos List.mem_cons_self]
      by_cases c : rd s x - lg l n < rd s n
      · rw [if_pos c]
        by_cases d : n ∈ ns
        · rw [if_pos d, if_neg (by omega)]
        · rw [if_neg d]
      · rw [if_neg c]
        by_cases d : n ∈ ns
        · rw [if_pos d, if_neg c]
        · rw [if_neg d]
    · rw [if_neg e]
      by_cases d : j ∈ ns
      · rw [if_pos d, if_pos (List.mem_cons_of_mem _ d)]
      · rw [if_neg d, if_neg (fun h2 => (List.mem_cons.1 h2).elim (fun e2 => e e2.symm) d)]
/-- the reference's latest beginnings against the program's tails -/
structure LateRel (l : List S53) (all : Int) (B t s : List Int) : Prop where
  len : s.length = l.length
  val : ∀ j : Int, 0 ≤ j → j < l.length → rd s j = if j ∈ B then all - rd t j else all - lg l j - rd t j
theorem LateRel.step {l : List S53} {O : List Int} (p : Plan l O) {A B t s : List Int} {x all : Int} (hall : 0 ≤ all ∧ all ≤ 3000) (hO : O = A ++ x :: B) (hi : TailInv l B t) (h : LateRel l all B t s) : LateRel l all (x :: B) (tlStep l t x) (lateStep l s x) := by
  obtain ⟨hl, hv⟩ := tl_val p hO hi
  obtain ⟨a1, a2, a3⟩ := out_apart (hO ▸ p.out)
  have hx := p.out.rng x (by rw [hO]; simp)
  have hg := p.longs hx.1 hx.2
  have hbx := hi.bnd x hx.1 hx.2
  have hBl : B.length ≤ 30 := by have h1 := p.full; have h2 := p.len; rw [hO] at h1; simp at h1; omega
  have hxn : x ∉ nd l x := fun hn => (a2 x (a3 x hn)).1 rfl
  have hsx : rd s x = all - lg l x - rd t x := by rw [h.val x hx.1 hx.2, if_neg a1]
  have hs := lateNeeds_eq l x hx.1 (nd l x) s hxn (fun n hn => by
    have hr := p.ends hx.1 hx.2 n hn
    exact ⟨hr.1, by rw [h.len]; exact hr.2, p.longs hr.1 hr.2⟩) (by omega) (by omega)
  refine ⟨by unfold lateStep; rw [lateNeeds_length, h.len], fun j h0 h1 => ?_⟩
  unfold lateStep
  rw [hs j h0, hv j h0]
  by_cases e : j = x
  · subst e
    rw [if_neg hxn, if_pos rfl, if_pos List.mem_cons_self]; omega
  · rw [if_neg e]
    by_cases hB : j ∈ B
    · have hjn : j ∉ nd l x := fun hn => (a2 j (a3 j hn)).2 hB
      rw [if_neg hjn, if_neg hjn, if_pos (List.mem_cons_of_mem _ hB), h.val j h0 h1, if_pos hB]
    · rw [if_neg (fun h2 => (List.mem_cons.1 h2).elim e hB), h.val j h0 h1, if_neg hB, hsx]
      by_cases hn : j ∈ nd l x
      · rw [if_pos hn, if_pos hn]
        unfold mx
        by_cases c : rd t j < rd t x + lg l x
        · rw [if_pos c, if_pos (by omega)]; omega
        · rw [if_neg c, if_neg (by omega)]
      · rw [if_neg hn, if_neg hn]
def lateOf (l : List S53) (s0 B : List Int) : List Int := B.foldr (fun x s => lateStep l s x) s0
theorem late_rel {l : List S53} {O : List Int} (p : Plan l O) {all : Int} (hall : 0 ≤ all ∧ all ≤ 3000) {s0 : List Int} (h0 : LateRel l all [] (List.replicate l.length 0) s0) : ∀ (B A : List Int), O = A ++ B → LateRel l all B (tlOf l B) (lateOf l s0 B)
  | [], A, _ => h0
  | x :: B, A, h => (late_rel p hall h0 B (A ++ [x]) (by simp [h])).step p hall h (tails_inv p B (A ++ [x]) (by simp [h]))
theorem late_l2 {l : List S53} (hn : NeedIn l) {i : Nat} (hi : i < l.length) (hs : (l.getD i z53).f1.length ≤ 1048576) (o : List Int) (m : Nat) (hm : m < 1000) (r : List Int) (d : Nat) : ∀ (j : Nat) (s : List Int), s.length = l.length → j ≤ (l.getD i z53).f1.length → (l.getD i z53).f1.length - j = d →
    Ev (fun k => spec_l4Latest.l1 k l o (((l.getD i z53).f1.drop j).foldl (lateNeed l i) s) ((m : Int) - 1)) r →
    Ev (fun k => spec_l4Latest.l2 k l o s m i (l.getD i z53).f1 (l.getD i z53).f1.length j) r := by
  induction d with
  | zero =>
    intro j s ho hj hd hr
    rw [List.drop_of_length_le (by omega)] at hr
    refine Ev.step (fun k => ?_) hr
    simp only [spec_l4Latest.l2]
    rw [if_neg (by omega), wrap_small (by omega) (by omega)]; rfl
  | succ d ih =>
    intro j s ho hj hd hr
    have hjl : j < (l.getD i z53).f1.length := by omega
    have hx := hn _ (getD_mem z53 l i hi) ((l.getD i z53).f1.getD j 0) (getD_mem 0 _ j hjl)
    rw [drop_at _ j hjl, List.foldl_cons] at hr
    obtain ⟨x, hxx⟩ : ∃ x, x = (l.getD i z53).f1.getD j 0 := ⟨_, rfl⟩
    rw [← hxx] at hx hr
    have hrec := ih (j + 1) (lateNeed l i s x) (by rw [lateNeed_length]; exact ho) (by omega) (by omega) hr
    by_cases h : wrap64 (rd s (i : Int) - (rd_T53 l x).f0) < rd s x
    · have e : lateNeed l i s x = s.set x.toNat (wrap64 (rd s (i : Int) - (rd_T53 l x).f0)) := by unfold lateNeed; rw [← rd_lg, if_pos h]
      rw [e] at hrec
      refine Ev.step (fun k => ?_) hrec
      simp only [spec_l4Latest.l2]
      rw [if_pos (by omega), if_pos (by omega), if_pos (by omega), if_pos (by omega), if_pos (by omega), rd_at, ← hxx, if_pos hx.1, if_pos (by omega), if_pos (by omega), if_pos h, wrap_next hjl (by omega)]
    · have e : lateNeed l i s x = s := by unfold lateNeed; rw [← rd_lg, if_neg h]
      rw [e] at hrec
      refine Ev.step (fun k => ?_) hrec
      simp only [spec_l4Latest.l2]
      rw [if_pos (by omega), if_pos (by omega), if_pos (by omega), if_pos (by omega), if_pos (by omega), rd_at, ← hxx, if_pos hx.1, if_pos (by omega), if_pos (by omega), if_neg h, wrap_next hjl (by omega)]
theorem lateOf_snoc (l : List S53) (s : List Int) (B : List Int) (x : Int) : lateOf l s (B ++ [x]) = lateOf l (lateStep l s x) B := by unfold lateOf; rw [List.foldr_append]; rfl
theorem lateStep_length (l : List S53) (s : List Int) (x : Int) : (lateStep l s x).length = s.length := lateNeeds_length l x _ _
theorem late_l1 {l : List S53} (hn : NeedIn l) (hs : ∀ x ∈ l, ShortT x) {O : List Int} (hO : ∀ x ∈ O, 0 ≤ x ∧ x < l.length) (hOl : O.length ≤ 100) : ∀ (m : Nat) (s : List Int), m ≤ O.length → s.length = l.length → Ev (fun k => spec_l4Latest.l1 k l O s ((m : Int) - 1)) (lateOf l s (O.take m))
  | 0, s, _, _ => by
    refine Ev.step (f := fun _ => some s) (fun k => ?_) (Ev.now _)
    simp only [spec_l4Latest.l1]
    rw [if_neg (by omega)]
  | m + 1, s, hm, hl => by
    have hx := hO (O.getD m 0) (getD_mem 0 O m (by omega))
    rw [take_at O m (by omega), lateOf_snoc]
    obtain ⟨i, hi⟩ := Int.eq_ofNat_of_zero_le hx.1
    have hil : i < l.length := by omega
    rw [hi]
    have hr := late_l2 hn hil (hs _ (getD_mem z53 l i hil)) O m (by omega) _ (l.getD i z53).f1.length 0 s hl (by omega) (by omega) (late_l1 hn hs hO hOl m (lateStep l s i) (by omega) (by rw [lateStep_length]; exact hl))
    refine Ev.step (fun k => ?_) hr
    simp only [spec_l4Latest.l1]
    rw [show ((m + 1 : Nat) : Int) - 1 = (m : Int) by omega, if_pos (by omega), if_pos (by omega), if_pos (by omega), rd_at, hi, if_pos (by omega), if_pos (by omega), rd53_at]
    rfl
theorem late_l0 {l : List S53} (hl : l.length ≤ 1000) (o : List Int) (ho : o.length ≤ 1000) (all : Int) (ha : 0 ≤ all ∧ all ≤ 3000) (hg : ∀ i, i < l.length → 1 ≤ (l.getD i z53).f0 ∧ (l.getD i z53).f0 ≤ 100) (d : Nat) : ∀ (j : Nat) (s : List Int), s.length = l.length → j ≤ l.length → l.length - j = d → (∀ i : Nat, i < j → s.getD i 0 = all - (l.getD i z53).f0) →
    ∃ s0 : List Int, s0.length = l.length ∧ (∀ i : Nat, i < l.length → s0.getD i 0 = all - (l.getD i z53).f0) ∧ ∀ r, Ev (fun k => spec_l4Latest.l1 k l o s0 ((o.length : Int) - 1)) r → Ev (fun k => spec_l4Latest.l0 k l o all s l.length j) r := by
  induction d with
  | zero =>
    intro j s h1 h2 h3 h4
    refine ⟨s, h1, fun i hi => h4 i (by omega), fun r hr => Ev.step (fun k => ?_) hr⟩
    simp only [spec_l4Latest.l0]
    rw [if_neg (by omega), wrap_small (by omega) (by omega)]
  | succ d ih =>
    intro j s h1 h2 h3 h4
    have hgj := hg j (by omega)
    obtain ⟨s0, e1, e2, e3⟩ := ih (j + 1) (s.set j (all - (l.getD j z53).f0)) (by rw [List.length_set]; exact h1) (by omega) (by omega) (fun i hi => by
      rw [List.getD_eq_getElem?_getD, List.getElem?_set]
      by_cases e : j = i
      · subst e; rw [if_pos rfl, if_pos (by omega)]; rfl
      · rw [if_neg e, ← List.getD_eq_getElem?_getD]; exact h4 i (by omega))
    refine ⟨s0, e1, e2, fun r hr => Ev.step (fun k => ?_) (e3 r hr)⟩
    simp only [spec_l4Latest.l0]
    rw [if_pos (by omega), if_pos (by omega), if_pos (by omega), if_pos (by omega), rd53_at, wrap_small (by omega) (by omega), wrap_next (n := 1000) (by omega) (by omega), Int.toNat_natCast]
def lateList (l : List S53) (O : List Int) : List Int := (tlOf l O).map (fun v => (erOf l O).2 - v)
theorem tlOf_length {l : List S53} {O : List Int} (p : Plan l O) : (tlOf l O).length = l.length := (tails_inv p O [] rfl).len
theorem lateList_at {l : List S53} {O : List Int} (p : Plan l O) (j : Int) (h0 : 0 ≤ j) (h1 : j < l.length) : rd (lateList l O) j = (erOf l O).2 - rd (tlOf l O) j := by
  unfold lateList rd
  rw [List.getD_eq_getElem?_getD, List.getElem?_map, List.getElem?_eq_getElem (by rw [tlOf_length p]; omega), List.getD_eq_getElem?_getD, List.getElem?_eq_getElem (by rw [tlOf_length p]; omega)]
  rfl
theorem all_bound {l : List S53} {O : List Int} (p : Plan l O) : 0 ≤ (erOf l O).2 ∧ (erOf l O).2 ≤ 3000 := by
  have h := (early_inv p).bnd
  have h1 := p.full
  have h2 := p.len
  omega
theorem tl_bound {l : List S53} {O : List Int} (p : Plan l O) (j : Int) (h0 : 0 ≤ j) (h1 : j < l.length) : 0 ≤ rd (tlOf l O) j ∧ rd (tlOf l O) j ≤ 3000 := by
  have h := (tails_inv p O [] rfl).bnd j h0 h1
  have h1 := p.full
  have h2 := p.len
  omega
theorem late_spec {l : List S53} (hs : ∀ x ∈ l, ShortT x) {O : List Int} (p : Plan l O) : Ev (fun k => spec_l4Latest.f k l) (lateList l O) := by
  have h30 := p.len
  have hall := all_bound p
  obtain ⟨⟨K1, h1⟩, _⟩ := early_both hs p
  obtain ⟨K2, h2⟩ := p.spec
  obtain ⟨s0, e1, e2, e3⟩ := late_l0 (l := l) (by omega) O (by have := p.full; omega) (erOf l O).2 hall p.ok l.length 0 (List.replicate l.length 0) (by simp) (by omega) (by omega) (fun i hi => by omega)
  have h4 := late_l1 p.need hs p.out.rng (by have := p.full; omega) O.length s0 (Nat.le_refl _) e1
  rw [List.take_of_length_le (Nat.le_refl _)] at h4
  have hrel0 : LateRel l (erOf l O).2 [] (List.replicate l.length 0) s0 := ⟨e1, fun j h0 hj => by
    rw [if_neg (by simp), rd_zeros]
    have := e2 j.toNat (by omega)
    show s0.getD j.toNat 0 = _
    rw [this]
    show _ = _ - (l.getD j.toNat z53).f0 - 0
    omega⟩
  have hrel := late_rel p hall hrel0 O [] rfl
  have heq : lateOf l s0 O = lateList l O := by
    apply List.ext_getElem
    · rw [hrel.len]; unfold lateList; rw [List.length_map, tlOf_length p]
    · intro i h1 h2
      have hi : i < l.length := by rw [hrel.len] at h1; exact h1
      have a := hrel.val (i : Int) (by omega) (by omega)
      rw [if_pos (p.all_in (by omega) (by omega)), ← lateList_at p (i : Int) (by omega) (by omega), rd_at, rd_at, List.getD_eq_getElem?_getD, List.getD_eq_getElem?_getD, List.getElem?_eq_getElem h1, List.getElem?_eq_getElem h2] at a
      exact a
  rw [heq] at h4
  obtain ⟨K3, h5⟩ := e3 _ h4
  refine ⟨K1 + K2 + K3, fun k hk => ?_⟩
  show spec_l4Latest.f k l = some _
  unfold spec_l4Latest.f
  rw [show spec_l4Order.f k l = some (O, true) from h2 k (by omega)]; simp only [Option.bind_some]
  rw [show spec_l4Earliest.f k l = some _ from h1 k (by omega)]; simp only [Option.bind_some]
  rw [if_pos (by omega), Int.toNat_natCast, if_pos (by omega), List.length_replicate]
  exact h5 k (by omega)

theorem crit_le {l : List S53} {O : List Int} (p : Plan l O) : ∀ (B A : List Int), O = A ++ B → ∀ k ∈ B, rd (erOf l O).1 k + rd (tlOf l O) k ≤ (erOf l O).2
  | [], _, _, k, hk => by simp at hk
  | x :: B, A, hO, k, hk => by
    have ih := crit_le p B (A ++ [x]) (by simp [hO])
    rcases List.mem_cons.1 hk with rfl | hk
    · have ht := tails_inv p O [] rfl
      have he := early_inv p
      have hkO : k ∈ O := by rw [hO]; simp
      rcases ht.inB k hkO with c | ⟨m, hm, hkm, c⟩
      · have := he.le k hkO; omega
      · have hmB : m ∈ B := by
          rw [hO] at hm
          have hno : ∀ C D : List Int, O = C ++ m :: D → k ∈ C := fun C D h => (out_apart (h ▸ p.out)).2.2 k hkm
          rcases List.mem_append.1 hm with hm | hm
          · obtain ⟨a1, a2, rfl⟩ := List.append_of_mem hm
            have := hno a1 (a2 ++ k :: B) (by simp [hO])
            exact absurd rfl ((out_apart (hO ▸ p.out)).2.1 k (by simp [this])).1
          · rcases List.mem_cons.1 hm with rfl | hm
            · have := hno A B hO
              exact absurd rfl ((out_apart (hO ▸ p.out)).2.1 m this).1
            · exact hm
        have h1 := ih m hmB
        have h2 := he.low m (by rw [hO]; simp [hmB]) k hkm
        omega
    · exact ih k hk
theorem crit_source {l : List S53} {O : List Int} (p : Plan l O) : ∀ (n : Nat) (A B : List Int), A.length = n → O = A ++ B → ∀ k ∈ A, ∃ s ∈ O, nd l s = [] ∧ rd (erOf l O).1 k + rd (tlOf l O) k ≤ rd (tlOf l O) s
  | 0, A, B, hn, _, k, hk => by rw [List.length_eq_zero_iff.1 hn] at hk; simp at hk
  | n + 1, A, B, hn, hO, k, hk => by
    obtain ⟨A', x, rfl⟩ : ∃ A' x, A = A' ++ [x] := ⟨A.dropLast, A.getLast (by intro e; rw [e] at hn; simp at hn), (List.dropLast_concat_getLast _).symm⟩
    have ih := crit_source p n A' ([x] ++ B) (by simpa using hn) (by simp [hO])
    rcases List.mem_append.1 hk with hk | hk
    · exact ih k hk
    · rw [List.mem_singleton.1 hk]
      have ht := tails_inv p O [] rfl
      have he := early_inv p
      have hxO : x ∈ O := by rw [hO]; simp
      have hxr := p.out.rng x hxO
      have hA := (out_apart (l := l) (A := A') (B := B) (x := x) (by have := p.out; rw [hO] at this; simpa using this)).2.2
      rcases he.att x hxO with c | ⟨m, hm, c⟩
      · refine ⟨x, hxO, ?_, by omega⟩
        cases hnd : nd l x with
        | nil => rfl
        | cons y ys =>
          have hy : y ∈ nd l x := by rw [hnd]; exact List.mem_cons_self
          have h1 := he.low x hxO y hy
          have hr := p.ends hxr.1 hxr.2 y hy
          have h2 := he.nn y hr.1 hr.2
          have h3 := p.longs hr.1 hr.2
          omega
      · obtain ⟨s, hs, h1, h2⟩ := ih m (hA m hm)
        have hr := p.ends hxr.1 hxr.2 m hm
        have h3 := (ht.up x hxO m hm).1 (p.all_in hr.1 hr.2)
        exact ⟨s, hs, h1, by omega⟩
theorem crit_start {l : List S53} {O : List Int} (p : Plan l O) (h : 0 < (erOf l O).2) : ∃ s ∈ O, nd l s = [] ∧ rd (tlOf l O) s = (erOf l O).2 := by
  have ht := tails_inv p O [] rfl
  have he := early_inv p
  rcases he.top with c | ⟨k, hk, c⟩
  · omega
  · obtain ⟨s, hs, h1, h2⟩ := crit_source p O.length O [] rfl (by simp) k hk
    have h3 := crit_le p O [] rfl s hs
    have hr := p.out.rng s hs
    have h4 := he.nn s hr.1 hr.2
    have h5 : lg l k ≤ rd (tlOf l O) k := by
      rcases ht.inB k hk with e | ⟨m, hm, _, e⟩
      · omega
      · have hmr := p.out.rng m hm
        have := (ht.bnd m hmr.1 hmr.2).1
        omega
    exact ⟨s, hs, h1, by omega⟩
/-- where the path stands: what is left, and the last of it -/
def CritSt (l : List S53) (O out : List Int) (left : Int) : Prop :=
  (out = [] ∧ left = (erOf l O).2) ∨ ∃ o x, out = o ++ [x] ∧ x ∈ O ∧ rd (erOf l O).1 x + lg l x = (erOf l O).2 - left ∧ rd (tlOf l O) x - lg l x = left
def critLast (out : List Int) : Int := (out.getLast?).getD (-1)
def critB (l : List S53) (t : List Int) (left : Int) (out : List Int) (i : Nat) : Bool :=
  decide (rd t i = left) && (if out = [] then decide (nd l i = []) else decide (critLast out ∈ nd l i))
theorem critLast_snoc (o : List Int) (x : Int) : critLast (o ++ [x]) = x := by unfold critLast; rw [List.getLast?_append]; rfl
theorem crit_some {l : List S53} {O : List Int} (p : Plan l O) {out : List Int} {left : Int} (h : CritSt l O out left) (hl : 0 < left) : ∃ i : Nat, i < l.length ∧ critB l (tlOf l O) left out i = true := by
  have ht := tails_inv p O [] rfl
  rcases h with ⟨rfl, rfl⟩ | ⟨o, x, rfl, hx, h1, h2⟩
  · obtain ⟨s, hs, h1, h2⟩ := crit_start p hl
    have hr := p.out.rng s hs
    refine ⟨s.toNat, by omega, ?_⟩
    unfold critB
    rw [Int.toNat_of_nonneg hr.1, if_pos rfl, decide_eq_true h1, decide_eq_true h2]; rfl
  · rcases ht.inB x hx with e | ⟨k, hk, hxk, e⟩
    · omega
    · have hr := p.out.rng k hk
      refine ⟨k.toNat, by omega, ?_⟩
      unfold critB
      rw [Int.toNat_of_nonneg hr.1, if_neg (by simp), Bool.and_eq_true]
      exact ⟨decide_eq_true (by omega), decide_eq_true (by rw [critLast_snoc]; exact hxk)⟩
theorem crit_early {l : List S53} {O : List Int} (p : Plan l O) {out : List Int} {left : Int} (h : CritSt l O out left) {i : Nat} (hi : i < l.length) (hb : critB l (tlOf l O) left out i = true) : rd (erOf l O).1 i = (erOf l O).2 - left ∧ rd (tlOf l O) i = left := by
  have he := early_inv p
  have hiO : (i : Int) ∈ O := p.all_in (by omega) (by omega)
  have hle := crit_le p O [] rfl i hiO
  have hnn := he.nn i (by omega) (by omega)
  unfold critB at hb
  rw [Bool.and_eq_true] at hb
  obtain ⟨hb1, hb2⟩ := hb
  have hb1 := of_decide_eq_true hb1
  refine ⟨?_, hb1⟩
  rcases h with ⟨rfl, rfl⟩ | ⟨o, x, rfl, hx, h1, h2⟩
  · omega
  · rw [if_neg (by simp)] at hb2
    have hb2 := of_decide_eq_true hb2
    unfold critLast at hb2
    rw [List.getLast?_append] at hb2
    simp only [List.getLast?_singleton, Option.some_or, Option.getD_some] at hb2
    have := he.low i hiO x hb2
    omega
theorem CritSt.step {l : List S53} {O : List Int} (p : Plan l O) {out : List Int} {left : Int} (h : CritSt l O out left) {i : Nat} (hi : i < l.length) (hb : critB l (tlOf l O) left out i = true) : CritSt l O (out ++ [(i : Int)]) (left - lg l i) := by
  have h1 := crit_early p h hi hb
  exact .inr ⟨out, i, rfl, p.all_in (by omega) (by omega), by omega, by omega⟩
theorem first_true (P : Nat → Bool) : ∀ (n : Nat), (∃ i, i < n ∧ P i = true) → ∃ i, i < n ∧ P i = true ∧ ∀ m, m < i → P m = false
  | 0, ⟨i, h, _⟩ => by omega
  | n + 1, ⟨i, h, hp⟩ => by
    by_cases e : ∃ i, i < n ∧ P i = true
    · obtain ⟨j, h1, h2, h3⟩ := first_true P n e
      exact ⟨j, by omega, h2, h3⟩
    · have hin : i = n := by
        by_cases c : i < n
        · exact absurd ⟨i, c, hp⟩ e
        · omega
      subst hin
      refine ⟨i, by omega, hp, fun m hm => ?_⟩
      cases hq : P m with
      | false => rfl
      | true => exact absurd ⟨m, hm, hq⟩ e
theorem crit_impl_l1 {l : List S53} {O : List Int} (hs : ∀ x ∈ l, ShortT x) (p : Plan l O) {out : List Int} {left : Int} (hst : CritSt l O out left) (hol : out.length ≤ 10000) {i : Nat} (hi : i < l.length) (hb : critB l (tlOf l O) left out i = true) (hmin : ∀ m, m < i → critB l (tlOf l O) left out m = false) (r : List Int × Bool)
    (hr : Ev (fun k => impl_CriticalOf.l0 k l (wrap64 (left - lg l i)) (tlOf l O) (out ++ [(i : Int)])) r) (d : Nat) : ∀ (j : Nat), j ≤ i → i - j = d → Ev (fun k => impl_CriticalOf.l1 k l left (tlOf l O) out 0 l (l.length : Int) j) r := by
  have hl := p.len
  have htl := tlOf_length p
  induction d with
  | zero =>
    intro j hj hd
    obtain rfl : j = i := by omega
    have hsj : (l.getD j z53).f1.length ≤ 1048576 := hs _ (getD_mem z53 l j hi)
    have hb0 := hb
    unfold critB at hb0
    rw [Bool.and_eq_true] at hb0
    obtain ⟨hb1, hb2⟩ := hb0
    have hb1 := of_decide_eq_true hb1
    obtain ⟨K, hK⟩ := hr
    refine ⟨K + 1048580, fun k hk => ?_⟩
    obtain ⟨k, rfl⟩ : ∃ m, k = m + 1 := ⟨k - 1, by omega⟩
    simp only [impl_CriticalOf.l1]
    rw [if_pos (by omega), if_pos (by omega), if_pos (by omega), rd53_at]
    rcases hst with ⟨rfl, h1⟩ | ⟨o, x, rfl, hx, h1, h2⟩
    · rw [if_pos rfl] at hb2
      have hb2 : (l.getD j z53).f1 = [] := by have := of_decide_eq_true hb2; unfold nd at this; rwa [Int.toNat_natCast] at this
      rw [if_pos (by rfl), if_pos (by omega), if_pos hb1, if_pos (by rw [hb2]; rfl), if_pos (by decide), if_pos (by omega)]
      exact hK k (by omega)
    · rw [if_neg (by simp)] at hb2
      have hb2 : x ∈ (l.getD j z53).f1 := by
        have := of_decide_eq_true hb2
        unfold nd critLast at this
        rw [List.getLast?_append] at this
        simpa using this
      have hlen : (o ++ [x]).length = o.length + 1 := by simp
      have hrd : rd (o ++ [x]) (wrap64 (((o ++ [x]).length : Int) - 1)) = x := by
        rw [wrap_small (by omega) (by omega), hlen, show ((o.length + 1 : Nat) : Int) - 1 = (o.length : Int) by omega, rd_at]; simp
      rw [if_neg (by omega), if_pos (by omega), if_pos hb1, if_pos (by omega), if_pos (by rw [wrap_small (by omega) (by omega)]; omega), if_pos (by rw [wrap_small (by omega) (by omega)]; omega), hrd, Contains_eq _ _ hsj k (by omega)]
      simp only [Option.bind_some]
      rw [if_pos (decide_eq_true hb2), if_pos (by omega), if_pos (by omega)]
      exact hK k (by omega)
  | succ d ih =>
    intro j hj hd
    have hsj : (l.getD j z53).f1.length ≤ 1048576 := hs _ (getD_mem z53 l j (by omega))
    have hb0 := hmin j (by omega)
    obtain ⟨K, hK⟩ := ih (j + 1) (by omega) (by omega)
    refine ⟨K + 1048580, fun k hk => ?_⟩
    obtain ⟨k, rfl⟩ : ∃ m, k = m + 1 := ⟨k - 1, by omega⟩
    have hnext := hK k (by omega)
    simp only [impl_CriticalOf.l1]
    rw [if_pos (by omega), if_pos (by omega), if_pos (by omega), rd53_at, wrap_next (n := l.length) (by omega) (by omega)]
    unfold critB at hb0
    by_cases c : rd (tlOf l O) (j : Int) = left
    · rw [decide_eq_true c, Bool.true_and] at hb0
      rcases hst with ⟨rfl, h1⟩ | ⟨o, x, rfl, hx, h1, h2⟩
      · rw [if_pos rfl] at hb0
        have hb2 : (l.getD j z53).f1 ≠ [] := by have := of_decide_eq_false hb0; unfold nd at this; rwa [Int.toNat_natCast] at this
        have hb3 : (l.getD j z53).f1.length ≠ 0 := fun e => hb2 (List.length_eq_zero_iff.1 e)
        rw [if_pos (by rfl), if_pos (by omega), if_pos c, if_neg (by omega), if_neg (by decide)]
        exact hnext
      · rw [if_neg (by simp)] at hb0
        have hb2 : x ∉ (l.getD j z53).f1 := by
          have := of_decide_eq_false hb0
          unfold nd critLast at this
          rw [List.getLast?_append] at this
          simpa using this
        have hlen : (o ++ [x]).length = o.length + 1 := by simp
        have hrd : rd (o ++ [x]) (wrap64 (((o ++ [x]).length : Int) - 1)) = x := by
          rw [wrap_small (by omega) (by omega), hlen, show ((o.length + 1 : Nat) : Int) - 1 = (o.length : Int) by omega, rd_at]; simp
        rw [if_neg (by omega), if_pos (by omega), if_pos c, if_pos (by omega), if_pos (by rw [wrap_small (by omega) (by omega)]; omega), if_pos (by rw [wrap_small (by omega) (by omega)]; omega), hrd, Contains_eq _ _ hsj k (by omega)]
        simp only [Option.bind_some]
        rw [decide_eq_false hb2, if_neg (by decide)]
        exact hnext
    · by_cases e : (out.length : Int) = 0
      · rw [if_pos e, if_pos (by omega), if_neg c]; exact hnext
      · rw [if_neg e, if_pos (by omega), if_neg c]; exact hnext
theorem crit_spec_l1 {l : List S53} {O : List Int} (hs : ∀ x ∈ l, ShortT x) (p : Plan l O) {out : List Int} {left : Int} (hst : CritSt l O out left) (hol : out.length ≤ 10000) {i : Nat} (hi : i < l.length) (hb : critB l (tlOf l O) left out i = true) (hmin : ∀ m, m < i → critB l (tlOf l O) left out m = false) (r : List Int × Bool)
    (hr : Ev (fun k => spec_CriticalOf.l0 k l (erOf l O).1 (erOf l O).2 (lateList l O) (out ++ [(i : Int)]) (wrap64 ((erOf l O).2 - left + lg l i)) i) r) (d : Nat) : ∀ (j : Nat), j ≤ i → i - j = d → Ev (fun k => spec_CriticalOf.l1 k l (erOf l O).1 (erOf l O).2 (lateList l O) out ((erOf l O).2 - left) (critLast out) (-1) l (l.length : Int) j) r := by
  have hl := p.len
  have htl : (lateList l O).length = l.length := by unfold lateList; rw [List.length_map, tlOf_length p]
  have hel := (early_inv p).len
  have hlast : (out = [] ∧ critLast out = -1) ∨ (out ≠ [] ∧ 0 ≤ critLast out) := by
    rcases hst with ⟨rfl, _⟩ | ⟨o, x, rfl, hx, _, _⟩
    · exact .inl ⟨rfl, rfl⟩
    · have := p.out.rng x hx
      refine .inr ⟨by simp, ?_⟩
      unfold critLast
      rw [List.getLast?_append]
      simpa using this.1
  induction d with
  | zero =>
    intro j hj hd
    obtain rfl : j = i := by omega
    have hsj : (l.getD j z53).f1.length ≤ 1048576 := hs _ (getD_mem z53 l j hi)
    obtain ⟨he1, he2⟩ := crit_early p hst hi hb
    have hb0 := hb
    unfold critB at hb0
    rw [Bool.and_eq_true] at hb0
    obtain ⟨hb1, hb2⟩ := hb0
    have hlt : rd (lateList l O) (j : Int) = (erOf l O).2 - left := by rw [lateList_at p (j : Int) (by omega) (by omega), he2]
    obtain ⟨K, hK⟩ := hr
    refine ⟨K + 1048580, fun k hk => ?_⟩
    obtain ⟨k, rfl⟩ : ∃ m, k = m + 1 := ⟨k - 1, by omega⟩
    simp only [spec_CriticalOf.l1]
    rw [if_pos (by omega), if_pos (by omega), if_pos (by omega), if_pos (by omega), if_pos he1, if_pos (by omega), if_pos hlt, rd53_at]
    rcases hlast with ⟨rfl, h1⟩ | ⟨h0, h1⟩
    · rw [if_pos rfl] at hb2
      have hb2 : (l.getD j z53).f1 = [] := by have := of_decide_eq_true hb2; unfold nd at this; rwa [Int.toNat_natCast] at this
      rw [if_pos (by omega), if_pos (by rw [hb2]; rfl), if_pos (by decide), if_pos (by omega)]
      exact hK k (by omega)
    · rw [if_neg h0] at hb2
      have hb2 : critLast out ∈ (l.getD j z53).f1 := by have := of_decide_eq_true hb2; unfold nd at this; rwa [Int.toNat_natCast] at this
      rw [if_neg (by omega), if_pos (by omega), l1Has_eq _ _ hsj k (by omega)]
      simp only [Option.bind_some]
      rw [if_pos (decide_eq_true hb2), if_pos (by omega), if_pos (by omega)]
      exact hK k (by omega)
  | succ d ih =>
    intro j hj hd
    have hsj : (l.getD j z53).f1.length ≤ 1048576 := hs _ (getD_mem z53 l j (by omega))
    have hb0 := hmin j (by omega)
    obtain ⟨K, hK⟩ := ih (j + 1) (by omega) (by omega)
    refine ⟨K + 1048580, fun k hk => ?_⟩
    obtain ⟨k, rfl⟩ : ∃ m, k = m + 1 := ⟨k - 1, by omega⟩
    have hnext := hK k (by omega)
    simp only [spec_CriticalOf.l1]
    rw [if_pos (by omega), if_pos (by omega), if_pos (by omega), if_pos (by omega), rd53_at, wrap_next (n := l.length) (by omega) (by omega)]
    by_cases e1 : rd (erOf l O).1 (j : Int) = (erOf l O).2 - left
    · rw [if_pos e1, if_pos (by omega)]
      by_cases e2 : rd (lateList l O) (j : Int) = (erOf l O).2 - left
      · rw [if_pos e2]
        have c : rd (tlOf l O) (j : Int) = left := by rw [lateList_at p (j : Int) (by omega) (by omega)] at e2; omega
        unfold critB at hb0
        rw [decide_eq_true c, Bool.true_and] at hb0
        rcases hlast with ⟨rfl, h1⟩ | ⟨h0, h1⟩
        · rw [if_pos rfl] at hb0
          have hb2 : (l.getD j z53).f1 ≠ [] := by have := of_decide_eq_false hb0; unfold nd at this; rwa [Int.toNat_natCast] at this
          have hb3 : (l.getD j z53).f1.length ≠ 0 := fun e => hb2 (List.length_eq_zero_iff.1 e)
          rw [if_pos (by omega), if_neg (by omega), if_neg (by omega)]
          exact hnext
        · rw [if_neg h0] at hb0
          have hb2 : critLast out ∉ (l.getD j z53).f1 := by have := of_decide_eq_false hb0; unfold nd at this; rwa [Int.toNat_natCast] at this
          rw [if_neg (by omega), if_pos (by omega), l1Has_eq _ _ hsj k (by omega)]
          simp only [Option.bind_some]
          rw [decide_eq_false hb2, if_neg (by decide)]
          exact hnext
      · rw [if_neg e2]; exact hnext
    · rw [if_neg e1]; exact hnext
theorem crit_go {l : List S53} {O : List Int} (hs : ∀ x ∈ l, ShortT x) (p : Plan l O) (n : Nat) : ∀ (out : List Int) (left : Int), CritSt l O out left → 0 ≤ left → left ≤ n → n + out.length ≤ 10000 →
    ∃ r : List Int, r.length ≤ 10000 ∧ Ev (fun k => spec_CriticalOf.l0 k l (erOf l O).1 (erOf l O).2 (lateList l O) out ((erOf l O).2 - left) (critLast out)) (r, true) ∧ Ev (fun k => impl_CriticalOf.l0 k l left (tlOf l O) out) (r, true) := by
  have hall := all_bound p
  have stop : ∀ (out : List Int), out.length ≤ 10000 → ∃ r : List Int, r.length ≤ 10000 ∧ Ev (fun k => spec_CriticalOf.l0 k l (erOf l O).1 (erOf l O).2 (lateList l O) out ((erOf l O).2 - 0) (critLast out)) (r, true) ∧ Ev (fun k => impl_CriticalOf.l0 k l 0 (tlOf l O) out) (r, true) := fun out ho => by
    refine ⟨out, ho, Ev.step (f := fun _ => some (out, true)) (fun k => ?_) (Ev.now _), Ev.step (f := fun _ => some (out, true)) (fun k => ?_) (Ev.now _)⟩
    · simp only [spec_CriticalOf.l0]; rw [if_neg (by omega)]
    · simp only [impl_CriticalOf.l0]; rw [if_neg (by omega)]
  induction n with
  | zero =>
    intro out left hst h0 h1 h2
    obtain rfl : left = 0 := by omega
    exact stop out (by omega)
  | succ n ih =>
    intro out left hst h0 h1 h2
    by_cases e : left = 0
    · subst e; exact stop out (by omega)
    · obtain ⟨i, hi, hb, hmin⟩ := first_true (critB l (tlOf l O) left out) l.length (crit_some p hst (by omega))
      have hg := p.longs (x := (i : Int)) (by omega) (by omega)
      have h3 := crit_early p hst hi hb
      have hrt : lg l i ≤ rd (tlOf l O) i := by
        have ht := tails_inv p O [] rfl
        rcases ht.inB i (p.all_in (by omega) (by omega)) with e | ⟨m, hm, _, e⟩
        · omega
        · have hmr := p.out.rng m hm
          have := (ht.bnd m hmr.1 hmr.2).1
          omega
      have hle : left ≤ (erOf l O).2 := by
        have := (early_inv p).nn i (by omega) (by omega)
        omega
      obtain ⟨r, hr0, hr1, hr2⟩ := ih (out ++ [(i : Int)]) (left - lg l i) (hst.step p hi hb) (by omega) (by omega) (by rw [List.length_append]; simp; omega)
      have hlast : critLast (out ++ [(i : Int)]) = i := by unfold critLast; rw [List.getLast?_append]; rfl
      rw [hlast] at hr1
      refine ⟨r, hr0, Ev.step (fun k => ?_) (crit_spec_l1 hs p hst (by omega) hi hb hmin (r, true) (by rw [wrap_small (by omega) (by omega), show (erOf l O).2 - left + lg l i = (erOf l O).2 - (left - lg l i) by omega]; exact hr1) i 0 (by omega) (by omega)), Ev.step (fun k => ?_) (crit_impl_l1 hs p hst (by omega) hi hb hmin (r, true) (by rw [wrap_small (by omega) (by omega)]; exact hr2) i 0 (by omega) (by omega))⟩
      · simp only [spec_CriticalOf.l0]; rw [if_pos (by omega)]; rfl
      · simp only [impl_CriticalOf.l0]; rw [if_pos (by omega)]; rfl
theorem criticalOf_both (l : List S53) (hs : ∀ x ∈ l, ShortT x) : ∃ (r : List Int × Bool) (K : Nat), r.1.length ≤ 1048576 ∧ ∀ k, K ≤ k → spec_CriticalOf.f k l = some r ∧ impl_CriticalOf.f k l = some r := by
  obtain ⟨v, ⟨K1, hv1⟩, ⟨K2, hv2⟩, hp⟩ := plan_both l hs
  cases v with
  | false =>
    refine ⟨([], false), K1 + K2, by simp, fun k hk => ⟨?_, ?_⟩⟩
    · unfold spec_CriticalOf.f; rw [show spec_GoodPlan.f k l = some false from hv1 _ (by omega)]; rfl
    · unfold impl_CriticalOf.f; rw [show impl_GoodPlan.f k l = some false from hv2 _ (by omega)]; rfl
  | true =>
    obtain ⟨O, p⟩ := hp rfl
    have hall := all_bound p
    obtain ⟨K3, h3⟩ := late_spec hs p
    obtain ⟨⟨K5, h5⟩, ⟨K6, h6⟩⟩ := early_both hs p
    obtain ⟨r, hr0, ⟨K7, h7⟩, ⟨K8, h8⟩⟩ := crit_go hs p 3000 [] (erOf l O).2 (.inl ⟨rfl, rfl⟩) (by omega) (by omega) (by simp)
    refine ⟨(r, true), K1 + K2 + K3 + K5 + K6 + K7 + K8 + 101, by show r.length ≤ _; omega, fun k hk => ⟨?_, ?_⟩⟩
    · unfold spec_CriticalOf.f; rw [show spec_GoodPlan.f k l = some true from hv1 _ (by omega)]; simp only [Option.bind_some, if_true]
      rw [show spec_l4Earliest.f k l = some _ from h5 _ (by omega)]; simp only [Option.bind_some]
      rw [show spec_l4Latest.f k l = some _ from h3 _ (by omega)]; simp only [Option.bind_some]
      have h := h7 k (by omega)
      rw [show (erOf l O).2 - (erOf l O).2 = 0 by omega] at h
      exact h
    · unfold impl_CriticalOf.f
      rw [show impl_GoodPlan.f k l = some true from hv2 k (by omega)]; simp only [Option.bind_some, if_true]
      rw [show impl_earliest.f k l = some _ from h6 k (by omega)]; simp only [Option.bind_some]
      rw [tails_eq p k (by omega)]; simp only [Option.bind_some]
      exact h8 k (by omega)

/-- THE PURE STATEMENT of the law. -/
def FnExactCriticalOf_Pure : Prop := ∀ (l0 : (List S52)), (l0.length ≤ 9223372036854775807 ∧ ∀ y ∈ l0, ((Lit.int .i64 y.f0).wf = true ∧ (y.f1.length ≤ 9223372036854775807 ∧ ∀ y2 ∈ y.f1, (Lit.int .i64 y2).wf = true))) → ∃ k, laws_FnExactCriticalOf.f k l0 = some true

theorem FnExactCriticalOf : FnExactCriticalOf_Pure := by
  intro l hl
  have htl := tasks_length l
  obtain ⟨m0, hm0⟩ : ∃ m, m = 2097160 := ⟨_, rfl⟩
  obtain ⟨r0, hs0, hr0⟩ := szTaskS_eq l hl.1 (fun y hy => (hl.2 y hy).2.1) m0 (by omega)
  by_cases hbad : r0 < 0
  · exact ⟨m0, by unfold laws_FnExactCriticalOf.f; rw [hs0]; simp only [Option.bind_some]; rw [if_pos hbad]⟩
  have hgood : l.length ≤ 1048576 ∧ ∀ x ∈ tasks l, ShortT x := by
    rcases hr0 with hr0 | ⟨_, h1, h2⟩
    · exact absurd hr0 hbad
    · exact ⟨h1, h2⟩
  obtain ⟨h, hsh⟩ := hgood
  obtain ⟨v, K, hvl, hv⟩ := criticalOf_both (tasks l) hsh
  obtain ⟨m, hm⟩ : ∃ m, m = K + 2097160 := ⟨_, rfl⟩
  obtain ⟨r, hs, hr⟩ := szTaskS_eq l hl.1 (fun y hy => (hl.2 y hy).2.1) m (by omega)
  have hb := tot53_bound (tasks l) hsh
  refine ⟨m, ?_⟩
  unfold laws_FnExactCriticalOf.f
  rw [hs]; simp only [Option.bind_some]
  by_cases h5 : r < 0
  · rw [if_pos h5]
  rw [if_neg h5, toTaskS_eq l h hsh _ (by omega)]; simp only [Option.bind_some]
  rw [(hv _ (by omega)).1, (hv _ (by omega)).2]; simp only [Option.bind_some]
  rw [eqIntS_self _ (by omega) _ (by omega)]; simp only [Option.bind_some]
  rw [eqTaskS_self (tasks l) (by omega) hsh _ (by omega)]; simp only [Option.bind_some]
  rw [markIntS_eq _ 1 (by omega) (by omega) (by omega) _ (by omega)]; simp only [Option.bind_some]
  rw [heldIntS_eq 1 _ (by omega) (by omega) (by omega) _ (by omega)]; simp only [Option.bind_some]
  rw [if_pos (by refine ⟨?_, ?_, ?_, ?_, ?_, ?_⟩ <;> first | trivial | omega)]

end Go.Proofs.Ytpgegjbnnbkhiaa.Pure
