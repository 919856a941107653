/- The program's Lamport numbers are the reference's: the law answers true. No conditions but the reach of a slice. -/
import Derived.Test.YtmhhjmadpnkelaaPFnExactLamportOfx8
namespace Go.Proofs.Ytmhhjmadpnkelaa.Pure
open Go.RowKit Go.Proofs.Ytmhhjmadpnkelaa.PFnExactLamportOf Go.Proofs.YtmhhjmadpnkelaaW.PrintWords Go.Proofs.YtmhhjmadpnkelaaW.PrintLast
set_option linter.unusedVariables false
set_option linter.unusedSimpArgs false

theorem wrap_small {x : Int} (h0 : -9223372036854775808 ≤ x) (h1 : x ≤ 9223372036854775807) : wrap64 x = x := by
  unfold wrap64
  omega

theorem wrap_next {j n : Nat} (h : j < n) (hn : n ≤ 140737488351232) : wrap64 ((j : Int) + 1) = ((j + 1 : Nat) : Int) := by
  rw [wrap_small (by omega) (by omega)]; rfl

theorem rd_at (l : List Int) (j : Nat) : rd l (j : Int) = l.getD j 0 := by
  unfold rd; rw [Int.toNat_natCast]

theorem drop_at (l : List Int) (j : Nat) (h : j < l.length) : l.drop j = l.getD j 0 :: l.drop (j + 1) := by
  rw [List.drop_eq_getElem_cons h, List.getD_eq_getElem?_getD, List.getElem?_eq_getElem h]; rfl

theorem take_at (l : List Int) (j : Nat) (h : j < l.length) : l.take (j + 1) = l.take j ++ [l.getD j 0] := by
  rw [List.take_succ_eq_append_getElem h, List.getD_eq_getElem?_getD, List.getElem?_eq_getElem h]; rfl

theorem eqIntS_loop (a b : List Int) (hn : a.length ≤ 140737488351232) (hab : a.length = b.length) (d : Nat) : ∀ (k j : Nat), j ≤ a.length → a.length - j = d → d < k →
    laws_eqIntS.l0 k a b j = some (decide (a.drop j = b.drop j)) := by
  induction d with
  | zero =>
    intro k j hj hd hk
    obtain ⟨k, rfl⟩ : ∃ m, k = m + 1 := ⟨k - 1, by omega⟩
    simp only [laws_eqIntS.l0]; rw [if_neg (by omega), List.drop_of_length_le (by omega), List.drop_of_length_le (by omega)]; simp
  | succ d ih =>
    intro k j hj hd hk
    obtain ⟨k, rfl⟩ : ∃ m, k = m + 1 := ⟨k - 1, by omega⟩
    simp only [laws_eqIntS.l0]; rw [if_pos (by omega), if_pos (by omega), if_pos (by omega), wrap_next (n := a.length) (by omega) hn, rd_at, rd_at, drop_at a j (by omega), drop_at b j (by omega)]
    by_cases h : a.getD j 0 = b.getD j 0
    · rw [if_pos h, ih k (j + 1) (by omega) (by omega) (by omega)]; simp only [List.cons.injEq, h, true_and]
    · rw [if_neg h]; simp only [List.cons.injEq, h, false_and, decide_false]

theorem eqIntS_eq (a b : List Int) (hn : a.length ≤ 140737488351232) (k : Nat) (hk : a.length < k) : laws_eqIntS.f k a b = some (decide (a = b)) := by
  unfold laws_eqIntS.f
  by_cases h : a.length = b.length
  · rw [if_pos (by omega)]
    have := eqIntS_loop a b hn h a.length k 0 (by omega) (by omega) hk
    simpa using this
  · rw [if_neg (by omega), decide_eq_false (fun e => h (by rw [e]))]

theorem eqIntS_self (a : List Int) (hn : a.length ≤ 140737488351232) (k : Nat) (hk : a.length < k) : laws_eqIntS.f k a a = some true := by
  rw [eqIntS_eq a a hn k hk]; simp

/-- the numbers v, v + 1, .. -/
def run (v : Int) : Nat → List Int
  | 0 => []
  | n + 1 => v :: run (v + 1) n

theorem run_length (n : Nat) : ∀ v, (run v n).length = n := by
  induction n with
  | zero => intro v; rfl
  | succ n ih => intro v; simp [run, ih]

theorem markIntS_loop (d : Nat) : ∀ (k j : Nat) (v : Int) (l : List Int), l.length ≤ 140737488351232 → 0 ≤ v → v + d ≤ 1000000000000000000 → j ≤ l.length → l.length - j = d → d < k →
    laws_markIntS.l0 k l v j = some (v + d, l.take j ++ run v d) := by
  induction d with
  | zero =>
    intro k j v l hn hv0 hv1 hj hd hk
    obtain ⟨k, rfl⟩ : ∃ m, k = m + 1 := ⟨k - 1, by omega⟩
    simp only [laws_markIntS.l0]; rw [if_neg (by omega), List.take_of_length_le (by omega)]; simp [run]
  | succ d ih =>
    intro k j v l hn hv0 hv1 hj hd hk
    obtain ⟨k, rfl⟩ : ∃ m, k = m + 1 := ⟨k - 1, by omega⟩
    simp only [laws_markIntS.l0]; rw [if_pos (by omega), if_pos (by omega), wrap_next (n := l.length) (by omega) hn, wrap_small (x := v + 1) (by omega) (by omega), Int.toNat_natCast]
    rw [ih k (j + 1) (v + 1) (l.set j v) (by rw [List.length_set]; exact hn) (by omega) (by omega) (by rw [List.length_set]; omega) (by rw [List.length_set]; omega) (by omega)]
    congr 2
    · omega
    · rw [List.take_succ_eq_append_getElem (by rw [List.length_set]; omega), List.getElem_set_self, List.take_set_of_le (by omega)]; simp [run]

theorem markIntS_eq (l : List Int) (v : Int) (hn : l.length ≤ 140737488351232) (hv0 : 0 ≤ v) (hv1 : v ≤ 500000000000000000) (k : Nat) (hk : l.length < k) :
    laws_markIntS.f k l v = some (v + l.length, run v l.length) := by
  unfold laws_markIntS.f
  have := markIntS_loop l.length k 0 v l hn hv0 (by omega) (by omega) (by omega) hk
  simpa using this

theorem heldIntS_loop (d : Nat) : ∀ (k : Nat) (v : Int) (p : List Int), p.length + d ≤ 140737488351232 → 0 ≤ v → v + d ≤ 1000000000000000000 → d < k →
    laws_heldIntS.l0 k (p ++ run v d) v p.length = some (v + d) := by
  induction d with
  | zero =>
    intro k v p hn hv0 hv1 hk
    obtain ⟨k, rfl⟩ : ∃ m, k = m + 1 := ⟨k - 1, by omega⟩
    simp only [laws_heldIntS.l0]; rw [if_neg (by simp [run])]; simp
  | succ d ih =>
    intro k v p hn hv0 hv1 hk
    obtain ⟨k, rfl⟩ : ∃ m, k = m + 1 := ⟨k - 1, by omega⟩
    have hl : (p ++ run v (d + 1)).length = p.length + (d + 1) := by rw [List.length_append, run_length]
    have hg : (p ++ run v (d + 1)).getD p.length 0 = v := by simp [run]
    simp only [laws_heldIntS.l0]; rw [if_pos (by omega), if_pos (by omega), rd_at, hg, if_pos rfl, wrap_next (n := p.length + (d + 1)) (by omega) hn, wrap_small (x := v + 1) (by omega) (by omega)]
    have := ih k (v + 1) (p ++ [v]) (by simp; omega) (by omega) (by omega) (by omega)
    simp only [List.append_assoc, List.length_append, List.length_singleton, List.singleton_append] at this
    rw [show run v (d + 1) = v :: run (v + 1) d from rfl, this]
    congr 1; omega

theorem heldIntS_eq (v : Int) (n : Nat) (hn : n ≤ 140737488351232) (hv0 : 0 ≤ v) (hv1 : v ≤ 500000000000000000) (k : Nat) (hk : n < k) :
    laws_heldIntS.f k (run v n) v = some (v + n) := by
  unfold laws_heldIntS.f
  have := heldIntS_loop n k v [] (by simpa using hn) hv0 (by omega) hk
  simpa using this

theorem rdS_at (l : List S57) (j : Nat) : rd_T57 l (j : Int) = l.getD j z57 := by unfold rd_T57; rw [Int.toNat_natCast]
theorem rdR_at (l : List S64) (j : Nat) : rd_T64 l (j : Int) = l.getD j z64 := by unfold rd_T64; rw [Int.toNat_natCast]

/-- an act as the program has it -/
def actOf (x : S64) : S57 := ⟨x.f0, x.f1⟩
/-- the acts as the program has them -/
def acts (l : List S64) : List S57 := l.map actOf
theorem acts_length (l : List S64) : (acts l).length = l.length := by unfold acts; rw [List.length_map]

theorem getD_map_acts (l : List S64) (j : Nat) (h : j < l.length) : (acts l).getD j z57 = actOf (l.getD j z64) := by
  unfold acts; rw [List.getD_eq_getElem?_getD, List.getElem?_map, List.getElem?_eq_getElem h, List.getD_eq_getElem?_getD, List.getElem?_eq_getElem h]; rfl

theorem takeS_at {α : Type} (z : α) (l : List α) (j : Nat) (h : j < l.length) : l.take (j + 1) = l.take j ++ [l.getD j z] := by
  rw [List.take_succ_eq_append_getElem h, List.getD_eq_getElem?_getD, List.getElem?_eq_getElem h]; rfl

theorem dropS_at {α : Type} (z : α) (l : List α) (j : Nat) (h : j < l.length) : l.drop j = l.getD j z :: l.drop (j + 1) := by
  rw [List.drop_eq_getElem_cons h, List.getD_eq_getElem?_getD, List.getElem?_eq_getElem h]; rfl

theorem sz_acts (l : List S64) (h : l.length ≤ 9223372036854775807) : laws_szActS.f l 1048576 = some (if l.length ≤ 1048576 then 1048576 - (l.length : Int) else -1) := by
  unfold laws_szActS.f
  rw [wrap_small (by omega) (by omega)]
  by_cases h1 : l.length ≤ 1048576
  · rw [if_neg (by omega), if_pos h1]
  · rw [if_pos (by omega), if_neg h1]

theorem toActS_loop (l : List S64) (hn : l.length ≤ 140737488351232) (d : Nat) : ∀ (k j : Nat) (x : List S57), x.length = l.length → x.take j = (acts l).take j → j ≤ l.length → l.length - j = d → d < k →
    laws_toActS.l0 k l x j = some (acts l) := by
  induction d with
  | zero =>
    intro k j x hx ht hj hd hk
    obtain ⟨k, rfl⟩ : ∃ m, k = m + 1 := ⟨k - 1, by omega⟩
    simp only [laws_toActS.l0]; rw [if_neg (by omega)]
    rw [List.take_of_length_le (by omega), List.take_of_length_le (by rw [acts_length]; omega)] at ht; rw [ht]
  | succ d ih =>
    intro k j x hx ht hj hd hk
    obtain ⟨k, rfl⟩ : ∃ m, k = m + 1 := ⟨k - 1, by omega⟩
    simp only [laws_toActS.l0, laws_toAct.f, Option.bind_some]; rw [if_pos (by omega), if_pos (by omega), if_pos (by omega), wrap_next (n := l.length) (by omega) hn, rdR_at, Int.toNat_natCast]
    refine ih k (j + 1) _ (by rw [List.length_set]; exact hx) ?_ (by omega) (by omega) (by omega)
    rw [takeS_at z57 (acts l) j (by rw [acts_length]; omega), List.take_succ_eq_append_getElem (by rw [List.length_set]; omega), List.getElem_set_self, List.take_set_of_le (by omega), ht, getD_map_acts l j (by omega)]; rfl

theorem toActS_eq (l : List S64) (hn : l.length ≤ 1048576) (k : Nat) (hk : l.length < k) : laws_toActS.f k l = some (acts l) := by
  unfold laws_toActS.f
  rw [if_pos (by omega), Int.toNat_natCast, if_pos (by omega)]
  exact toActS_loop l (by omega) l.length k 0 _ (by simp) (by simp) (by omega) (by omega) hk

theorem eqActS_loop (a : List S57) (hn : a.length ≤ 140737488351232) (d : Nat) : ∀ (k j : Nat), j ≤ a.length → a.length - j = d → d < k →
    laws_eqActS.l0 k a a j = some true := by
  induction d with
  | zero =>
    intro k j hj hd hk
    obtain ⟨k, rfl⟩ : ∃ m, k = m + 1 := ⟨k - 1, by omega⟩
    simp only [laws_eqActS.l0]; rw [if_neg (by omega)]
  | succ d ih =>
    intro k j hj hd hk
    obtain ⟨k, rfl⟩ : ∃ m, k = m + 1 := ⟨k - 1, by omega⟩
    simp only [laws_eqActS.l0, laws_eqAct.f]; rw [if_pos (by omega), if_pos (by omega), if_pos (by omega), if_pos trivial, if_pos trivial]
    simp only [Option.bind_some, if_true]; rw [wrap_next (n := a.length) (by omega) hn]
    exact ih k (j + 1) (by omega) (by omega) (by omega)

theorem eqActS_self (a : List S57) (hn : a.length ≤ 140737488351232) (k : Nat) (hk : a.length < k) : laws_eqActS.f k a a = some true := by
  unfold laws_eqActS.f
  rw [if_pos rfl]
  exact eqActS_loop a hn a.length k 0 (by omega) (by omega) hk

/-- what is asked of act j, the last proc being q -/
def okAct (l : List S57) (q : Int) (j : Nat) : Bool :=
  decide (0 ≤ (l.getD j z57).f0 ∧ (l.getD j z57).f0 ≤ q ∧ -1 ≤ (l.getD j z57).f1 ∧ (l.getD j z57).f1 ≤ (j : Int) - 1 ∧ (0 ≤ (l.getD j z57).f1 → (l.getD (l.getD j z57).f1.toNat z57).f0 ≠ (l.getD j z57).f0))

/-- .. of d acts from j on -/
def okFrom (l : List S57) (q : Int) (j : Nat) : Nat → Bool
  | 0 => true
  | d + 1 => okAct l q j && okFrom l q (j + 1) d

theorem okFrom_all (l : List S57) (q : Int) (d : Nat) : ∀ j, okFrom l q j d = true ↔ ∀ i, j ≤ i → i < j + d → okAct l q i = true := by
  induction d with
  | zero => intro j; simp only [okFrom, true_iff]; intro i h1 h2; omega
  | succ d ih =>
    intro j
    simp only [okFrom, Bool.and_eq_true, ih]
    constructor
    · rintro ⟨h1, h2⟩ i hi hl
      by_cases e : i = j
      · rw [e]; exact h1
      · exact h2 i (by omega) (by omega)
    · intro h; exact ⟨h j (by omega) (by omega), fun i hi hl => h i (by omega) (by omega)⟩

/-- acts are good -/
def goodB (p : Int) (l : List S57) : Bool := decide (1 ≤ p ∧ p ≤ 6) && decide (l.length ≤ 60) && okFrom l (wrap64 (p - 1)) 0 l.length

theorem in_eq (a b c : Int) : impl_in.f a b c = some (decide (b ≤ a ∧ a ≤ c)) := by
  unfold impl_in.f
  by_cases h : a ≥ b
  · rw [if_pos h]; congr 1; simp only [decide_eq_decide]; omega
  · rw [if_neg h, decide_eq_false (by omega)]
theorem l1In_eq (a b c : Int) : spec_l1In.f a b c = some (decide (b ≤ a ∧ a ≤ c)) := by
  unfold spec_l1In.f
  by_cases h : a ≥ b
  · rw [if_pos h]; congr 1; simp only [decide_eq_decide]; omega
  · rw [if_neg h, decide_eq_false (by omega)]

theorem spec_good_loop (p : Int) (l : List S57) (hn : l.length ≤ 1048576) (d : Nat) : ∀ (k j : Nat), j ≤ l.length → l.length - j = d → d < k →
    spec_GoodActs.l0 k p l l l.length j = some (okFrom l (wrap64 (p - 1)) j d && (decide (1 ≤ p ∧ p ≤ 6) && decide (l.length ≤ 60))) := by
  induction d with
  | zero =>
    intro k j hj hd hk
    obtain ⟨k, rfl⟩ : ∃ m, k = m + 1 := ⟨k - 1, by omega⟩
    simp only [spec_GoodActs.l0]; rw [if_neg (by omega), l1In_eq]; simp only [Option.bind_some, okFrom, Bool.true_and]
    by_cases h : 1 ≤ p ∧ p ≤ 6
    · rw [decide_eq_true h, if_pos rfl]; congr 1; simp only [Bool.true_and, decide_eq_decide]; omega
    · rw [decide_eq_false h, if_neg (by simp)]; rfl
  | succ d ih =>
    intro k j hj hd hk
    obtain ⟨k, rfl⟩ : ∃ m, k = m + 1 := ⟨k - 1, by omega⟩
    simp only [spec_GoodActs.l0]; rw [if_pos (by omega), if_pos (by omega), if_pos (by omega), l1In_eq, l1In_eq, wrap_next (n := l.length) (by omega) (by omega), rdS_at, wrap_small (x := (j : Int) - 1) (by omega) (by omega)]
    simp only [Option.bind_some, okFrom]
    have i1 := ih k (j + 1) (by omega) (by omega) (by omega)
    have hF : spec_GoodActs.l0 k p l l l.length ((j + 1 : Nat) : Int) = some (okFrom l (wrap64 (p - 1)) (j + 1) d && (decide (1 ≤ p ∧ p ≤ 6) && decide (l.length ≤ 60))) := i1
    generalize hx : l.getD j z57 = x at *
    by_cases h1 : 0 ≤ x.f0 ∧ x.f0 ≤ wrap64 (p - 1)
    · rw [decide_eq_true h1, if_pos rfl]
      by_cases h2 : -1 ≤ x.f1 ∧ x.f1 ≤ (j : Int) - 1
      · rw [decide_eq_true h2, if_pos rfl]
        by_cases h3 : x.f1 ≥ 0
        · rw [if_pos h3, if_pos h3, if_pos (by omega)]
          have e : rd_T57 l x.f1 = l.getD x.f1.toNat z57 := rfl
          rw [e]
          by_cases h4 : (l.getD x.f1.toNat z57).f0 = x.f0
          · rw [if_pos h4]
            have : okAct l (wrap64 (p - 1)) j = false := by unfold okAct; rw [hx]; exact decide_eq_false (fun h => h.2.2.2.2 h3 h4)
            rw [this]; rfl
          · rw [if_neg h4, hF]
            have : okAct l (wrap64 (p - 1)) j = true := by unfold okAct; rw [hx]; exact decide_eq_true ⟨h1.1, h1.2, h2.1, h2.2, fun _ => h4⟩
            rw [this]; rfl
        · rw [if_neg h3, hF]
          have : okAct l (wrap64 (p - 1)) j = true := by unfold okAct; rw [hx]; exact decide_eq_true ⟨h1.1, h1.2, h2.1, h2.2, fun h => absurd h h3⟩
          rw [this]; rfl
      · rw [decide_eq_false h2, if_neg (by simp)]
        have : okAct l (wrap64 (p - 1)) j = false := by unfold okAct; rw [hx]; exact decide_eq_false (fun h => h2 ⟨h.2.2.1, h.2.2.2.1⟩)
        rw [this]; rfl
    · rw [decide_eq_false h1, if_neg (by simp)]
      have : okAct l (wrap64 (p - 1)) j = false := by unfold okAct; rw [hx]; exact decide_eq_false (fun h => h1 ⟨h.1, h.2.1⟩)
      rw [this]; rfl

theorem spec_good (p : Int) (l : List S57) (hn : l.length ≤ 1048576) (k : Nat) (hk : l.length < k) : spec_GoodActs.f k p l = some (goodB p l) := by
  unfold spec_GoodActs.f goodB
  rw [show (0 : Int) = ((0 : Nat) : Int) from rfl, spec_good_loop p l hn l.length k 0 (by omega) (by omega) hk, Bool.and_comm]

theorem impl_good_loop (p : Int) (l : List S57) (hn : l.length ≤ 1048576) (d : Nat) : ∀ (k j : Nat), j ≤ l.length → l.length - j = d → d < k →
    impl_GoodActs.l0 k p l l l.length j = some (okFrom l (wrap64 (p - 1)) j d) := by
  induction d with
  | zero =>
    intro k j hj hd hk
    obtain ⟨k, rfl⟩ : ∃ m, k = m + 1 := ⟨k - 1, by omega⟩
    simp only [impl_GoodActs.l0]; rw [if_neg (by omega)]; rfl
  | succ d ih =>
    intro k j hj hd hk
    obtain ⟨k, rfl⟩ : ∃ m, k = m + 1 := ⟨k - 1, by omega⟩
    simp only [impl_GoodActs.l0]; rw [if_pos (by omega), if_pos (by omega), if_pos (by omega), in_eq, in_eq, wrap_next (n := l.length) (by omega) (by omega), rdS_at, wrap_small (x := (j : Int) - 1) (by omega) (by omega)]
    simp only [Option.bind_some, okFrom]
    have hF : impl_GoodActs.l0 k p l l l.length ((j + 1 : Nat) : Int) = some (okFrom l (wrap64 (p - 1)) (j + 1) d) := ih k (j + 1) (by omega) (by omega) (by omega)
    generalize hx : l.getD j z57 = x at *
    by_cases h1 : 0 ≤ x.f0 ∧ x.f0 ≤ wrap64 (p - 1)
    · rw [decide_eq_true h1, if_pos rfl]
      by_cases h2 : -1 ≤ x.f1 ∧ x.f1 ≤ (j : Int) - 1
      · rw [decide_eq_true h2, if_pos rfl]
        by_cases h3 : x.f1 = -1
        · rw [if_pos h3, hF]
          have : okAct l (wrap64 (p - 1)) j = true := by unfold okAct; rw [hx]; exact decide_eq_true ⟨h1.1, h1.2, h2.1, h2.2, fun h => absurd h (by omega)⟩
          rw [this]; rfl
        · rw [if_neg h3, if_pos (by omega), if_pos (by omega)]
          have e : rd_T57 l x.f1 = l.getD x.f1.toNat z57 := rfl
          rw [e]
          by_cases h4 : (l.getD x.f1.toNat z57).f0 = x.f0
          · rw [if_pos h4]
            have : okAct l (wrap64 (p - 1)) j = false := by unfold okAct; rw [hx]; exact decide_eq_false (fun h => h.2.2.2.2 (by omega) h4)
            rw [this]; rfl
          · rw [if_neg h4, hF]
            have : okAct l (wrap64 (p - 1)) j = true := by unfold okAct; rw [hx]; exact decide_eq_true ⟨h1.1, h1.2, h2.1, h2.2, fun _ => h4⟩
            rw [this]; rfl
      · rw [decide_eq_false h2, if_neg (by simp)]
        have : okAct l (wrap64 (p - 1)) j = false := by unfold okAct; rw [hx]; exact decide_eq_false (fun h => h2 ⟨h.2.2.1, h.2.2.2.1⟩)
        rw [this]; rfl
    · rw [decide_eq_false h1, if_neg (by simp)]
      have : okAct l (wrap64 (p - 1)) j = false := by unfold okAct; rw [hx]; exact decide_eq_false (fun h => h1 ⟨h.1, h.2.1⟩)
      rw [this]; rfl

theorem impl_good (p : Int) (l : List S57) (hn : l.length ≤ 1048576) (k : Nat) (hk : l.length + 1 < k) : impl_GoodActs.f k p l = some (goodB p l) := by
  obtain ⟨k, rfl⟩ : ∃ m, k = m + 1 := ⟨k - 1, by omega⟩
  unfold impl_GoodActs.f goodB
  rw [in_eq]; simp only [Option.bind_some]
  by_cases h : 1 ≤ p ∧ p ≤ 6
  · rw [decide_eq_true h, if_pos rfl]
    simp only [impl_GoodActs.j0]
    by_cases h6 : l.length ≤ 60
    · rw [if_neg (by simp; omega), decide_eq_true h6, show (0 : Int) = ((0 : Nat) : Int) from rfl, impl_good_loop p l hn l.length k 0 (by omega) (by omega) (by omega)]; rfl
    · rw [if_pos (by simp; omega), decide_eq_false h6]; rfl
  · rw [decide_eq_false h, if_neg (by simp)]
    simp [impl_GoodActs.j0]

/-- the proc and the from of an act -/
def pr (l : List S57) (i : Nat) : Int := (l.getD i z57).f0
def fm (l : List S57) (i : Nat) : Int := (l.getD i z57).f1

/-- k is told to be ahead of i at once -/
def Next (l : List S57) (i k : Nat) : Prop := k < i ∧ (pr l k = pr l i ∨ (k : Int) = fm l i)
def AhN (l : List S57) : Nat → Nat → Nat → Prop
  | 0, _, _ => False
  | n + 1, i, j => ∃ k, Next l i k ∧ (j = k ∨ AhN l n k j)
/-- j is ahead of i -/
def Ahead (l : List S57) (i j : Nat) : Prop := ∃ n, AhN l n i j

theorem ahead_iff (l : List S57) (i j : Nat) : Ahead l i j ↔ ∃ k, Next l i k ∧ (j = k ∨ Ahead l k j) := by
  constructor
  · rintro ⟨n, h⟩
    cases n with
    | zero => exact h.elim
    | succ n =>
      obtain ⟨k, hk, h | h⟩ := h
      · exact ⟨k, hk, .inl h⟩
      · exact ⟨k, hk, .inr ⟨n, h⟩⟩
  · rintro ⟨k, hk, h | ⟨n, h⟩⟩
    · exact ⟨1, k, hk, .inl h⟩
    · exact ⟨n + 1, k, hk, .inr h⟩

theorem ahead_lt {l : List S57} : ∀ (i j : Nat), Ahead l i j → j < i := by
  intro i
  induction i using Nat.strongRecOn with
  | ind i ih =>
    intro j h
    obtain ⟨k, hk, h | h⟩ := (ahead_iff l i j).1 h
    · rw [h]; exact hk.1
    · have := ih k hk.1 j h; have := hk.1; omega

theorem ahead_trans {l : List S57} : ∀ (i k j : Nat), Ahead l i k → Ahead l k j → Ahead l i j := by
  intro i
  induction i using Nat.strongRecOn with
  | ind i ih =>
    intro k j h1 h2
    obtain ⟨m, hm, h | h⟩ := (ahead_iff l i k).1 h1
    · subst h; exact (ahead_iff l i j).2 ⟨k, hm, .inr h2⟩
    · exact (ahead_iff l i j).2 ⟨m, hm, .inr (ih m hm.1 k j h h2)⟩

theorem ahead_next {l : List S57} {i k : Nat} (h : Next l i k) : Ahead l i k := (ahead_iff l i k).2 ⟨k, h, .inl rfl⟩

theorem rdOf_at {α : Type} (d : α) (xs : List α) (j : Nat) : rdOf d xs (j : Int) = xs.getD j d := by unfold rdOf; rw [Int.toNat_natCast]
theorem rdL4_at (xs : List (List Bool)) (j : Nat) : rd_L4 xs (j : Int) = xs.getD j [] := by unfold rd_L4; rw [Int.toNat_natCast]

theorem getD_set {α : Type} (d : α) (x : List α) (i j : Nat) (v : α) (h : i < x.length) : (x.set i v).getD j d = if j = i then v else x.getD j d := by
  rw [List.getD_eq_getElem?_getD, List.getElem?_set]
  by_cases e : i = j
  · subst e; rw [if_pos rfl, if_pos h, if_pos rfl]; rfl
  · rw [if_neg e, if_neg (fun h => e h.symm), List.getD_eq_getElem?_getD]

theorem getD_snoc {α : Type} (d : α) (x : List α) (v : α) (j : Nat) : (x ++ [v]).getD j d = if j = x.length then v else x.getD j d := by
  rw [List.getD_eq_getElem?_getD, List.getD_eq_getElem?_getD]
  by_cases e : j = x.length
  · subst e; rw [if_pos rfl]; simp
  · rw [if_neg e]
    rcases Nat.lt_or_ge j x.length with h | h
    · rw [List.getElem?_append_left h]
    · rw [List.getElem?_eq_none (by simp; omega), List.getElem?_eq_none h]

section
variable (l : List S57) (hn : l.length ≤ 1000) (out : List (List Bool)) (i : Nat) (hi : i < l.length) (ho : out.length = i) (hrow : ∀ k, k < i → (out.getD k []).length = l.length) (r : List (List Bool))
include hn hi ho hrow
/-- the inner loop: what is ahead of k comes to x -/
theorem ahead_l2 (k : Nat) (hk : k < i) (d : Nat) : ∀ (j : Nat) (x : List Bool), j ≤ k → k - j = d → x.length = l.length →
    (∀ y : List Bool, y.length = l.length → (∀ m, y.getD m false = if j ≤ m ∧ m < k then (x.getD m false || (out.getD k []).getD m false) else x.getD m false) → Ev (fun q => spec_l2Ahead.l1 q l out i y ((k + 1 : Nat) : Int) l l.length i (pr l i) (fm l i)) r) →
    Ev (fun q => spec_l2Ahead.l2 q l out i x k j l l.length i (pr l i) (fm l i)) r := by
  induction d with
  | zero =>
    intro j x hj hd hx hc
    refine Ev.step (f := fun q => spec_l2Ahead.l1 q l out i x ((k + 1 : Nat) : Int) l l.length i (pr l i) (fm l i)) (fun q => ?_) (hc x hx (fun m => by rw [if_neg (by omega)]))
    simp only [spec_l2Ahead.l2]; rw [if_neg (by omega), wrap_next (n := l.length) (by omega) (by omega)]
  | succ d ih =>
    intro j x hj hd hx hc
    have hrk := hrow k hk
    have key : ∀ v : Bool, v = (x.getD j false || (out.getD k []).getD j false) → Ev (fun q => spec_l2Ahead.l2 q l out i (x.set j v) k ((j + 1 : Nat) : Int) l l.length i (pr l i) (fm l i)) r := by
      intro v hv
      refine ih (j + 1) (x.set j v) (by omega) (by omega) (by rw [List.length_set]; exact hx) (fun y hy hm => hc y hy (fun m => ?_))
      rw [hm m, getD_set false x j m v (by omega)]
      by_cases e : m = j
      · subst e; rw [if_neg (by omega), if_pos rfl, if_pos (by omega), hv]
      · rw [if_neg e]
        by_cases h2 : j + 1 ≤ m ∧ m < k
        · rw [if_pos h2, if_pos (by omega)]
        · rw [if_neg h2, if_neg (by omega)]
    cases hb : x.getD j false with
    | true =>
      refine Ev.step (f := fun q => spec_l2Ahead.l2 q l out i (x.set j true) k ((j + 1 : Nat) : Int) l l.length i (pr l i) (fm l i)) (fun q => ?_) (key true (by rw [hb]; rfl))
      simp only [spec_l2Ahead.l2]; rw [if_pos (by omega), if_pos (by omega), if_pos (by omega), rdOf_at, hb, if_pos rfl, wrap_next (n := l.length) (by omega) (by omega), Int.toNat_natCast]
    | false =>
      refine Ev.step (f := fun q => spec_l2Ahead.l2 q l out i (x.set j ((out.getD k []).getD j false)) k ((j + 1 : Nat) : Int) l l.length i (pr l i) (fm l i)) (fun q => ?_) (key _ (by rw [hb]; rfl))
      simp only [spec_l2Ahead.l2]; rw [if_pos (by omega), if_pos (by omega), if_pos (by omega), rdOf_at, hb, if_neg (by decide), if_pos (by omega), if_pos (by omega), rdL4_at, if_pos (by omega), rdOf_at, wrap_next (n := l.length) (by omega) (by omega), Int.toNat_natCast]

/-- the loop over what may be ahead of i -/
theorem ahead_l1 (hrows : ∀ k, k < i → ∀ j, (out.getD k []).getD j false = true ↔ Ahead l k j) (d : Nat) : ∀ (k : Nat) (x : List Bool), k ≤ i → i - k = d → x.length = l.length →
    (∀ m, x.getD m false = true ↔ ∃ k', k' < k ∧ Next l i k' ∧ (m = k' ∨ Ahead l k' m)) →
    (∀ y : List Bool, y.length = l.length → (∀ m, y.getD m false = true ↔ Ahead l i m) → Ev (fun q => spec_l2Ahead.l0 q l (out ++ [y]) l l.length ((i + 1 : Nat) : Int)) r) →
    Ev (fun q => spec_l2Ahead.l1 q l out i x k l l.length i (pr l i) (fm l i)) r := by
  induction d with
  | zero =>
    intro k x hk hd hx hm hc
    obtain rfl : k = i := by omega
    refine Ev.step (f := fun q => spec_l2Ahead.l0 q l (out ++ [x]) l l.length ((k + 1 : Nat) : Int)) (fun q => ?_) (hc x hx (fun m => ?_))
    · simp only [spec_l2Ahead.l1]; rw [if_neg (by omega), if_pos (by omega), wrap_next (n := l.length) (by omega) (by omega)]
    · rw [hm m, ahead_iff]
      constructor
      · rintro ⟨k', _, h⟩; exact ⟨k', h⟩
      · rintro ⟨k', h⟩; exact ⟨k', h.1.1, h⟩
  | succ d ih =>
    intro k x hk hd hx hm hc
    have hki : k < i := by omega
    have grow : ∀ y : List Bool, y.length = l.length → (∀ m, y.getD m false = true ↔ (x.getD m false = true ∨ (Next l i k ∧ (m = k ∨ Ahead l k m)))) → Ev (fun q => spec_l2Ahead.l1 q l out i y ((k + 1 : Nat) : Int) l l.length i (pr l i) (fm l i)) r := by
      intro y hy hym
      refine ih (k + 1) y (by omega) (by omega) hy (fun m => ?_) hc
      rw [hym m, hm m]
      constructor
      · rintro (⟨k', h1, h2⟩ | h)
        · exact ⟨k', by omega, h2⟩
        · exact ⟨k, by omega, h⟩
      · rintro ⟨k', h1, h2⟩
        by_cases e : k' = k
        · subst e; exact .inr h2
        · exact .inl ⟨k', by omega, h2⟩
    have jump : ∀ b : Bool, (b = true ↔ ¬ Next l i k) → Ev (fun q => spec_l2Ahead.j2 q l out i x k l l.length i b (pr l i) (fm l i)) r := by
      intro b hb
      cases b with
      | true =>
        refine Ev.step (f := fun q => spec_l2Ahead.l1 q l out i x ((k + 1 : Nat) : Int) l l.length i (pr l i) (fm l i)) (fun q => ?_) (grow x hx (fun m => ?_))
        · simp only [spec_l2Ahead.j2, if_true]; rw [wrap_next (n := l.length) (by omega) (by omega)]
        · constructor
          · exact .inl
          · rintro (h | h)
            · exact h
            · exact absurd h.1 (hb.1 rfl)
      | false =>
        have hnx : Next l i k := Classical.byContradiction (fun h => by have := hb.2 h; cases this)
        refine Ev.step (f := fun q => spec_l2Ahead.l2 q l out i (x.set k true) k ((0 : Nat) : Int) l l.length i (pr l i) (fm l i)) (fun q => ?_) ?_
        · simp only [spec_l2Ahead.j2, Bool.false_eq_true, if_false]; rw [if_pos (by omega), if_pos (by omega), Int.toNat_natCast]; rfl
        · refine ahead_l2 l hn out i hi ho hrow r k hki k 0 (x.set k true) (by omega) (by omega) (by rw [List.length_set]; exact hx) (fun y hy hym => grow y hy (fun m => ?_))
          rw [hym m, getD_set false x k m true (by omega)]
          by_cases e : m = k
          · subst e; rw [if_neg (by omega), if_pos rfl]; simp [hnx]
          · rw [if_neg e]
            by_cases h2 : 0 ≤ m ∧ m < k
            · rw [if_pos h2, Bool.or_eq_true, hrows k hki m]; simp [hnx, e]
            · rw [if_neg h2]
              constructor
              · exact .inl
              · rintro (h | ⟨_, h | h⟩)
                · exact h
                · exact absurd h e
                · have := ahead_lt k m h; omega
    by_cases hp : pr l k = pr l i
    · refine Ev.step (f := fun q => spec_l2Ahead.j2 q l out i x k l l.length i false (pr l i) (fm l i)) (fun q => ?_) (jump false (Iff.intro (fun h => Bool.noConfusion h) (fun h => absurd (show Next l i k from ⟨hki, .inl hp⟩) h)))
      simp only [spec_l2Ahead.l1]; rw [if_pos (by omega), if_pos (by omega), if_pos (by omega), rdS_at, if_pos (show (l.getD k z57).f0 = pr l i from hp)]
    · refine Ev.step (f := fun q => spec_l2Ahead.j2 q l out i x k l l.length i ((k : Int) != fm l i) (pr l i) (fm l i)) (fun q => ?_) (jump _ ?_)
      · simp only [spec_l2Ahead.l1]; rw [if_pos (by omega), if_pos (by omega), if_pos (by omega), rdS_at, if_neg (show ¬ (l.getD k z57).f0 = pr l i from hp)]
      · rw [bne_iff_ne]
        constructor
        · rintro h1 ⟨_, h2 | h2⟩
          · exact hp h2
          · exact h1 h2
        · intro h1 h2; exact h1 ⟨hki, .inr h2⟩
end

theorem ahead_l0 (l : List S57) (hn : l.length ≤ 1000) (d : Nat) : ∀ (i : Nat) (out : List (List Bool)), i ≤ l.length → l.length - i = d → out.length = i → (∀ k, k < i → (out.getD k []).length = l.length) →
    (∀ k, k < i → ∀ j, (out.getD k []).getD j false = true ↔ Ahead l k j) →
    ∃ r : List (List Bool), Ev (fun q => spec_l2Ahead.l0 q l out l l.length i) r ∧ r.length = l.length ∧ (∀ k, k < l.length → (r.getD k []).length = l.length) ∧ ∀ k, k < l.length → ∀ j, (r.getD k []).getD j false = true ↔ Ahead l k j := by
  induction d with
  | zero =>
    intro i out hi hd ho hrow hrows
    obtain rfl : i = l.length := by omega
    refine ⟨out, Ev.step (f := fun _ => some out) (fun q => ?_) (Ev.now _), ho, hrow, hrows⟩
    simp only [spec_l2Ahead.l0]; rw [if_neg (by omega)]
  | succ d ih =>
    intro i out hi hd ho hrow hrows
    have next : ∀ y : List Bool, y.length = l.length → (∀ m, y.getD m false = true ↔ Ahead l i m) → ∃ r : List (List Bool), Ev (fun q => spec_l2Ahead.l0 q l (out ++ [y]) l l.length ((i + 1 : Nat) : Int)) r ∧ r.length = l.length ∧ (∀ k, k < l.length → (r.getD k []).length = l.length) ∧ ∀ k, k < l.length → ∀ j, (r.getD k []).getD j false = true ↔ Ahead l k j := by
      intro y hy hym
      refine ih (i + 1) (out ++ [y]) (by omega) (by omega) (by simp [ho]) (fun k hk => ?_) (fun k hk j => ?_)
      · rw [getD_snoc]; split
        · exact hy
        · exact hrow k (by omega)
      · rw [getD_snoc]; split
        · rw [show k = i by omega]; exact hym j
        · exact hrows k (by omega) j
    obtain ⟨y, hy, hym⟩ : ∃ y : List Bool, y.length = l.length ∧ ∀ m, y.getD m false = true ↔ Ahead l i m := by
      classical
      refine ⟨(List.range l.length).map (fun m => decide (Ahead l i m)), by simp, fun m => ?_⟩
      rw [List.getD_eq_getElem?_getD, List.getElem?_map]
      rcases Nat.lt_or_ge m l.length with h | h
      · rw [List.getElem?_range h]; simp
      · rw [List.getElem?_eq_none (by simpa using h)]
        simp only [Option.map_none, Option.getD_none, Bool.false_eq_true, false_iff]
        intro h2; have := ahead_lt i m h2; omega
    obtain ⟨r, hr, hr1, hr2, hr3⟩ := next y hy hym
    refine ⟨r, ?_, hr1, hr2, hr3⟩
    refine Ev.step (f := fun q => spec_l2Ahead.l1 q l out i (List.replicate l.length false) ((0 : Nat) : Int) l l.length i (pr l i) (fm l i)) (fun q => ?_) ?_
    · simp only [spec_l2Ahead.l0]; rw [if_pos (by omega), if_pos (by omega), if_pos (by omega), if_pos (by omega), Int.toNat_natCast, if_pos (by omega), rdS_at]; rfl
    · refine ahead_l1 l hn out i (by omega) ho hrow r hrows i 0 _ (by omega) (by omega) (by simp) (fun m => ?_) (fun z hz hzm => ?_)
      · constructor
        · intro h
          rw [List.getD_eq_getElem?_getD, List.getElem?_replicate] at h
          split at h <;> simp at h
        · rintro ⟨k', h, _⟩; omega
      · have : z = y := by
          apply List.ext_getElem?
          intro m
          rcases Nat.lt_or_ge m l.length with h | h
          · have e1 : z.getD m false = y.getD m false := by
              have := (hzm m).trans (hym m).symm
              cases h1 : z.getD m false <;> cases h2 : y.getD m false <;> simp_all
            rw [List.getD_eq_getElem?_getD, List.getD_eq_getElem?_getD, List.getElem?_eq_getElem (by omega), List.getElem?_eq_getElem (by omega)] at e1
            rw [List.getElem?_eq_getElem (by omega), List.getElem?_eq_getElem (by omega)]
            exact congrArg some e1
          · rw [List.getElem?_eq_none (by omega), List.getElem?_eq_none (by omega)]
        rw [this]; exact hr

/-- WHAT spec.l2Ahead TELLS. -/
theorem ahead_rows (l : List S57) (hn : l.length ≤ 1000) : ∃ r : List (List Bool), Ev (fun q => spec_l2Ahead.f q l) r ∧ r.length = l.length ∧ (∀ k, k < l.length → (r.getD k []).length = l.length) ∧ ∀ k, k < l.length → ∀ j, (r.getD k []).getD j false = true ↔ Ahead l k j := by
  obtain ⟨r, h⟩ := ahead_l0 l hn l.length 0 [] (by omega) (by omega) rfl (fun k hk => by omega) (fun k hk => by omega)
  exact ⟨r, h⟩

/-- good acts, in words -/
structure Good (p : Int) (l : List S57) : Prop where
  p1 : 1 ≤ p
  p6 : p ≤ 6
  len : l.length ≤ 60
  proc : ∀ i, i < l.length → 0 ≤ pr l i ∧ pr l i ≤ p - 1
  frm : ∀ i, i < l.length → -1 ≤ fm l i ∧ fm l i ≤ (i : Int) - 1
  other : ∀ i, i < l.length → 0 ≤ fm l i → pr l (fm l i).toNat ≠ pr l i

theorem good_of (p : Int) (l : List S57) (h : goodB p l = true) : Good p l := by
  unfold goodB at h
  simp only [Bool.and_eq_true, decide_eq_true_eq] at h
  obtain ⟨⟨h1, h2⟩, h3⟩ := h
  rw [wrap_small (by omega) (by omega), okFrom_all] at h3
  have h4 : ∀ i, i < l.length → okAct l (p - 1) i = true := fun i hi => h3 i (by omega) (by omega)
  simp only [okAct, decide_eq_true_eq] at h4
  exact ⟨h1.1, h1.2, h2, fun i hi => ⟨(h4 i hi).1, (h4 i hi).2.1⟩, fun i hi => ⟨(h4 i hi).2.2.1, (h4 i hi).2.2.2.1⟩, fun i hi hf => (h4 i hi).2.2.2.2 hf⟩

/-- m is the last act of q ahead of place i -/
def LastOf (l : List S57) (i : Nat) (q : Int) (m : Nat) : Prop := m < i ∧ pr l m = q ∧ ∀ k, m < k → k < i → pr l k ≠ q
def NoneOf (l : List S57) (i : Nat) (q : Int) : Prop := ∀ k, k < i → pr l k ≠ q

theorem next_from {p : Int} {l : List S57} (g : Good p l) {i : Nat} (hi : i < l.length) (hf : fm l i ≠ -1) : Next l i (fm l i).toNat ∧ ((fm l i).toNat : Int) = fm l i := by
  have := g.frm i hi
  exact ⟨⟨by omega, .inr (by omega)⟩, by omega⟩

/-- the numbers of all acts: each one more than the greatest of those ahead of it, at least 1 -/
structure Lam (l : List S57) (n : Nat) (x : List Int) : Prop where
  len : x.length = n
  one : ∀ i, i < n → 1 ≤ x.getD i 0 ∧ x.getD i 0 ≤ (i : Int) + 1
  more : ∀ i, i < n → ∀ k, Ahead l i k → x.getD k 0 < x.getD i 0
  tight : ∀ i, i < n → x.getD i 0 = 1 ∨ ∃ k, Ahead l i k ∧ x.getD i 0 = x.getD k 0 + 1

theorem mx_eq (a b : Int) : mx a b = max a b := by unfold mx; rw [Int.max_def]; split <;> omega

/-- The next number. w: the greatest of the last of the same and of the one that a message comes from, 0 without any. -/
theorem lam_snoc {p : Int} {l : List S57} (g : Good p l) {i : Nat} (hi : i < l.length) {x : List Int} (h : Lam l i x) (w : Int) (h0 : 0 ≤ w)
    (hs : ∀ m, LastOf l i (pr l i) m → x.getD m 0 ≤ w) (hf : fm l i ≠ -1 → x.getD (fm l i).toNat 0 ≤ w)
    (hw : w = 0 ∨ (∃ m, LastOf l i (pr l i) m ∧ w = x.getD m 0) ∨ (fm l i ≠ -1 ∧ w = x.getD (fm l i).toNat 0)) : Lam l (i + 1) (x ++ [w + 1]) := by
  have hl := h.len
  have at_i : (x ++ [w + 1]).getD i 0 = w + 1 := by rw [getD_snoc, if_pos hl.symm]
  have at_k : ∀ k, k < i → (x ++ [w + 1]).getD k 0 = x.getD k 0 := fun k hk => by rw [getD_snoc, if_neg (by omega)]
  have wi : w ≤ i := by
    rcases hw with hw | ⟨m, hm, hw⟩ | ⟨hf1, hw⟩
    · omega
    · have := h.one m hm.1; have := hm.1; omega
    · have := (next_from g hi hf1); have h2 := h.one _ this.1.1; have := this.1.1; omega
  -- what is told at once is at most w
  have nx : ∀ k, Next l i k → x.getD k 0 ≤ w := by
    intro k hk
    rcases hk.2 with hp | hp
    · -- the last of the same
      have : ∃ m, LastOf l i (pr l i) m ∧ k ≤ m := by
        have aux : ∀ d k, i - k = d → k < i → pr l k = pr l i → ∃ m, LastOf l i (pr l i) m ∧ k ≤ m := by
          intro d
          induction d using Nat.strongRecOn with
          | ind d ih =>
            intro k hd hk hp
            by_cases e : ∃ k', k < k' ∧ k' < i ∧ pr l k' = pr l i
            · obtain ⟨k', h1, h2, h3⟩ := e
              obtain ⟨m, hm, hle⟩ := ih (i - k') (by omega) k' rfl h2 h3
              exact ⟨m, hm, by omega⟩
            · exact ⟨k, ⟨hk, hp, fun k' h1 h2 h3 => e ⟨k', h1, h2, h3⟩⟩, Nat.le_refl _⟩
        exact aux (i - k) k rfl hk.1 hp
      obtain ⟨m, hm, hle⟩ := this
      by_cases e : k = m
      · subst e; exact hs k hm
      · have h1 := h.more m hm.1 k (ahead_next ⟨by omega, .inl (hp.trans hm.2.1.symm)⟩)
        have h2 := hs m hm
        omega
    · have hne : fm l i ≠ -1 := by omega
      have : (fm l i).toNat = k := by omega
      rw [← this]; exact hf hne
  refine ⟨by simp [hl], fun j hj => ?_, fun j hj k hk => ?_, fun j hj => ?_⟩
  · by_cases e : j = i
    · subst e; rw [at_i]; omega
    · rw [at_k j (by omega)]; exact h.one j (by omega)
  · have hlt := ahead_lt j k hk
    by_cases e : j = i
    · subst e
      rw [at_i, at_k k hlt]
      obtain ⟨m, hm, hk2 | hk2⟩ := (ahead_iff l j k).1 hk
      · subst hk2; have := nx k hm; omega
      · have h1 := h.more m hm.1 k hk2; have := nx m hm; omega
    · rw [at_k j (by omega), at_k k (by omega)]; exact h.more j (by omega) k hk
  · by_cases e : j = i
    · subst e
      rw [at_i]
      rcases hw with hw | ⟨m, hm, hw⟩ | ⟨hf1, hw⟩
      · left; omega
      · right; exact ⟨m, ahead_next ⟨hm.1, .inl hm.2.1⟩, by rw [at_k m hm.1, hw]⟩
      · right
        have := (next_from g hi hf1)
        exact ⟨_, ahead_next this.1, by rw [at_k _ this.1.1, hw]⟩
    · rw [at_k j (by omega)]
      rcases h.tight j (by omega) with h1 | ⟨k, hk, h1⟩
      · exact .inl h1
      · exact .inr ⟨k, hk, by rw [at_k k (by have := ahead_lt j k hk; omega)]; exact h1⟩

theorem impl_lam_loop {p : Int} {l : List S57} (g : Good p l) (d : Nat) : ∀ (i : Nat) (x y : List Int), i ≤ l.length → l.length - i = d → Lam l i x → y.length = p.toNat →
    (∀ q : Nat, q < y.length → (NoneOf l i q ∧ y.getD q 0 = 0) ∨ ∃ m, LastOf l i q m ∧ y.getD q 0 = x.getD m 0) →
    ∃ N, Lam l l.length N ∧ Ev (fun k => impl_LamportOf.l0 k x y l l.length i) (N, true) := by
  induction d with
  | zero =>
    intro i x y hi hd h hy hyq
    obtain rfl : i = l.length := by omega
    refine ⟨x, h, Ev.step (f := fun _ => some (x, true)) (fun q => ?_) (Ev.now _)⟩
    simp only [impl_LamportOf.l0]; rw [if_neg (by omega)]
  | succ d ih =>
    intro i x y hi hd h hy hyq
    have hil : i < l.length := by omega
    have gp := g.proc i hil
    have gf := g.frm i hil
    have hlen := g.len
    have hp6 := g.p6
    have hxl := h.len
    have hqy : (pr l i).toNat < y.length := by omega
    have epr : ((pr l i).toNat : Int) = pr l i := by omega
    have yv := hyq (pr l i).toNat hqy
    rw [epr] at yv
    have hx : ∀ m, m < i → 1 ≤ x.getD m 0 ∧ x.getD m 0 ≤ (m : Int) + 1 := h.one
    have y0 : 0 ≤ y.getD (pr l i).toNat 0 ∧ y.getD (pr l i).toNat 0 ≤ i := by
      rcases yv with ⟨_, e⟩ | ⟨m, hm, e⟩
      · omega
      · have := hx m hm.1; have := hm.1; omega
    have YV := Aside0.mk yv
    clear yv
    have step : ∀ w : Int, 0 ≤ w → w ≤ i → Lam l (i + 1) (x ++ [w + 1]) → ∃ N, Lam l l.length N ∧ Ev (fun k => impl_LamportOf.l0 k (x ++ [w + 1]) (y.set (pr l i).toNat (w + 1)) l l.length ((i + 1 : Nat) : Int)) (N, true) := by
      intro w w0 w1 hL
      refine ih (i + 1) _ _ (by omega) (by omega) hL (by rw [List.length_set]; exact hy) (fun q hq => ?_)
      rw [List.length_set] at hq
      rw [getD_set 0 y _ q _ hqy]
      by_cases e : q = (pr l i).toNat
      · right
        refine ⟨i, ⟨by omega, by rw [e, epr], fun k h1 h2 => by omega⟩, ?_⟩
        rw [if_pos e, getD_snoc, if_pos hxl.symm]
      · rw [if_neg e]
        have hne : pr l i ≠ (q : Int) := by omega
        rcases hyq q hq with ⟨h1, h2⟩ | ⟨m, hm, h2⟩
        · left
          refine ⟨fun k hk => ?_, h2⟩
          by_cases e2 : k = i
          · rw [e2]; exact hne
          · exact h1 k (by omega)
        · right
          refine ⟨m, ⟨by have := hm.1; omega, hm.2.1, fun k h3 h4 => ?_⟩, ?_⟩
          · by_cases e2 : k = i
            · rw [e2]; exact hne
            · exact hm.2.2 k h3 (by omega)
          · rw [h2, getD_snoc, if_neg (by have := hm.1; omega)]
    have hsame : ∀ w, y.getD (pr l i).toNat 0 ≤ w → ∀ m, LastOf l i (pr l i) m → x.getD m 0 ≤ w := by
      intro w hw m hm
      rcases YV.out with ⟨h1, _⟩ | ⟨m', hm', e⟩
      · exact absurd hm.2.1 (h1 m hm.1)
      · have : m = m' := by
          rcases Nat.lt_trichotomy m m' with h3 | h3 | h3
          · exact absurd hm'.2.1 (hm.2.2 m' h3 hm'.1)
          · exact h3
          · exact absurd hm.2.1 (hm'.2.2 m h3 hm.1)
        rw [this, ← e]; exact hw
    have YW := Aside0.mk (show y.getD (pr l i).toNat 0 = 0 ∨ (∃ m, LastOf l i (pr l i) m ∧ y.getD (pr l i).toNat 0 = x.getD m 0) by
      rcases YV.out with ⟨_, e⟩ | h1
      · exact .inl e
      · exact .inr h1)
    by_cases hf : fm l i = -1
    · have hL := lam_snoc g hil h (y.getD (pr l i).toNat 0) y0.1 (hsame _ (Int.le_refl _)) (fun h1 => absurd hf h1) (by rcases YW.out with e | e; exact .inl e; exact .inr (.inl e))
      obtain ⟨N, hN, hev⟩ := step _ y0.1 y0.2 hL
      refine ⟨N, hN, Ev.step (fun q => ?_) hev⟩
      simp only [impl_LamportOf.l0]; rw [if_pos (by omega), if_pos (by omega), if_pos (by omega), rdS_at]
      have e1 : (l.getD i z57).f0 = pr l i := rfl
      have e2 : (l.getD i z57).f1 = fm l i := rfl
      rw [e1, e2, if_pos gp.1, if_pos (by omega), if_pos hf, if_pos (by omega), show rd y (pr l i) = y.getD (pr l i).toNat 0 from rfl, wrap_small (x := y.getD (pr l i).toNat 0 + 1) (by omega) (by omega), wrap_next (n := l.length) (by omega) (by omega)]
    · have hnx := next_from g hil hf
      have hxf := hx _ hnx.1.1
      have hlt := hnx.1.1
      have hL := lam_snoc g hil h (mx (y.getD (pr l i).toNat 0) (x.getD (fm l i).toNat 0)) (by rw [mx_eq]; omega) (hsame _ (by rw [mx_eq]; omega)) (fun _ => by rw [mx_eq]; omega) (by
        rw [mx_eq]
        rcases Int.le_total (y.getD (pr l i).toNat 0) (x.getD (fm l i).toNat 0) with e | e
        · exact .inr (.inr ⟨hf, by omega⟩)
        · rcases YW.out with e2 | ⟨m, hm, e2⟩
          · left; omega
          · exact .inr (.inl ⟨m, hm, by omega⟩))
      obtain ⟨N, hN, hev⟩ := step _ (by rw [mx_eq]; omega) (by rw [mx_eq]; omega) hL
      refine ⟨N, hN, Ev.step (fun q => ?_) hev⟩
      simp only [impl_LamportOf.l0]; rw [if_pos (by omega), if_pos (by omega), if_pos (by omega), rdS_at]
      have e1 : (l.getD i z57).f0 = pr l i := rfl
      have e2 : (l.getD i z57).f1 = fm l i := rfl
      have b1 : mx (y.getD (pr l i).toNat 0) (x.getD (fm l i).toNat 0) ≤ 1000 ∧ 0 ≤ mx (y.getD (pr l i).toNat 0) (x.getD (fm l i).toNat 0) := by rw [mx_eq]; omega
      rw [e1, e2, if_pos gp.1, if_pos (by omega), if_neg hf, if_pos (by omega), if_pos (by omega), if_pos (by omega), show rd y (pr l i) = y.getD (pr l i).toNat 0 from rfl, show rd x (fm l i) = x.getD (fm l i).toNat 0 from rfl, wrap_small (x := mx (y.getD (pr l i).toNat 0) (x.getD (fm l i).toNat 0) + 1) (by omega) (by omega), wrap_next (n := l.length) (by omega) (by omega)]

/-- the reference's inner loop comes to the number that the list has -/
theorem spec_lam_inner {l : List S57} (hn : l.length ≤ 60) (rows : List (List Bool)) (hrl : rows.length = l.length) (hrow : ∀ k, k < l.length → (rows.getD k []).length = l.length) (hrows : ∀ k, k < l.length → ∀ j, (rows.getD k []).getD j false = true ↔ Ahead l k j)
    {N : List Int} (hN : Lam l l.length N) (i : Nat) (hi : i < l.length) (r : List Int × Bool) (hc : Ev (fun q => spec_LamportOf.l0 q (N.take (i + 1)) rows l.length ((i + 1 : Nat) : Int)) r) (d : Nat) :
    ∀ (k : Nat) (v : Int), k ≤ i → i - k = d → 1 ≤ v → v ≤ 61 → (∀ m, m < k → Ahead l i m → N.getD m 0 < v) → Aside0 (v = 1 ∨ ∃ m, m < k ∧ Ahead l i m ∧ v = N.getD m 0 + 1) →
      Ev (fun q => spec_LamportOf.l1 q (N.take i) i (rows.getD i []) v k rows l.length i) r := by
  have hNl := hN.len
  have htl : (N.take i).length = i := by rw [List.length_take]; omega
  have hr1 := hrow i hi
  have ht : ∀ m, m < i → (N.take i).getD m 0 = N.getD m 0 := by
    intro m hm
    rw [List.getD_eq_getElem?_getD, List.getD_eq_getElem?_getD, List.getElem?_take_of_lt hm]
  induction d with
  | zero =>
    intro k v hk hd v1 v61 hup hti
    obtain rfl : k = i := by omega
    have hv : v = N.getD k 0 := by
      have h1 := hN.one k hi
      have hle : v ≤ N.getD k 0 := by
        rcases hti.out with h2 | ⟨m, _, hm, h2⟩
        · omega
        · have := hN.more k hi m hm; omega
      rcases hN.tight k hi with h2 | ⟨m, hm, h2⟩
      · omega
      · have := hup m (ahead_lt k m hm) hm; omega
    refine Ev.step (fun q => ?_) hc
    simp only [spec_LamportOf.l1]; rw [if_neg (by omega), if_pos (by omega), wrap_next (n := l.length) (by omega) (by omega), hv, take_at N k (by omega)]
  | succ d ih =>
    intro k v hk hd v1 v61 hup hti
    cases hb : (rows.getD i []).getD k false with
    | false =>
      refine Ev.step (fun q => ?_) (ih (k + 1) v (by omega) (by omega) v1 v61 (fun m hm ha => ?_) ⟨?_⟩)
      · simp only [spec_LamportOf.l1]; rw [if_pos (by omega), if_pos (by omega), if_pos (by omega), rdOf_at, hb, if_neg (by decide), wrap_next (n := l.length) (by omega) (by omega)]
      · by_cases e : m = k
        · subst e; have := (hrows i hi m).2 ha; rw [hb] at this; cases this
        · exact hup m (by omega) ha
      · rcases hti.out with h2 | ⟨m, h3, hm, h2⟩
        · exact .inl h2
        · exact .inr ⟨m, by omega, hm, h2⟩
    | true =>
      have ha := (hrows i hi k).1 hb
      have hk1 := hN.one k (by omega)
      by_cases hge : N.getD k 0 ≥ v
      · refine Ev.step (fun q => ?_) (ih (k + 1) (N.getD k 0 + 1) (by omega) (by omega) (by omega) (by omega) (fun m hm ham => ?_) ⟨.inr ⟨k, by omega, ha, rfl⟩⟩)
        · simp only [spec_LamportOf.l1]; rw [if_pos (by omega), if_pos (by omega), if_pos (by omega), rdOf_at, hb, if_pos rfl, if_pos (by omega), rd_at, ht k (by omega), if_pos hge, wrap_next (n := l.length) (by omega) (by omega), wrap_small (x := N.getD k 0 + 1) (by omega) (by omega)]
        · by_cases e : m = k
          · subst e; omega
          · have := hup m (by omega) ham; omega
      · refine Ev.step (fun q => ?_) (ih (k + 1) v (by omega) (by omega) v1 v61 (fun m hm ham => ?_) ⟨?_⟩)
        · simp only [spec_LamportOf.l1]; rw [if_pos (by omega), if_pos (by omega), if_pos (by omega), rdOf_at, hb, if_pos rfl, if_pos (by omega), rd_at, ht k (by omega), if_neg hge, wrap_next (n := l.length) (by omega) (by omega)]
        · by_cases e : m = k
          · subst e; omega
          · exact hup m (by omega) ham
        · rcases hti.out with h2 | ⟨m, h3, hm, h2⟩
          · exact .inl h2
          · exact .inr ⟨m, by omega, hm, h2⟩

theorem spec_lam_loop {l : List S57} (hn : l.length ≤ 60) (rows : List (List Bool)) (hrl : rows.length = l.length) (hrow : ∀ k, k < l.length → (rows.getD k []).length = l.length) (hrows : ∀ k, k < l.length → ∀ j, (rows.getD k []).getD j false = true ↔ Ahead l k j)
    {N : List Int} (hN : Lam l l.length N) (d : Nat) : ∀ i, i ≤ l.length → l.length - i = d → Ev (fun q => spec_LamportOf.l0 q (N.take i) rows l.length i) (N, true) := by
  have hNl := hN.len
  induction d with
  | zero =>
    intro i hi hd
    obtain rfl : i = l.length := by omega
    refine Ev.step (f := fun _ => some (N, true)) (fun q => ?_) (Ev.now _)
    simp only [spec_LamportOf.l0]; rw [if_neg (by omega), List.take_of_length_le (by omega)]
  | succ d ih =>
    intro i hi hd
    refine Ev.step (fun q => ?_) (spec_lam_inner hn rows hrl hrow hrows hN i (by omega) (N, true) (ih (i + 1) (by omega) (by omega)) i 0 1 (by omega) (by omega) (by omega) (by omega) (fun m hm => by omega) ⟨.inl rfl⟩)
    simp only [spec_LamportOf.l0]; rw [if_pos (by omega), if_pos (by omega), if_pos (by omega), rdL4_at]; rfl

/-- WHAT BOTH LamportOf TELL. -/
theorem lam_both (p : Int) (l : List S57) (hn : l.length ≤ 1048576) : ∃ r : List Int × Bool, Ev (fun k => spec_LamportOf.f k p l) r ∧ Ev (fun k => impl_LamportOf.f k p l) r ∧ r.1.length ≤ 60 ∧ (r.2 = true → Good p l ∧ Lam l l.length r.1) ∧ (r.2 = goodB p l) := by
  have hs : Ev (fun k => spec_GoodActs.f k p l) (goodB p l) := ⟨l.length + 1, fun k hk => spec_good p l hn k (by omega)⟩
  have hi : Ev (fun k => impl_GoodActs.f k p l) (goodB p l) := ⟨l.length + 2, fun k hk => impl_good p l hn k (by omega)⟩
  cases hg : goodB p l with
  | false =>
    rw [hg] at hs hi
    exact ⟨([], false), Ev.bind hs (Ev.now _), Ev.bind hi (Ev.now _), by simp, (fun h => by cases h), rfl⟩
  | true =>
    rw [hg] at hs hi
    have g := good_of p l hg
    have hp1 := g.p1
    have hp6 := g.p6
    obtain ⟨rows, hrev, hrl, hrow, hrows⟩ := ahead_rows l (by have := g.len; omega)
    obtain ⟨N, hN, hev⟩ := impl_lam_loop g l.length 0 [] (List.replicate p.toNat 0) (by omega) (by omega) ⟨rfl, fun i hi => by omega, fun i hi => by omega, fun i hi => by omega⟩ (by simp) (fun q hq => .inl ⟨fun k hk => by omega, by
      rw [List.getD_eq_getElem?_getD, List.getElem?_replicate]; split <;> rfl⟩)
    have hsp := spec_lam_loop g.len rows hrl hrow hrows hN l.length 0 (by omega) (by omega)
    have hA : Ev (fun k => (spec_l2Ahead.f k l).bind fun t => spec_LamportOf.l0 k [] t t.length 0) (N, true) := by
      refine Ev.bind (f := fun k t => spec_LamportOf.l0 k [] t t.length 0) hrev ?_
      simp only [hrl]
      exact hsp
    have hS : Ev (fun k => spec_LamportOf.f k p l) (N, true) := Ev.bind (f := fun k t => if t = true then ((spec_l2Ahead.f k l).bind fun t => spec_LamportOf.l0 k [] t t.length 0) else some ([], false)) hs (by simpa using hA)
    have hB : Ev (fun k => (if 0 ≤ p then (if (p : Int).toNat ≤ 35184372088832 then (impl_LamportOf.l0 k (([] : List Int)) (List.replicate (p : Int).toNat 0) l (l.length : Int) 0) else (none)) else (none))) (N, true) := by
      simp only [show (0 : Int) ≤ p by omega, show p.toNat ≤ 35184372088832 by omega, if_true]; exact hev
    have hI : Ev (fun k => impl_LamportOf.f k p l) (N, true) := Ev.bind (f := fun k t => if t = true then (if 0 ≤ p then (if (p : Int).toNat ≤ 35184372088832 then (impl_LamportOf.l0 k (([] : List Int)) (List.replicate (p : Int).toNat 0) l (l.length : Int) 0) else (none)) else (none)) else some ([], false)) hi (by simpa using hB)
    exact ⟨(N, true), hS, hI, by have := hN.len; have := g.len; simp only; omega, fun _ => ⟨g, hN⟩, rfl⟩

theorem markActS_loop (d : Nat) : ∀ (k j : Nat) (v : Int) (l : List S57), l.length ≤ 140737488351232 → 0 ≤ v → v + 2 * d ≤ 1000000000000000000 → j ≤ l.length → l.length - j = d → d < k →
    ∃ y, laws_markActS.l0 k l v j = some (v + 2 * d, y) := by
  induction d with
  | zero =>
    intro k j v l hn hv0 hv1 hj hd hk
    obtain ⟨k, rfl⟩ : ∃ m, k = m + 1 := ⟨k - 1, by omega⟩
    refine ⟨l, ?_⟩
    simp only [laws_markActS.l0]; rw [if_neg (by omega)]; simp
  | succ d ih =>
    intro k j v l hn hv0 hv1 hj hd hk
    obtain ⟨k, rfl⟩ : ∃ m, k = m + 1 := ⟨k - 1, by omega⟩
    simp only [laws_markActS.l0, Option.bind_some]; rw [if_pos (by omega), if_pos (by omega), wrap_next (n := l.length) (by omega) hn, wrap_small (x := v + 1) (by omega) (by omega), wrap_small (x := v + 1 + 1) (by omega) (by omega), Int.toNat_natCast]
    obtain ⟨y, hy⟩ := ih k (j + 1) (v + 1 + 1) ((l.set j ⟨v, (rd_T57 l (j : Int)).f1⟩).set j ⟨(rd_T57 (l.set j ⟨v, (rd_T57 l (j : Int)).f1⟩) (j : Int)).f0, v + 1⟩) (by simp only [List.length_set]; exact hn) (by omega) (by omega) (by simp only [List.length_set]; omega) (by simp only [List.length_set]; omega) (by omega)
    refine ⟨y, ?_⟩
    rw [hy]; congr 2; omega

theorem markActS_eq (l : List S57) (v : Int) (hn : l.length ≤ 140737488351232) (hv0 : 0 ≤ v) (hv1 : v ≤ 500000000000000) (k : Nat) (hk : l.length < k) : ∃ y, laws_markActS.f k l v = some (v + 2 * l.length, y) := by
  unfold laws_markActS.f
  exact markActS_loop l.length k 0 v l hn hv0 (by omega) (by omega) (by omega) hk

/-- THE PURE STATEMENT of the law. -/
def FnExactLamportOf_Pure : Prop := ∀ (a0 : Int) (l1 : (List S64)), (Lit.int .i64 a0).wf = true → (l1.length ≤ 9223372036854775807 ∧ ∀ y ∈ l1, ((Lit.int .i64 y.f0).wf = true ∧ (Lit.int .i64 y.f1).wf = true)) → ∃ k, laws_FnExactLamportOf.f k a0 l1 = some true

theorem FnExactLamportOf : FnExactLamportOf_Pure := by
  intro p l _ hl
  have hs := sz_acts l hl.1
  by_cases h : l.length ≤ 1048576
  · rw [if_pos h] at hs
    have ha := acts_length l
    obtain ⟨r, ⟨K1, h1⟩, ⟨K2, h2⟩, hr, _⟩ := lam_both p (acts l) (by omega)
    replace h1 : ∀ k, K1 ≤ k → spec_LamportOf.f k p (acts l) = some r := h1
    replace h2 : ∀ k, K2 ≤ k → impl_LamportOf.f k p (acts l) = some r := h2
    obtain ⟨y, hy⟩ := markActS_eq (acts l) 1 (by omega) (by omega) (by omega) (K1 + K2 + l.length + 100 + 2) (by omega)
    refine ⟨K1 + K2 + l.length + 100 + 3, ?_⟩
    unfold laws_FnExactLamportOf.f
    rw [hs]; simp only [Option.bind_some]
    rw [if_neg (by omega), toActS_eq l h _ (by omega)]; simp only [Option.bind_some]
    rw [h1 _ (by omega), h2 _ (by omega)]; simp only [Option.bind_some]
    rw [eqIntS_self _ (by omega) _ (by omega)]; simp only [Option.bind_some, if_true, bne_self_eq_false]
    rw [show K1 + K2 + l.length + 100 + 3 = (K1 + K2 + l.length + 100 + 2) + 1 from rfl]
    simp only [laws_FnExactLamportOf.j0, Bool.false_eq_true, if_false]
    rw [toActS_eq l h _ (by omega)]; simp only [Option.bind_some]
    rw [eqActS_self _ (by omega) _ (by omega)]; simp only [Option.bind_some, if_true]
    rw [hy]; simp only [Option.bind_some]
    rw [if_neg (by omega), eqIntS_self _ (by omega) _ (by omega)]; simp only [Option.bind_some, if_true, bne_self_eq_false]
    rw [show K1 + K2 + l.length + 100 + 2 = (K1 + K2 + l.length + 100 + 1) + 1 from rfl]
    simp only [laws_FnExactLamportOf.j1, Bool.false_eq_true, if_false]
    rw [markIntS_eq _ 1 (by omega) (by omega) (by omega) _ (by omega)]; simp only [Option.bind_some]
    rw [heldIntS_eq 1 _ (by omega) (by omega) (by omega) _ (by omega)]; simp only [Option.bind_some]
    rw [if_neg (by omega), if_pos trivial]
    rw [toActS_eq l h _ (by omega)]; simp only [Option.bind_some]
    rw [h2 _ (by omega)]; simp only [Option.bind_some]
    rw [eqIntS_self _ (by omega) _ (by omega)]; simp only [Option.bind_some, if_true, bne_self_eq_false]
    rw [show K1 + K2 + l.length + 100 + 1 = (K1 + K2 + l.length + 100) + 1 from rfl]
    simp only [laws_FnExactLamportOf.j2, Bool.false_eq_true, if_false]
    rw [heldIntS_eq 1 _ (by omega) (by omega) (by omega) _ (by omega)]; simp only [Option.bind_some]
    rw [if_neg (by omega), if_pos trivial]
  · rw [if_neg h] at hs
    exact ⟨0, by unfold laws_FnExactLamportOf.f; rw [hs]; rfl⟩

end Go.Proofs.Ytmhhjmadpnkelaa.Pure
