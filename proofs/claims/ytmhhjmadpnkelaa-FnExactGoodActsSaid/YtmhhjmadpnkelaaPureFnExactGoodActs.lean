/- The program finds acts good where the reference does: the law answers true. No conditions but the reach of a slice. -/
import Derived.Test.YtmhhjmadpnkelaaPFnExactGoodActsx5
namespace Go.Proofs.Ytmhhjmadpnkelaa.Pure
open Go.RowKit Go.Proofs.Ytmhhjmadpnkelaa.PFnExactGoodActs Go.Proofs.YtmhhjmadpnkelaaW.PrintWords Go.Proofs.YtmhhjmadpnkelaaW.PrintLast

theorem wrap_small {x : Int} (h0 : -9223372036854775808 ≤ x) (h1 : x ≤ 9223372036854775807) : wrap64 x = x := by
  unfold wrap64
  omega

theorem wrap_next {j n : Nat} (h : j < n) (hn : n ≤ 140737488351232) : wrap64 ((j : Int) + 1) = ((j + 1 : Nat) : Int) := by
  rw [wrap_small (by omega) (by omega)]; rfl

theorem rd_at (l : List Int) (j : Nat) : rd l (j : Int) = l.getD j 0 := by
  unfold rd; rw [Int.toNat_natCast]

theorem drop_at (l : List Int) (j : Nat) (h : j < l.length) : l.drop j = l.getD j 0 :: l.drop (j + 1) := by
  rw [List.drop_eq_getElem_cons h, List.getD_eq_getElem?_getD, List.getElem?_eq_getElem h]; rfl

theorem take_at (l : List Int) (j : Nat) (h : j < l.length) : l.take (j + 1) = l.take j ++ [l.getD j 0] := by
  rw [List.take_succ_eq_append_getElem h, List.getD_eq_getElem?_getD, List.getElem?_eq_getElem h]; rfl

theorem rdS_at (l : List S57) (j : Nat) : rd_T57 l (j : Int) = l.getD j z57 := by unfold rd_T57; rw [Int.toNat_natCast]
theorem rdR_at (l : List S64) (j : Nat) : rd_T64 l (j : Int) = l.getD j z64 := by unfold rd_T64; rw [Int.toNat_natCast]

/-- an act as the program has it -/
def actOf (x : S64) : S57 := ⟨x.f0, x.f1⟩
/-- the acts as the program has them -/
def acts (l : List S64) : List S57 := l.map actOf
theorem acts_length (l : List S64) : (acts l).length = l.length := by unfold acts; rw [List.length_map]

theorem getD_map_acts (l : List S64) (j : Nat) (h : j < l.length) : (acts l).getD j z57 = actOf (l.getD j z64) := by
  unfold acts; rw [List.getD_eq_getElem?_getD, List.getElem?_map, List.getElem?_eq_getElem h, List.getD_eq_getElem?_getD, List.getElem?_eq_getElem h]; rfl

theorem takeS_at {α : Type} (z : α) (l : List α) (j : Nat) (h : j < l.length) : l.take (j + 1) = l.take j ++ [l.getD j z] := by
  rw [List.take_succ_eq_append_getElem h, List.getD_eq_getElem?_getD, List.getElem?_eq_getElem h]; rfl

theorem dropS_at {α : Type} (z : α) (l : List α) (j : Nat) (h : j < l.length) : l.drop j = l.getD j z :: l.drop (j + 1) := by
  rw [List.drop_eq_getElem_cons h, List.getD_eq_getElem?_getD, List.getElem?_eq_getElem h]; rfl

theorem sz_acts (l : List S64) (h : l.length ≤ 9223372036854775807) : laws_szActS.f l 1048576 = some (if l.length ≤ 1048576 then 1048576 - (l.length : Int) else -1) := by
  unfold laws_szActS.f
  rw [wrap_small (by omega) (by omega)]
  by_cases h1 : l.length ≤ 1048576
  · rw [if_neg (by omega), if_pos h1]
  · rw [if_pos (by omega), if_neg h1]

theorem toActS_loop (l : List S64) (hn : l.length ≤ 140737488351232) (d : Nat) : ∀ (k j : Nat) (x : List S57), x.length = l.length → x.take j = (acts l).take j → j ≤ l.length → l.length - j = d → d < k →
    laws_toActS.l0 k l x j = some (acts l) := by
  induction d with
  | zero =>
    intro k j x hx ht hj hd hk
    obtain ⟨k, rfl⟩ : ∃ m, k = m + 1 := ⟨k - 1, by omega⟩
    simp only [laws_toActS.l0]; rw [if_neg (by omega)]
    rw [List.take_of_length_le (by omega), List.take_of_length_le (by rw [acts_length]; omega)] at ht; rw [ht]
  | succ d ih =>
    intro k j x hx ht hj hd hk
    obtain ⟨k, rfl⟩ : ∃ m, k = m + 1 := ⟨k - 1, by omega⟩
    simp only [laws_toActS.l0, laws_toAct.f, Option.bind_some]; rw [if_pos (by omega), if_pos (by omega), if_pos (by omega), wrap_next (n := l.length) (by omega) hn, rdR_at, Int.toNat_natCast]
    refine ih k (j + 1) _ (by rw [List.length_set]; exact hx) ?_ (by omega) (by omega) (by omega)
    rw [takeS_at z57 (acts l) j (by rw [acts_length]; omega), List.take_succ_eq_append_getElem (by rw [List.length_set]; omega), List.getElem_set_self, List.take_set_of_le (by omega), ht, getD_map_acts l j (by omega)]; rfl

theorem toActS_eq (l : List S64) (hn : l.length ≤ 1048576) (k : Nat) (hk : l.length < k) : laws_toActS.f k l = some (acts l) := by
  unfold laws_toActS.f
  rw [if_pos (by omega), Int.toNat_natCast, if_pos (by omega)]
  exact toActS_loop l (by omega) l.length k 0 _ (by simp) (by simp) (by omega) (by omega) hk

theorem eqActS_loop (a : List S57) (hn : a.length ≤ 140737488351232) (d : Nat) : ∀ (k j : Nat), j ≤ a.length → a.length - j = d → d < k →
    laws_eqActS.l0 k a a j = some true := by
  induction d with
  | zero =>
    intro k j hj hd hk
    obtain ⟨k, rfl⟩ : ∃ m, k = m + 1 := ⟨k - 1, by omega⟩
    simp only [laws_eqActS.l0]; rw [if_neg (by omega)]
  | succ d ih =>
    intro k j hj hd hk
    obtain ⟨k, rfl⟩ : ∃ m, k = m + 1 := ⟨k - 1, by omega⟩
    simp only [laws_eqActS.l0, laws_eqAct.f]; rw [if_pos (by omega), if_pos (by omega), if_pos (by omega), if_pos trivial, if_pos trivial]
    simp only [Option.bind_some, if_true]; rw [wrap_next (n := a.length) (by omega) hn]
    exact ih k (j + 1) (by omega) (by omega) (by omega)

theorem eqActS_self (a : List S57) (hn : a.length ≤ 140737488351232) (k : Nat) (hk : a.length < k) : laws_eqActS.f k a a = some true := by
  unfold laws_eqActS.f
  rw [if_pos rfl]
  exact eqActS_loop a hn a.length k 0 (by omega) (by omega) hk

/-- what is asked of act j, the last proc being q -/
def okAct (l : List S57) (q : Int) (j : Nat) : Bool :=
  decide (0 ≤ (l.getD j z57).f0 ∧ (l.getD j z57).f0 ≤ q ∧ -1 ≤ (l.getD j z57).f1 ∧ (l.getD j z57).f1 ≤ (j : Int) - 1 ∧ (0 ≤ (l.getD j z57).f1 → (l.getD (l.getD j z57).f1.toNat z57).f0 ≠ (l.getD j z57).f0))

/-- .. of d acts from j on -/
def okFrom (l : List S57) (q : Int) (j : Nat) : Nat → Bool
  | 0 => true
  | d + 1 => okAct l q j && okFrom l q (j + 1) d

theorem okFrom_all (l : List S57) (q : Int) (d : Nat) : ∀ j, okFrom l q j d = true ↔ ∀ i, j ≤ i → i < j + d → okAct l q i = true := by
  induction d with
  | zero => intro j; simp only [okFrom, true_iff]; intro i h1 h2; omega
  | succ d ih =>
    intro j
    simp only [okFrom, Bool.and_eq_true, ih]
    constructor
    · rintro ⟨h1, h2⟩ i hi hl
      by_cases e : i = j
      · rw [e]; exact h1
      · exact h2 i (by omega) (by omega)
    · intro h; exact ⟨h j (by omega) (by omega), fun i hi hl => h i (by omega) (by omega)⟩

/-- acts are good -/
def goodB (p : Int) (l : List S57) : Bool := decide (1 ≤ p ∧ p ≤ 6) && decide (l.length ≤ 60) && okFrom l (wrap64 (p - 1)) 0 l.length

theorem in_eq (a b c : Int) : impl_in.f a b c = some (decide (b ≤ a ∧ a ≤ c)) := by
  unfold impl_in.f
  by_cases h : a ≥ b
  · rw [if_pos h]; congr 1; simp only [decide_eq_decide]; omega
  · rw [if_neg h, decide_eq_false (by omega)]
theorem l1In_eq (a b c : Int) : spec_l1In.f a b c = some (decide (b ≤ a ∧ a ≤ c)) := by
  unfold spec_l1In.f
  by_cases h : a ≥ b
  · rw [if_pos h]; congr 1; simp only [decide_eq_decide]; omega
  · rw [if_neg h, decide_eq_false (by omega)]

theorem spec_good_loop (p : Int) (l : List S57) (hn : l.length ≤ 1048576) (d : Nat) : ∀ (k j : Nat), j ≤ l.length → l.length - j = d → d < k →
    spec_GoodActs.l0 k p l l l.length j = some (okFrom l (wrap64 (p - 1)) j d && (decide (1 ≤ p ∧ p ≤ 6) && decide (l.length ≤ 60))) := by
  induction d with
  | zero =>
    intro k j hj hd hk
    obtain ⟨k, rfl⟩ : ∃ m, k = m + 1 := ⟨k - 1, by omega⟩
    simp only [spec_GoodActs.l0]; rw [if_neg (by omega), l1In_eq]; simp only [Option.bind_some, okFrom, Bool.true_and]
    by_cases h : 1 ≤ p ∧ p ≤ 6
    · rw [decide_eq_true h, if_pos rfl]; congr 1; simp only [Bool.true_and, decide_eq_decide]; omega
    · rw [decide_eq_false h, if_neg (by simp)]; rfl
  | succ d ih =>
    intro k j hj hd hk
    obtain ⟨k, rfl⟩ : ∃ m, k = m + 1 := ⟨k - 1, by omega⟩
    simp only [spec_GoodActs.l0]; rw [if_pos (by omega), if_pos (by omega), if_pos (by omega), l1In_eq, l1In_eq, wrap_next (n := l.length) (by omega) (by omega), rdS_at, wrap_small (x := (j : Int) - 1) (by omega) (by omega)]
    simp only [Option.bind_some, okFrom]
    have i1 := ih k (j + 1) (by omega) (by omega) (by omega)
    have hF : spec_GoodActs.l0 k p l l l.length ((j + 1 : Nat) : Int) = some (okFrom l (wrap64 (p - 1)) (j + 1) d && (decide (1 ≤ p ∧ p ≤ 6) && decide (l.length ≤ 60))) := i1
    generalize hx : l.getD j z57 = x at *
    by_cases h1 : 0 ≤ x.f0 ∧ x.f0 ≤ wrap64 (p - 1)
    · rw [decide_eq_true h1, if_pos rfl]
      by_cases h2 : -1 ≤ x.f1 ∧ x.f1 ≤ (j : Int) - 1
      · rw [decide_eq_true h2, if_pos rfl]
        by_cases h3 : x.f1 ≥ 0
        · rw [if_pos h3, if_pos h3, if_pos (by omega)]
          have e : rd_T57 l x.f1 = l.getD x.f1.toNat z57 := rfl
          rw [e]
          by_cases h4 : (l.getD x.f1.toNat z57).f0 = x.f0
          · rw [if_pos h4]
            have : okAct l (wrap64 (p - 1)) j = false := by unfold okAct; rw [hx]; exact decide_eq_false (fun h => h.2.2.2.2 h3 h4)
            rw [this]; rfl
          · rw [if_neg h4, hF]
            have : okAct l (wrap64 (p - 1)) j = true := by unfold okAct; rw [hx]; exact decide_eq_true ⟨h1.1, h1.2, h2.1, h2.2, fun _ => h4⟩
            rw [this]; rfl
        · rw [if_neg h3, hF]
          have : okAct l (wrap64 (p - 1)) j = true := by unfold okAct; rw [hx]; exact decide_eq_true ⟨h1.1, h1.2, h2.1, h2.2, fun h => absurd h h3⟩
          rw [this]; rfl
      · rw [decide_eq_false h2, if_neg (by simp)]
        have : okAct l (wrap64 (p - 1)) j = false := by unfold okAct; rw [hx]; exact decide_eq_false (fun h => h2 ⟨h.2.2.1, h.2.2.2.1⟩)
        rw [this]; rfl
    · rw [decide_eq_false h1, if_neg (by simp)]
      have : okAct l (wrap64 (p - 1)) j = false := by unfold okAct; rw [hx]; exact decide_eq_false (fun h => h1 ⟨h.1, h.2.1⟩)
      rw [this]; rfl

theorem spec_good (p : Int) (l : List S57) (hn : l.length ≤ 1048576) (k : Nat) (hk : l.length < k) : spec_GoodActs.f k p l = some (goodB p l) := by
  unfold spec_GoodActs.f goodB
  rw [show (0 : Int) = ((0 : Nat) : Int) from rfl, spec_good_loop p l hn l.length k 0 (by omega) (by omega) hk, Bool.and_comm]

theorem impl_good_loop (p : Int) (l : List S57) (hn : l.length ≤ 1048576) (d : Nat) : ∀ (k j : Nat), j ≤ l.length → l.length - j = d → d < k →
    impl_GoodActs.l0 k p l l l.length j = some (okFrom l (wrap64 (p - 1)) j d) := by
  induction d with
  | zero =>
    intro k j hj hd hk
    obtain ⟨k, rfl⟩ : ∃ m, k = m + 1 := ⟨k - 1, by omega⟩
    simp only [impl_GoodActs.l0]; rw [if_neg (by omega)]; rfl
  | succ d ih =>
    intro k j hj hd hk
    obtain ⟨k, rfl⟩ : ∃ m, k = m + 1 := ⟨k - 1, by omega⟩
    simp only [impl_GoodActs.l0]; rw [if_pos (by omega), if_pos (by omega), if_pos (by omega), in_eq, in_eq, wrap_next (n := l.length) (by omega) (by omega), rdS_at, wrap_small (x := (j : Int) - 1) (by omega) (by omega)]
    simp only [Option.bind_some, okFrom]
    have hF : impl_GoodActs.l0 k p l l l.length ((j + 1 : Nat) : Int) = some (okFrom l (wrap64 (p - 1)) (j + 1) d) := ih k (j + 1) (by omega) (by omega) (by omega)
    generalize hx : l.getD j z57 = x at *
    by_cases h1 : 0 ≤ x.f0 ∧ x.f0 ≤ wrap64 (p - 1)
    · rw [decide_eq_true h1, if_pos rfl]
      by_cases h2 : -1 ≤ x.f1 ∧ x.f1 ≤ (j : Int) - 1
      · rw [decide_eq_true h2, if_pos rfl]
        by_cases h3 : x.f1 = -1
        · rw [if_pos h3, hF]
          have : okAct l (wrap64 (p - 1)) j = true := by unfold okAct; rw [hx]; exact decide_eq_true ⟨h1.1, h1.2, h2.1, h2.2, fun h => absurd h (by omega)⟩
          rw [this]; rfl
        · rw [if_neg h3, if_pos (by omega), if_pos (by omega)]
          have e : rd_T57 l x.f1 = l.getD x.f1.toNat z57 := rfl
          rw [e]
          by_cases h4 : (l.getD x.f1.toNat z57).f0 = x.f0
          · rw [if_pos h4]
            have : okAct l (wrap64 (p - 1)) j = false := by unfold okAct; rw [hx]; exact decide_eq_false (fun h => h.2.2.2.2 (by omega) h4)
            rw [this]; rfl
          · rw [if_neg h4, hF]
            have : okAct l (wrap64 (p - 1)) j = true := by unfold okAct; rw [hx]; exact decide_eq_true ⟨h1.1, h1.2, h2.1, h2.2, fun _ => h4⟩
            rw [this]; rfl
      · rw [decide_eq_false h2, if_neg (by simp)]
        have : okAct l (wrap64 (p - 1)) j = false := by unfold okAct; rw [hx]; exact decide_eq_false (fun h => h2 ⟨h.2.2.1, h.2.2.2.1⟩)
        rw [this]; rfl
    · rw [decide_eq_false h1, if_neg (by simp)]
      have : okAct l (wrap64 (p - 1)) j = false := by unfold okAct; rw [hx]; exact decide_eq_false (fun h => h1 ⟨h.1, h.2.1⟩)
      rw [this]; rfl

theorem impl_good (p : Int) (l : List S57) (hn : l.length ≤ 1048576) (k : Nat) (hk : l.length + 1 < k) : impl_GoodActs.f k p l = some (goodB p l) := by
  obtain ⟨k, rfl⟩ : ∃ m, k = m + 1 := ⟨k - 1, by omega⟩
  unfold impl_GoodActs.f goodB
  rw [in_eq]; simp only [Option.bind_some]
  by_cases h : 1 ≤ p ∧ p ≤ 6
  · rw [decide_eq_true h, if_pos rfl]
    simp only [impl_GoodActs.j0]
    by_cases h6 : l.length ≤ 60
    · rw [if_neg (by simp; omega), decide_eq_true h6, show (0 : Int) = ((0 : Nat) : Int) from rfl, impl_good_loop p l hn l.length k 0 (by omega) (by omega) (by omega)]; rfl
    · rw [if_pos (by simp; omega), decide_eq_false h6]; rfl
  · rw [decide_eq_false h, if_neg (by simp)]
    simp [impl_GoodActs.j0]

/-- THE PURE STATEMENT of the law. -/
def FnExactGoodActs_Pure : Prop := ∀ (a0 : Int) (l1 : (List S64)), (Lit.int .i64 a0).wf = true → (l1.length ≤ 9223372036854775807 ∧ ∀ y ∈ l1, ((Lit.int .i64 y.f0).wf = true ∧ (Lit.int .i64 y.f1).wf = true)) → ∃ k, laws_FnExactGoodActs.f k a0 l1 = some true

theorem FnExactGoodActs : FnExactGoodActs_Pure := by
  intro p l _ hl
  have hs := sz_acts l hl.1
  by_cases h : l.length ≤ 1048576
  · rw [if_pos h] at hs
    have ha := acts_length l
    refine ⟨l.length + 5, ?_⟩
    unfold laws_FnExactGoodActs.f
    rw [hs]; simp only [Option.bind_some]
    rw [if_neg (by omega), toActS_eq l h _ (by omega)]; simp only [Option.bind_some]
    rw [spec_good p (acts l) (by omega) _ (by omega), impl_good p (acts l) (by omega) _ (by omega)]; simp only [Option.bind_some]
    simp only [bne_self_eq_false, Bool.false_eq_true, if_false]
    rw [eqActS_self _ (by omega) _ (by omega)]; simp
  · rw [if_neg h] at hs
    exact ⟨0, by unfold laws_FnExactGoodActs.f; rw [hs]; rfl⟩

end Go.Proofs.Ytmhhjmadpnkelaa.Pure
