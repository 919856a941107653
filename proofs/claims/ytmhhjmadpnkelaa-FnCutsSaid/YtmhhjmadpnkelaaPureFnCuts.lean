/- A cut is whole just where no message comes to it from without, and all that is ahead of an act is a whole cut: the law answers true. No conditions but the reach of a slice. -/
import Derived.Test.YtmhhjmadpnkelaaPFnCutsx11
namespace Go.Proofs.Ytmhhjmadpnkelaa.Pure
open Go.RowKit Go.Proofs.Ytmhhjmadpnkelaa.PFnCuts Go.Proofs.YtmhhjmadpnkelaaW.PrintWords Go.Proofs.YtmhhjmadpnkelaaW.PrintLast
set_option linter.unusedVariables false
set_option linter.unusedSimpArgs false

theorem wrap_small {x : Int} (h0 : -9223372036854775808 ≤ x) (h1 : x ≤ 9223372036854775807) : wrap64 x = x := by
  unfold wrap64
  omega

theorem wrap_next {j n : Nat} (h : j < n) (hn : n ≤ 140737488351232) : wrap64 ((j : Int) + 1) = ((j + 1 : Nat) : Int) := by
  rw [wrap_small (by omega) (by omega)]; rfl

theorem rd_at (l : List Int) (j : Nat) : rd l (j : Int) = l.getD j 0 := by
  unfold rd; rw [Int.toNat_natCast]

theorem drop_at (l : List Int) (j : Nat) (h : j < l.length) : l.drop j = l.getD j 0 :: l.drop (j + 1) := by
  rw [List.drop_eq_getElem_cons h, List.getD_eq_getElem?_getD, List.getElem?_eq_getElem h]; rfl

theorem take_at (l : List Int) (j : Nat) (h : j < l.length) : l.take (j + 1) = l.take j ++ [l.getD j 0] := by
  rw [List.take_succ_eq_append_getElem h, List.getD_eq_getElem?_getD, List.getElem?_eq_getElem h]; rfl

theorem rdS_at (l : List S57) (j : Nat) : rd_T57 l (j : Int) = l.getD j z57 := by unfold rd_T57; rw [Int.toNat_natCast]
theorem takeS_at {α : Type} (z : α) (l : List α) (j : Nat) (h : j < l.length) : l.take (j + 1) = l.take j ++ [l.getD j z] := by
  rw [List.take_succ_eq_append_getElem h, List.getD_eq_getElem?_getD, List.getElem?_eq_getElem h]; rfl
theorem dropS_at {α : Type} (z : α) (l : List α) (j : Nat) (h : j < l.length) : l.drop j = l.getD j z :: l.drop (j + 1) := by
  rw [List.drop_eq_getElem_cons h, List.getD_eq_getElem?_getD, List.getElem?_eq_getElem h]; rfl

/-- what is asked of act j, the last proc being q -/
def okAct (l : List S57) (q : Int) (j : Nat) : Bool :=
  decide (0 ≤ (l.getD j z57).f0 ∧ (l.getD j z57).f0 ≤ q ∧ -1 ≤ (l.getD j z57).f1 ∧ (l.getD j z57).f1 ≤ (j : Int) - 1 ∧ (0 ≤ (l.getD j z57).f1 → (l.getD (l.getD j z57).f1.toNat z57).f0 ≠ (l.getD j z57).f0))

/-- .. of d acts from j on -/
def okFrom (l : List S57) (q : Int) (j : Nat) : Nat → Bool
  | 0 => true
  | d + 1 => okAct l q j && okFrom l q (j + 1) d

theorem okFrom_all (l : List S57) (q : Int) (d : Nat) : ∀ j, okFrom l q j d = true ↔ ∀ i, j ≤ i → i < j + d → okAct l q i = true := by
  induction d with
  | zero => intro j; simp only [okFrom, true_iff]; intro i h1 h2; omega
  | succ d ih =>
    intro j
    simp only [okFrom, Bool.and_eq_true, ih]
    constructor
    · rintro ⟨h1, h2⟩ i hi hl
      by_cases e : i = j
      · rw [e]; exact h1
      · exact h2 i (by omega) (by omega)
    · intro h; exact ⟨h j (by omega) (by omega), fun i hi hl => h i (by omega) (by omega)⟩

/-- acts are good -/
def goodB (p : Int) (l : List S57) : Bool := decide (1 ≤ p ∧ p ≤ 6) && decide (l.length ≤ 60) && okFrom l (wrap64 (p - 1)) 0 l.length

theorem in_eq (a b c : Int) : impl_in.f a b c = some (decide (b ≤ a ∧ a ≤ c)) := by
  unfold impl_in.f
  by_cases h : a ≥ b
  · rw [if_pos h]; congr 1; simp only [decide_eq_decide]; omega
  · rw [if_neg h, decide_eq_false (by omega)]
theorem l1In_eq (a b c : Int) : spec_l1In.f a b c = some (decide (b ≤ a ∧ a ≤ c)) := by
  unfold spec_l1In.f
  by_cases h : a ≥ b
  · rw [if_pos h]; congr 1; simp only [decide_eq_decide]; omega
  · rw [if_neg h, decide_eq_false (by omega)]

theorem spec_good_loop (p : Int) (l : List S57) (hn : l.length ≤ 1048576) (d : Nat) : ∀ (k j : Nat), j ≤ l.length → l.length - j = d → d < k →
    spec_GoodActs.l0 k p l l l.length j = some (okFrom l (wrap64 (p - 1)) j d && (decide (1 ≤ p ∧ p ≤ 6) && decide (l.length ≤ 60))) := by
  induction d with
  | zero =>
    intro k j hj hd hk
    obtain ⟨k, rfl⟩ : ∃ m, k = m + 1 := ⟨k - 1, by omega⟩
    simp only [spec_GoodActs.l0]; rw [if_neg (by omega), l1In_eq]; simp only [Option.bind_some, okFrom, Bool.true_and]
    by_cases h : 1 ≤ p ∧ p ≤ 6
    · rw [decide_eq_true h, if_pos rfl]; congr 1; simp only [Bool.true_and, decide_eq_decide]; omega
    · rw [decide_eq_false h, if_neg (by simp)]; rfl
  | succ d ih =>
    intro k j hj hd hk
    obtain ⟨k, rfl⟩ : ∃ m, k = m + 1 := ⟨k - 1, by omega⟩
    simp only [spec_GoodActs.l0]; rw [if_pos (by omega), if_pos (by omega), if_pos (by omega), l1In_eq, l1In_eq, wrap_next (n := l.length) (by omega) (by omega), rdS_at, wrap_small (x := (j : Int) - 1) (by omega) (by omega)]
    simp only [Option.bind_some, okFrom]
    have i1 := ih k (j + 1) (by omega) (by omega) (by omega)
    have hF : spec_GoodActs.l0 k p l l l.length ((j + 1 : Nat) : Int) = some (okFrom l (wrap64 (p - 1)) (j + 1) d && (decide (1 ≤ p ∧ p ≤ 6) && decide (l.length ≤ 60))) := i1
    generalize hx : l.getD j z57 = x at *
    by_cases h1 : 0 ≤ x.f0 ∧ x.f0 ≤ wrap64 (p - 1)
    · rw [decide_eq_true h1, if_pos rfl]
      by_cases h2 : -1 ≤ x.f1 ∧ x.f1 ≤ (j : Int) - 1
      · rw [decide_eq_true h2, if_pos rfl]
        by_cases h3 : x.f1 ≥ 0
        · rw [if_pos h3, if_pos h3, if_pos (by omega)]
          have e : rd_T57 l x.f1 = l.getD x.f1.toNat z57 := rfl
          rw [e]
          by_cases h4 : (l.getD x.f1.toNat z57).f0 = x.f0
          · rw [if_pos h4]
            have : okAct l (wrap64 (p - 1)) j = false := by unfold okAct; rw [hx]; exact decide_eq_false (fun h => h.2.2.2.2 h3 h4)
            rw [this]; rfl
          · rw [if_neg h4, hF]
            have : okAct l (wrap64 (p - 1)) j = true := by unfold okAct; rw [hx]; exact decide_eq_true ⟨h1.1, h1.2, h2.1, h2.2, fun _ => h4⟩
            rw [this]; rfl
        · rw [if_neg h3, hF]
          have : okAct l (wrap64 (p - 1)) j = true := by unfold okAct; rw [hx]; exact decide_eq_true ⟨h1.1, h1.2, h2.1, h2.2, fun h => absurd h h3⟩
          rw [this]; rfl
      · rw [decide_eq_false h2, if_neg (by simp)]
        have : okAct l (wrap64 (p - 1)) j = false := by unfold okAct; rw [hx]; exact decide_eq_false (fun h => h2 ⟨h.2.2.1, h.2.2.2.1⟩)
        rw [this]; rfl
    · rw [decide_eq_false h1, if_neg (by simp)]
      have : okAct l (wrap64 (p - 1)) j = false := by unfold okAct; rw [hx]; exact decide_eq_false (fun h => h1 ⟨h.1, h.2.1⟩)
      rw [this]; rfl

theorem spec_good (p : Int) (l : List S57) (hn : l.length ≤ 1048576) (k : Nat) (hk : l.length < k) : spec_GoodActs.f k p l = some (goodB p l) := by
  unfold spec_GoodActs.f goodB
  rw [show (0 : Int) = ((0 : Nat) : Int) from rfl, spec_good_loop p l hn l.length k 0 (by omega) (by omega) hk, Bool.and_comm]

theorem impl_good_loop (p : Int) (l : List S57) (hn : l.length ≤ 1048576) (d : Nat) : ∀ (k j : Nat), j ≤ l.length → l.length - j = d → d < k →
    impl_GoodActs.l0 k p l l l.length j = some (okFrom l (wrap64 (p - 1)) j d) := by
  induction d with
  | zero =>
    intro k j hj hd hk
    obtain ⟨k, rfl⟩ : ∃ m, k = m + 1 := ⟨k - 1, by omega⟩
    simp only [impl_GoodActs.l0]; rw [if_neg (by omega)]; rfl
  | succ d ih =>
    intro k j hj hd hk
    obtain ⟨k, rfl⟩ : ∃ m, k = m + 1 := ⟨k - 1, by omega⟩
    simp only [impl_GoodActs.l0]; rw [if_pos (by omega), if_pos (by omega), if_pos (by omega), in_eq, in_eq, wrap_next (n := l.length) (by omega) (by omega), rdS_at, wrap_small (x := (j : Int) - 1) (by omega) (by omega)]
    simp only [Option.bind_some, okFrom]
    have hF : impl_GoodActs.l0 k p l l l.length ((j + 1 : Nat) : Int) = some (okFrom l (wrap64 (p - 1)) (j + 1) d) := ih k (j + 1) (by omega) (by omega) (by omega)
    generalize hx : l.getD j z57 = x at *
    by_cases h1 : 0 ≤ x.f0 ∧ x.f0 ≤ wrap64 (p - 1)
    · rw [decide_eq_true h1, if_pos rfl]
      by_cases h2 : -1 ≤ x.f1 ∧ x.f1 ≤ (j : Int) - 1
      · rw [decide_eq_true h2, if_pos rfl]
        by_cases h3 : x.f1 = -1
        · rw [if_pos h3, hF]
          have : okAct l (wrap64 (p - 1)) j = true := by unfold okAct; rw [hx]; exact decide_eq_true ⟨h1.1, h1.2, h2.1, h2.2, fun h => absurd h (by omega)⟩
          rw [this]; rfl
        · rw [if_neg h3, if_pos (by omega), if_pos (by omega)]
          have e : rd_T57 l x.f1 = l.getD x.f1.toNat z57 := rfl
          rw [e]
          by_cases h4 : (l.getD x.f1.toNat z57).f0 = x.f0
          · rw [if_pos h4]
            have : okAct l (wrap64 (p - 1)) j = false := by unfold okAct; rw [hx]; exact decide_eq_false (fun h => h.2.2.2.2 (by omega) h4)
            rw [this]; rfl
          · rw [if_neg h4, hF]
            have : okAct l (wrap64 (p - 1)) j = true := by unfold okAct; rw [hx]; exact decide_eq_true ⟨h1.1, h1.2, h2.1, h2.2, fun _ => h4⟩
            rw [this]; rfl
      · rw [decide_eq_false h2, if_neg (by simp)]
        have : okAct l (wrap64 (p - 1)) j = false := by unfold okAct; rw [hx]; exact decide_eq_false (fun h => h2 ⟨h.2.2.1, h.2.2.2.1⟩)
        rw [this]; rfl
    · rw [decide_eq_false h1, if_neg (by simp)]
      have : okAct l (wrap64 (p - 1)) j = false := by unfold okAct; rw [hx]; exact decide_eq_false (fun h => h1 ⟨h.1, h.2.1⟩)
      rw [this]; rfl

theorem impl_good (p : Int) (l : List S57) (hn : l.length ≤ 1048576) (k : Nat) (hk : l.length + 1 < k) : impl_GoodActs.f k p l = some (goodB p l) := by
  obtain ⟨k, rfl⟩ : ∃ m, k = m + 1 := ⟨k - 1, by omega⟩
  unfold impl_GoodActs.f goodB
  rw [in_eq]; simp only [Option.bind_some]
  by_cases h : 1 ≤ p ∧ p ≤ 6
  · rw [decide_eq_true h, if_pos rfl]
    simp only [impl_GoodActs.j0]
    by_cases h6 : l.length ≤ 60
    · rw [if_neg (by simp; omega), decide_eq_true h6, show (0 : Int) = ((0 : Nat) : Int) from rfl, impl_good_loop p l hn l.length k 0 (by omega) (by omega) (by omega)]; rfl
    · rw [if_pos (by simp; omega), decide_eq_false h6]; rfl
  · rw [decide_eq_false h, if_neg (by simp)]
    simp [impl_GoodActs.j0]

/-- the proc and the from of an act -/
def pr (l : List S57) (i : Nat) : Int := (l.getD i z57).f0
def fm (l : List S57) (i : Nat) : Int := (l.getD i z57).f1

/-- k is told to be ahead of i at once -/
def Next (l : List S57) (i k : Nat) : Prop := k < i ∧ (pr l k = pr l i ∨ (k : Int) = fm l i)
def AhN (l : List S57) : Nat → Nat → Nat → Prop
  | 0, _, _ => False
  | n + 1, i, j => ∃ k, Next l i k ∧ (j = k ∨ AhN l n k j)
/-- j is ahead of i -/
def Ahead (l : List S57) (i j : Nat) : Prop := ∃ n, AhN l n i j

theorem ahead_iff (l : List S57) (i j : Nat) : Ahead l i j ↔ ∃ k, Next l i k ∧ (j = k ∨ Ahead l k j) := by
  constructor
  · rintro ⟨n, h⟩
    cases n with
    | zero => exact h.elim
    | succ n =>
      obtain ⟨k, hk, h | h⟩ := h
      · exact ⟨k, hk, .inl h⟩
      · exact ⟨k, hk, .inr ⟨n, h⟩⟩
  · rintro ⟨k, hk, h | ⟨n, h⟩⟩
    · exact ⟨1, k, hk, .inl h⟩
    · exact ⟨n + 1, k, hk, .inr h⟩

theorem ahead_lt {l : List S57} : ∀ (i j : Nat), Ahead l i j → j < i := by
  intro i
  induction i using Nat.strongRecOn with
  | ind i ih =>
    intro j h
    obtain ⟨k, hk, h | h⟩ := (ahead_iff l i j).1 h
    · rw [h]; exact hk.1
    · have := ih k hk.1 j h; have := hk.1; omega

theorem ahead_trans {l : List S57} : ∀ (i k j : Nat), Ahead l i k → Ahead l k j → Ahead l i j := by
  intro i
  induction i using Nat.strongRecOn with
  | ind i ih =>
    intro k j h1 h2
    obtain ⟨m, hm, h | h⟩ := (ahead_iff l i k).1 h1
    · subst h; exact (ahead_iff l i j).2 ⟨k, hm, .inr h2⟩
    · exact (ahead_iff l i j).2 ⟨m, hm, .inr (ih m hm.1 k j h h2)⟩

theorem ahead_next {l : List S57} {i k : Nat} (h : Next l i k) : Ahead l i k := (ahead_iff l i k).2 ⟨k, h, .inl rfl⟩

theorem rdOf_at {α : Type} (d : α) (xs : List α) (j : Nat) : rdOf d xs (j : Int) = xs.getD j d := by unfold rdOf; rw [Int.toNat_natCast]
theorem rdL4_at (xs : List (List Bool)) (j : Nat) : rd_L6 xs (j : Int) = xs.getD j [] := by unfold rd_L6; rw [Int.toNat_natCast]

theorem getD_set {α : Type} (d : α) (x : List α) (i j : Nat) (v : α) (h : i < x.length) : (x.set i v).getD j d = if j = i then v else x.getD j d := by
  rw [List.getD_eq_getElem?_getD, List.getElem?_set]
  by_cases e : i = j
  · subst e; rw [if_pos rfl, if_pos h, if_pos rfl]; rfl
  · rw [if_neg e, if_neg (fun h => e h.symm), List.getD_eq_getElem?_getD]

theorem getD_snoc {α : Type} (d : α) (x : List α) (v : α) (j : Nat) : (x ++ [v]).getD j d = if j = x.length then v else x.getD j d := by
  rw [List.getD_eq_getElem?_getD, List.getD_eq_getElem?_getD]
  by_cases e : j = x.length
  · subst e; rw [if_pos rfl]; simp
  · rw [if_neg e]
    rcases Nat.lt_or_ge j x.length with h | h
    · rw [List.getElem?_append_left h]
    · rw [List.getElem?_eq_none (by simp; omega), List.getElem?_eq_none h]

section
variable (l : List S57) (hn : l.length ≤ 1000) (out : List (List Bool)) (i : Nat) (hi : i < l.length) (ho : out.length = i) (hrow : ∀ k, k < i → (out.getD k []).length = l.length) (r : List (List Bool))
include hn hi ho hrow
/-- the inner loop: what is ahead of k comes to x -/
theorem ahead_l2 (k : Nat) (hk : k < i) (d : Nat) : ∀ (j : Nat) (x : List Bool), j ≤ k → k - j = d → x.length = l.length →
    (∀ y : List Bool, y.length = l.length → (∀ m, y.getD m false = if j ≤ m ∧ m < k then (x.getD m false || (out.getD k []).getD m false) else x.getD m false) → Ev (fun q => spec_l2Ahead.l1 q l out i y ((k + 1 : Nat) : Int) l l.length i (pr l i) (fm l i)) r) →
    Ev (fun q => spec_l2Ahead.l2 q l out i x k j l l.length i (pr l i) (fm l i)) r := by
  induction d with
  | zero =>
    intro j x hj hd hx hc
    refine Ev.step (f := fun q => spec_l2Ahead.l1 q l out i x ((k + 1 : Nat) : Int) l l.length i (pr l i) (fm l i)) (fun q => ?_) (hc x hx (fun m => by rw [if_neg (by omega)]))
    simp only [spec_l2Ahead.l2]; rw [if_neg (by omega), wrap_next (n := l.length) (by omega) (by omega)]
  | succ d ih =>
    intro j x hj hd hx hc
    have hrk := hrow k hk
    have key : ∀ v : Bool, v = (x.getD j false || (out.getD k []).getD j false) → Ev (fun q => spec_l2Ahead.l2 q l out i (x.set j v) k ((j + 1 : Nat) : Int) l l.length i (pr l i) (fm l i)) r := by
      intro v hv
      refine ih (j + 1) (x.set j v) (by omega) (by omega) (by rw [List.length_set]; exact hx) (fun y hy hm => hc y hy (fun m => ?_))
      rw [hm m, getD_set false x j m v (by omega)]
      by_cases e : m = j
      · subst e; rw [if_neg (by omega), if_pos rfl, if_pos (by omega), hv]
      · rw [if_neg e]
        by_cases h2 : j + 1 ≤ m ∧ m < k
        · rw [if_pos h2, if_pos (by omega)]
        · rw [if_neg h2, if_neg (by omega)]
    cases hb : x.getD j false with
    | true =>
      refine Ev.step (f := fun q => spec_l2Ahead.l2 q l out i (x.set j true) k ((j + 1 : Nat) : Int) l l.length i (pr l i) (fm l i)) (fun q => ?_) (key true (by rw [hb]; rfl))
      simp only [spec_l2Ahead.l2]; rw [if_pos (by omega), if_pos (by omega), if_pos (by omega), rdOf_at, hb, if_pos rfl, wrap_next (n := l.length) (by omega) (by omega), Int.toNat_natCast]
    | false =>
      refine Ev.step (f := fun q => spec_l2Ahead.l2 q l out i (x.set j ((out.getD k []).getD j false)) k ((j + 1 : Nat) : Int) l l.length i (pr l i) (fm l i)) (fun q => ?_) (key _ (by rw [hb]; rfl))
      simp only [spec_l2Ahead.l2]; rw [if_pos (by omega), if_pos (by omega), if_pos (by omega), rdOf_at, hb, if_neg (by decide), if_pos (by omega), if_pos (by omega), rdL4_at, if_pos (by omega), rdOf_at, wrap_next (n := l.length) (by omega) (by omega), Int.toNat_natCast]

/-- the loop over what may be ahead of i -/
theorem ahead_l1 (hrows : ∀ k, k < i → ∀ j, (out.getD k []).getD j false = true ↔ Ahead l k j) (d : Nat) : ∀ (k : Nat) (x : List Bool), k ≤ i → i - k = d → x.length = l.length →
    (∀ m, x.getD m false = true ↔ ∃ k', k' < k ∧ Next l i k' ∧ (m = k' ∨ Ahead l k' m)) →
    (∀ y : List Bool, y.length = l.length → (∀ m, y.getD m false = true ↔ Ahead l i m) → Ev (fun q => spec_l2Ahead.l0 q l (out ++ [y]) l l.length ((i + 1 : Nat) : Int)) r) →
    Ev (fun q => spec_l2Ahead.l1 q l out i x k l l.length i (pr l i) (fm l i)) r := by
  induction d with
  | zero =>
    intro k x hk hd hx hm hc
    obtain rfl : k = i := by omega
    refine Ev.step (f := fun q => spec_l2Ahead.l0 q l (out ++ [x]) l l.length ((k + 1 : Nat) : Int)) (fun q => ?_) (hc x hx (fun m => ?_))
    · simp only [spec_l2Ahead.l1]; rw [if_neg (by omega), if_pos (by omega), wrap_next (n := l.length) (by omega) (by omega)]
    · rw [hm m, ahead_iff]
      constructor
      · rintro ⟨k', _, h⟩; exact ⟨k', h⟩
      · rintro ⟨k', h⟩; exact ⟨k', h.1.1, h⟩
  | succ d ih =>
    intro k x hk hd hx hm hc
    have hki : k < i := by omega
    have grow : ∀ y : List Bool, y.length = l.length → (∀ m, y.getD m false = true ↔ (x.getD m false = true ∨ (Next l i k ∧ (m = k ∨ Ahead l k m)))) → Ev (fun q => spec_l2Ahead.l1 q l out i y ((k + 1 : Nat) : Int) l l.length i (pr l i) (fm l i)) r := by
      intro y hy hym
      refine ih (k + 1) y (by omega) (by omega) hy (fun m => ?_) hc
      rw [hym m, hm m]
      constructor
      · rintro (⟨k', h1, h2⟩ | h)
        · exact ⟨k', by omega, h2⟩
        · exact ⟨k, by omega, h⟩
      · rintro ⟨k', h1, h2⟩
        by_cases e : k' = k
        · subst e; exact .inr h2
        · exact .inl ⟨k', by omega, h2⟩
    have jump : ∀ b : Bool, (b = true ↔ ¬ Next l i k) → Ev (fun q => spec_l2Ahead.j2 q l out i x k l l.length i b (pr l i) (fm l i)) r := by
      intro b hb
      cases b with
      | true =>
        refine Ev.step (f := fun q => spec_l2Ahead.l1 q l out i x ((k + 1 : Nat) : Int) l l.length i (pr l i) (fm l i)) (fun q => ?_) (grow x hx (fun m => ?_))
        · simp only [spec_l2Ahead.j2, if_true]; rw [wrap_next (n := l.length) (by omega) (by omega)]
        · constructor
          · exact .inl
          · rintro (h | h)
            · exact h
            · exact absurd h.1 (hb.1 rfl)
      | false =>
        have hnx : Next l i k := Classical.byContradiction (fun h => by have := hb.2 h; cases this)
        refine Ev.step (f := fun q => spec_l2Ahead.l2 q l out i (x.set k true) k ((0 : Nat) : Int) l l.length i (pr l i) (fm l i)) (fun q => ?_) ?_
        · simp only [spec_l2Ahead.j2, Bool.false_eq_true, if_false]; rw [if_pos (by omega), if_pos (by omega), Int.toNat_natCast]; rfl
        · refine ahead_l2 l hn out i hi ho hrow r k hki k 0 (x.set k true) (by omega) (by omega) (by rw [List.length_set]; exact hx) (fun y hy hym => grow y hy (fun m => ?_))
          rw [hym m, getD_set false x k m true (by omega)]
          by_cases e : m = k
          · subst e; rw [if_neg (by omega), if_pos rfl]; simp [hnx]
          · rw [if_neg e]
            by_cases h2 : 0 ≤ m ∧ m < k
            · rw [if_pos h2, Bool.or_eq_true, hrows k hki m]; simp [hnx, e]
            · rw [if_neg h2]
              constructor
              · exact .inl
              · rintro (h | ⟨_, h | h⟩)
                · exact h
                · exact absurd h e
                · have := ahead_lt k m h; omega
    by_cases hp : pr l k = pr l i
    · refine Ev.step (f := fun q => spec_l2Ahead.j2 q l out i x k l l.length i false (pr l i) (fm l i)) (fun q => ?_) (jump false (Iff.intro (fun h => Bool.noConfusion h) (fun h => absurd (show Next l i k from ⟨hki, .inl hp⟩) h)))
      simp only [spec_l2Ahead.l1]; rw [if_pos (by omega), if_pos (by omega), if_pos (by omega), rdS_at, if_pos (show (l.getD k z57).f0 = pr l i from hp)]
    · refine Ev.step (f := fun q => spec_l2Ahead.j2 q l out i x k l l.length i ((k : Int) != fm l i) (pr l i) (fm l i)) (fun q => ?_) (jump _ ?_)
      · simp only [spec_l2Ahead.l1]; rw [if_pos (by omega), if_pos (by omega), if_pos (by omega), rdS_at, if_neg (show ¬ (l.getD k z57).f0 = pr l i from hp)]
      · rw [bne_iff_ne]
        constructor
        · rintro h1 ⟨_, h2 | h2⟩
          · exact hp h2
          · exact h1 h2
        · intro h1 h2; exact h1 ⟨hki, .inr h2⟩
end

theorem ahead_l0 (l : List S57) (hn : l.length ≤ 1000) (d : Nat) : ∀ (i : Nat) (out : List (List Bool)), i ≤ l.length → l.length - i = d → out.length = i → (∀ k, k < i → (out.getD k []).length = l.length) →
    (∀ k, k < i → ∀ j, (out.getD k []).getD j false = true ↔ Ahead l k j) →
    ∃ r : List (List Bool), Ev (fun q => spec_l2Ahead.l0 q l out l l.length i) r ∧ r.length = l.length ∧ (∀ k, k < l.length → (r.getD k []).length = l.length) ∧ ∀ k, k < l.length → ∀ j, (r.getD k []).getD j false = true ↔ Ahead l k j := by
  induction d with
  | zero =>
    intro i out hi hd ho hrow hrows
    obtain rfl : i = l.length := by omega
    refine ⟨out, Ev.step (f := fun _ => some out) (fun q => ?_) (Ev.now _), ho, hrow, hrows⟩
    simp only [spec_l2Ahead.l0]; rw [if_neg (by omega)]
  | succ d ih =>
    intro i out hi hd ho hrow hrows
    have next : ∀ y : List Bool, y.length = l.length → (∀ m, y.getD m false = true ↔ Ahead l i m) → ∃ r : List (List Bool), Ev (fun q => spec_l2Ahead.l0 q l (out ++ [y]) l l.length ((i + 1 : Nat) : Int)) r ∧ r.length = l.length ∧ (∀ k, k < l.length → (r.getD k []).length = l.length) ∧ ∀ k, k < l.length → ∀ j, (r.getD k []).getD j false = true ↔ Ahead l k j := by
      intro y hy hym
      refine ih (i + 1) (out ++ [y]) (by omega) (by omega) (by simp [ho]) (fun k hk => ?_) (fun k hk j => ?_)
      · rw [getD_snoc]; split
        · exact hy
        · exact hrow k (by omega)
      · rw [getD_snoc]; split
        · rw [show k = i by omega]; exact hym j
        · exact hrows k (by omega) j
    obtain ⟨y, hy, hym⟩ : ∃ y : List Bool, y.length = l.length ∧ ∀ m, y.getD m false = true ↔ Ahead l i m := by
      classical
      refine ⟨(List.range l.length).map (fun m => decide (Ahead l i m)), by simp, fun m => ?_⟩
      rw [List.getD_eq_getElem?_getD, List.getElem?_map]
      rcases Nat.lt_or_ge m l.length with h | h
      · rw [List.getElem?_range h]; simp
      · rw [List.getElem?_eq_none (by simpa using h)]
        simp only [Option.map_none, Option.getD_none, Bool.false_eq_true, false_iff]
        intro h2; have := ahead_lt i m h2; omega
    obtain ⟨r, hr, hr1, hr2, hr3⟩ := next y hy hym
    refine ⟨r, ?_, hr1, hr2, hr3⟩
    refine Ev.step (f := fun q => spec_l2Ahead.l1 q l out i (List.replicate l.length false) ((0 : Nat) : Int) l l.length i (pr l i) (fm l i)) (fun q => ?_) ?_
    · simp only [spec_l2Ahead.l0]; rw [if_pos (by omega), if_pos (by omega), if_pos (by omega), if_pos (by omega), Int.toNat_natCast, if_pos (by omega), rdS_at]; rfl
    · refine ahead_l1 l hn out i (by omega) ho hrow r hrows i 0 _ (by omega) (by omega) (by simp) (fun m => ?_) (fun z hz hzm => ?_)
      · constructor
        · intro h
          rw [List.getD_eq_getElem?_getD, List.getElem?_replicate] at h
          split at h <;> simp at h
        · rintro ⟨k', h, _⟩; omega
      · have : z = y := by
          apply List.ext_getElem?
          intro m
          rcases Nat.lt_or_ge m l.length with h | h
          · have e1 : z.getD m false = y.getD m false := by
              have := (hzm m).trans (hym m).symm
              cases h1 : z.getD m false <;> cases h2 : y.getD m false <;> simp_all
            rw [List.getD_eq_getElem?_getD, List.getD_eq_getElem?_getD, List.getElem?_eq_getElem (by omega), List.getElem?_eq_getElem (by omega)] at e1
            rw [List.getElem?_eq_getElem (by omega), List.getElem?_eq_getElem (by omega)]
            exact congrArg some e1
          · rw [List.getElem?_eq_none (by omega), List.getElem?_eq_none (by omega)]
        rw [this]; exact hr

/-- WHAT spec.l2Ahead TELLS. -/
theorem ahead_rows (l : List S57) (hn : l.length ≤ 1000) : ∃ r : List (List Bool), Ev (fun q => spec_l2Ahead.f q l) r ∧ r.length = l.length ∧ (∀ k, k < l.length → (r.getD k []).length = l.length) ∧ ∀ k, k < l.length → ∀ j, (r.getD k []).getD j false = true ↔ Ahead l k j := by
  obtain ⟨r, h⟩ := ahead_l0 l hn l.length 0 [] (by omega) (by omega) rfl (fun k hk => by omega) (fun k hk => by omega)
  exact ⟨r, h⟩

/-- good acts, in words -/
structure Good (p : Int) (l : List S57) : Prop where
  p1 : 1 ≤ p
  p6 : p ≤ 6
  len : l.length ≤ 60
  proc : ∀ i, i < l.length → 0 ≤ pr l i ∧ pr l i ≤ p - 1
  frm : ∀ i, i < l.length → -1 ≤ fm l i ∧ fm l i ≤ (i : Int) - 1
  other : ∀ i, i < l.length → 0 ≤ fm l i → pr l (fm l i).toNat ≠ pr l i

theorem good_of (p : Int) (l : List S57) (h : goodB p l = true) : Good p l := by
  unfold goodB at h
  simp only [Bool.and_eq_true, decide_eq_true_eq] at h
  obtain ⟨⟨h1, h2⟩, h3⟩ := h
  rw [wrap_small (by omega) (by omega), okFrom_all] at h3
  have h4 : ∀ i, i < l.length → okAct l (p - 1) i = true := fun i hi => h3 i (by omega) (by omega)
  simp only [okAct, decide_eq_true_eq] at h4
  exact ⟨h1.1, h1.2, h2, fun i hi => ⟨(h4 i hi).1, (h4 i hi).2.1⟩, fun i hi => ⟨(h4 i hi).2.2.1, (h4 i hi).2.2.2.1⟩, fun i hi hf => (h4 i hi).2.2.2.2 hf⟩

/-- m is the last act of q ahead of place i -/
def LastOf (l : List S57) (i : Nat) (q : Int) (m : Nat) : Prop := m < i ∧ pr l m = q ∧ ∀ k, m < k → k < i → pr l k ≠ q
def NoneOf (l : List S57) (i : Nat) (q : Int) : Prop := ∀ k, k < i → pr l k ≠ q

theorem next_from {p : Int} {l : List S57} (g : Good p l) {i : Nat} (hi : i < l.length) (hf : fm l i ≠ -1) : Next l i (fm l i).toNat ∧ ((fm l i).toNat : Int) = fm l i := by
  have := g.frm i hi
  exact ⟨⟨by omega, .inr (by omega)⟩, by omega⟩

theorem impl_join_loop (a b : List Int) (hab : a.length = b.length) (hn : a.length ≤ 140737488351232) (d : Nat) : ∀ (k j : Nat) (x : List Int), j ≤ a.length → a.length - j = d → x.length + d ≤ 17592186044416 → d < k →
    impl_joined.l0 k b x a a.length j = some (x ++ List.zipWith mx (a.drop j) (b.drop j)) := by
  induction d with
  | zero =>
    intro k j x hj hd hx hk
    obtain ⟨k, rfl⟩ : ∃ m, k = m + 1 := ⟨k - 1, by omega⟩
    simp only [impl_joined.l0]; rw [if_neg (by omega), List.drop_of_length_le (by omega)]; simp
  | succ d ih =>
    intro k j x hj hd hx hk
    obtain ⟨k, rfl⟩ : ∃ m, k = m + 1 := ⟨k - 1, by omega⟩
    simp only [impl_joined.l0]; rw [if_pos (by omega), if_pos (by omega), if_pos (by omega), if_pos (by omega), if_pos (by omega), wrap_next (n := a.length) (by omega) hn, rd_at, rd_at, drop_at a j (by omega), drop_at b j (by omega)]
    rw [ih k (j + 1) (x ++ [_]) (by omega) (by omega) (by simp; omega) (by omega)]; simp

theorem impl_joined_eq (a b : List Int) (h : a.length = b.length) (h6 : a.length ≤ 100) (k : Nat) (hk : a.length < k) : impl_joined.f k a b = some (List.zipWith mx a b) := by
  unfold impl_joined.f
  have := impl_join_loop a b h (by omega) a.length k 0 [] (by omega) (by omega) (by simp; omega) (by omega)
  simpa using this

/-- some number of the first is greater -/
def moreL : List Int → List Int → Bool
  | x :: a, y :: b => decide (x > y) || moreL a b
  | _, _ => false

theorem below_loop (a b : List Int) (hab : a.length = b.length) (hn : a.length ≤ 140737488351232) (d : Nat) : ∀ (k j : Nat), j ≤ a.length → a.length - j = d → d < k →
    impl_below.l0 k b a a.length j = some (!moreL (a.drop j) (b.drop j)) := by
  induction d with
  | zero =>
    intro k j hj hd hk
    obtain ⟨k, rfl⟩ : ∃ q, k = q + 1 := ⟨k - 1, by omega⟩
    simp only [impl_below.l0]; rw [if_neg (by omega), List.drop_of_length_le (by omega), List.drop_of_length_le (by omega)]; rfl
  | succ d ih =>
    intro k j hj hd hk
    obtain ⟨k, rfl⟩ : ∃ q, k = q + 1 := ⟨k - 1, by omega⟩
    simp only [impl_below.l0]
    rw [if_pos (by omega), if_pos (by omega), if_pos (by omega), if_pos (by omega), wrap_next (n := a.length) (by omega) hn, rd_at, rd_at, drop_at a j (by omega), drop_at b j (by omega)]
    by_cases h : a.getD j 0 > b.getD j 0
    · rw [if_pos h]; simp only [moreL]; rw [decide_eq_true h]; rfl
    · rw [if_neg h, ih k (j + 1) (by omega) (by omega) (by omega)]; simp only [moreL]; rw [decide_eq_false h]; rfl

theorem below_eq (a b : List Int) (hab : a.length = b.length) (hn : a.length ≤ 140737488351232) (k : Nat) (hk : a.length < k) : impl_below.f k a b = some (!moreL a b) := by
  unfold impl_below.f
  have := below_loop a b hab hn a.length k 0 (by omega) (by omega) hk
  simpa using this

theorem more_iff : ∀ a b : List Int, a.length = b.length → (moreL a b = false ↔ ∀ q : Nat, q < a.length → a.getD q 0 ≤ b.getD q 0)
  | [], [], _ => ⟨fun _ q hq => absurd hq (Nat.not_lt_zero _), fun _ => rfl⟩
  | [], _ :: _, h => by simp at h
  | _ :: _, [], h => by simp at h
  | x :: a, y :: b, h => by
    simp only [moreL, Bool.or_eq_false_iff, decide_eq_false_iff_not, more_iff a b (by simpa using h)]
    constructor
    · rintro ⟨h1, h2⟩ q hq
      cases q with
      | zero => simpa using h1
      | succ q => simpa using h2 q (by simpa using hq)
    · intro h1
      refine ⟨by simpa using h1 0 (by simp), fun q hq => by simpa using h1 (q + 1) (by simpa using hq)⟩

/-- how many acts of q stand ahead of place i -/
def cntP (l : List S57) (q : Int) : Nat → Nat
  | 0 => 0
  | i + 1 => cntP l q i + if pr l i = q then 1 else 0
/-- how many acts of its own process stand ahead of act k -/
def rank (l : List S57) (k : Nat) : Nat := cntP l (pr l k) k

theorem cntP_mono (l : List S57) (q : Int) {i j : Nat} (h : i ≤ j) : cntP l q i ≤ cntP l q j := by
  induction j with
  | zero => rw [Nat.le_zero.1 h]; exact Nat.le_refl _
  | succ j ih =>
    rcases Nat.lt_or_ge i (j + 1) with h1 | h1
    · have := ih (by omega); simp only [cntP]; omega
    · rw [show i = j + 1 by omega]; exact Nat.le_refl _
theorem cntP_lt (l : List S57) (q : Int) {i j : Nat} (h : i < j) (hp : pr l i = q) : cntP l q i < cntP l q j := by
  have := cntP_mono l q (show i + 1 ≤ j from h)
  simp only [cntP, hp, if_true] at this
  omega
theorem cntP_le (l : List S57) (q : Int) (i : Nat) : cntP l q i ≤ i := by
  induction i with
  | zero => exact Nat.le_refl _
  | succ i ih => simp only [cntP]; split <;> omega

/-- i itself, or ahead of i -/
def InS (l : List S57) (i k : Nat) : Prop := k = i ∨ Ahead l i k

/-- v is act i's vector -/
structure VecOK (p : Int) (l : List S57) (i : Nat) (v : List Int) : Prop where
  len : (v.length : Int) = p
  pos : ∀ q : Int, 0 ≤ q → q < p → 0 ≤ rd v q ∧ rd v q ≤ i + 1
  mem : ∀ k, k < l.length → 0 ≤ pr l k → pr l k < p → (InS l i k ↔ (rank l k : Int) < rd v (pr l k))
  top : ∀ q : Int, 0 ≤ q → q < p → rd v q = 0 ∨ ∃ k, k < l.length ∧ pr l k = q ∧ (rank l k : Int) + 1 = rd v q

theorem inS_le {l : List S57} {i k : Nat} (h : InS l i k) : k ≤ i := by
  rcases h with h | h
  · omega
  · have := ahead_lt i k h; omega
theorem inS_trans {l : List S57} {i k m : Nat} (h : InS l i k) (h2 : InS l k m) : InS l i m := by
  rcases h with h | h
  · rw [← h]; exact h2
  · rcases h2 with h2 | h2
    · exact .inr (h2 ▸ h)
    · exact .inr (ahead_trans i k m h h2)

/-- the vectors tell what is ahead -/
theorem vec_below {p : Int} {l : List S57} (g : Good p l) {a b : Nat} (ha : a < l.length) (hb : b < l.length) {u v : List Int} (hu : VecOK p l a u) (hv : VecOK p l b v) :
    (∀ q : Int, 0 ≤ q → q < p → rd u q ≤ rd v q) ↔ InS l b a := by
  constructor
  · intro h
    have hp := g.proc a ha
    have h1 := (hu.mem a ha hp.1 (by omega)).1 (.inl rfl)
    exact (hv.mem a ha hp.1 (by omega)).2 (by have := h (pr l a) hp.1 (by omega); omega)
  · intro h q h0 h1
    rcases hu.top q h0 h1 with h2 | ⟨k, hk, hq, hr⟩
    · have := (hv.pos q h0 h1).1; omega
    · subst hq
      have h3 : InS l a k := (hu.mem k hk h0 h1).2 (by omega)
      have h4 := (hv.mem k hk h0 h1).1 (inS_trans h h3)
      omega

/-- the step of a vector: from those of the last act of the same process and of the act that the message came from -/
theorem vec_step {p : Int} {l : List S57} (g : Good p l) {i : Nat} (hi : i < l.length) {v : List Int} (hlen : (v.length : Int) = p)
    (hpos : ∀ q : Int, 0 ≤ q → q < p → 0 ≤ rd v q ∧ rd v q ≤ i)
    (hmem : ∀ k, k < l.length → 0 ≤ pr l k → pr l k < p → (Ahead l i k ↔ (rank l k : Int) < rd v (pr l k)))
    (htop : ∀ q : Int, 0 ≤ q → q < p → rd v q = 0 ∨ ∃ k, k < l.length ∧ pr l k = q ∧ (rank l k : Int) + 1 = rd v q) :
    VecOK p l i (v.set (pr l i).toNat (wrap64 (rd v (pr l i) + 1))) := by
  have hp := g.proc i hi
  have hl60 := g.len
  have hb := hpos (pr l i) hp.1 (by omega)
  have ew : wrap64 (rd v (pr l i) + 1) = rd v (pr l i) + 1 := wrap_small (by omega) (by omega)
  -- the old number is how many acts of the process stand ahead
  have hrank : rd v (pr l i) = (rank l i : Int) := by
    have hge : ¬ ((rank l i : Int) < rd v (pr l i)) := fun h => by
      have := ahead_lt i i ((hmem i hi hp.1 (by omega)).2 h); omega
    rcases htop (pr l i) hp.1 (by omega) with h0 | ⟨k, hk, hq, hr⟩
    · -- no act of the process is ahead
      have hz : ∀ n, n ≤ i → cntP l (pr l i) n = 0 := by
        intro n
        induction n with
        | zero => intro _; rfl
        | succ n ih =>
          intro hn
          simp only [cntP, ih (by omega)]
          by_cases h : pr l n = pr l i
          · have ha : Ahead l i n := (ahead_iff l i n).2 ⟨n, ⟨by omega, .inl h⟩, .inl rfl⟩
            have := (hmem n (by omega) (by rw [h]; exact hp.1) (by rw [h]; omega)).1 ha
            rw [h] at this; omega
          · rw [if_neg h]
      unfold rank; rw [hz i (Nat.le_refl _)]; exact h0
    · by_cases hki : k < i
      · -- the next of the process behind k is i
        rcases Int.lt_trichotomy (rd v (pr l i)) (rank l i : Int) with h | h | h
        · exfalso
          -- the last act of the process ahead of i
          have key : ∀ n, n ≤ i → (rank l k : Int) + 1 < cntP l (pr l i) n → ∃ m, m < n ∧ pr l m = pr l i ∧ (rank l m : Int) + 1 = cntP l (pr l i) n := by
            intro n
            induction n with
            | zero => intro _ h2; simp only [cntP] at h2; omega
            | succ n ih =>
              intro hn h2
              by_cases hpn : pr l n = pr l i
              · exact ⟨n, by omega, hpn, by unfold rank; rw [hpn]; simp only [cntP, hpn, if_true]; omega⟩
              · have e : cntP l (pr l i) (n + 1) = cntP l (pr l i) n := by simp only [cntP, if_neg hpn]; rfl
                rw [e] at h2 ⊢
                obtain ⟨m, hm, h3⟩ := ih (by omega) h2
                exact ⟨m, by omega, h3⟩
          obtain ⟨m, hm, hpm, hrm⟩ := key i (Nat.le_refl _) (by have : (rank l i : Int) = cntP l (pr l i) i := rfl; omega)
          have ha : Ahead l i m := (ahead_iff l i m).2 ⟨m, ⟨hm, .inl hpm⟩, .inl rfl⟩
          have h4 := (hmem m (by omega) (by rw [hpm]; exact hp.1) (by rw [hpm]; omega)).1 ha
          rw [hpm] at h4
          have : (rank l i : Int) = cntP l (pr l i) i := rfl
          omega
        · exact h
        · exact absurd h hge
      · exfalso
        have h5 : Ahead l i k := (hmem k hk (by rw [hq]; exact hp.1) (by rw [hq]; omega)).2 (by rw [hq]; omega)
        have := ahead_lt i k h5
        omega
  have hset : ∀ q : Int, 0 ≤ q → q < p → rd (v.set (pr l i).toNat (wrap64 (rd v (pr l i) + 1))) q = if q = pr l i then rd v (pr l i) + 1 else rd v q := by
    intro q h0 h1
    rw [ew]
    unfold rd
    by_cases h : q = pr l i
    · subst h; rw [if_pos rfl, List.getD_eq_getElem?_getD, List.getElem?_set_self (by omega)]; rfl
    · rw [if_neg h, List.getD_eq_getElem?_getD, List.getElem?_set_ne (by omega), List.getD_eq_getElem?_getD]
  refine ⟨by rw [List.length_set]; exact hlen, fun q h0 h1 => ?_, fun k hk h0 h1 => ?_, fun q h0 h1 => ?_⟩
  · rw [hset q h0 h1]
    have := hpos q h0 h1
    by_cases h : q = pr l i
    · rw [if_pos h]; omega
    · rw [if_neg h]; omega
  · rw [hset _ h0 h1]
    by_cases h : pr l k = pr l i
    · rw [if_pos h, hrank]
      constructor
      · intro hin
        rcases hin with hin | hin
        · subst hin; omega
        · have := cntP_lt l (pr l i) (ahead_lt i k hin) h
          unfold rank; rw [h]; omega
      · intro hlt
        rcases Nat.lt_trichotomy k i with h2 | h2 | h2
        · exact .inr ((ahead_iff l i k).2 ⟨k, ⟨h2, .inl h⟩, .inl rfl⟩)
        · exact .inl h2
        · have := cntP_lt l (pr l i) h2 rfl
          unfold rank at hlt; rw [h] at hlt; omega
    · rw [if_neg h]
      rw [← hmem k hk h0 h1]
      constructor
      · intro hin
        rcases hin with hin | hin
        · exact absurd (by rw [hin]) h
        · exact hin
      · exact fun hin => .inr hin
  · rw [hset q h0 h1]
    by_cases h : q = pr l i
    · rw [if_pos h]; exact .inr ⟨i, hi, h.symm, by rw [hrank]⟩
    · rw [if_neg h]; exact htop q h0 h1

theorem rd_zip (a b : List Int) (h : a.length = b.length) (q : Int) (h0 : 0 ≤ q) (h1 : q < a.length) : rd (List.zipWith mx a b) q = mx (rd a q) (rd b q) := by
  obtain ⟨n, rfl⟩ := Int.eq_ofNat_of_zero_le h0
  unfold rd
  rw [Int.toNat_natCast, List.getD_eq_getElem?_getD, List.getD_eq_getElem?_getD, List.getD_eq_getElem?_getD, List.getElem?_zipWith, List.getElem?_eq_getElem (show n < a.length by omega), List.getElem?_eq_getElem (show n < b.length by omega)]
  rfl
theorem rd_zeros (n : Nat) (q : Int) : rd (List.replicate n 0) q = 0 := by
  unfold rd
  rw [List.getD_eq_getElem?_getD, List.getElem?_replicate]
  split <;> rfl

theorem over_nil (n : Nat) : overL (List.replicate n 0) [] = List.replicate n 0 := by unfold overL; simp
theorem over_full (n : Nat) (y : List Int) (h : y.length = n) : overL (List.replicate n 0) y = y := by
  unfold overL; rw [List.length_replicate, h, Nat.min_self, List.take_of_length_le (by omega), List.drop_of_length_le (by simp), List.append_nil]

/-- what the last rows are, ahead of act i -/
def LastOK (p : Int) (l : List S57) (i : Nat) (last : List (List Int)) : Prop :=
  ∀ q : Int, 0 ≤ q → q < p → (last.getD q.toNat [] = [] ∧ NoneOf l i q) ∨ ∃ m, LastOf l i q m ∧ VecOK p l m (last.getD q.toNat [])

theorem ahead_same {l : List S57} {i m x k : Nat} (hm : LastOf l i (pr l i) m) (hx : x < i) (hp : pr l x = pr l i) (hk : k = x ∨ Ahead l x k) : InS l m k := by
  have hxm : x ≤ m := by
    rcases Nat.lt_or_ge m x with h | h
    · exact absurd hp (hm.2.2 x h hx)
    · exact h
  have h1 : InS l m x := by
    rcases Nat.lt_or_ge x m with h | h
    · exact .inr ((ahead_iff l m x).2 ⟨x, ⟨h, .inl (by rw [hp, hm.2.1])⟩, .inl rfl⟩)
    · exact .inl (by omega)
  exact inS_trans h1 hk

/-- the vector ahead of the last step, with no act that the message came from -/
theorem prev_facts {p : Int} {l : List S57} (g : Good p l) {i : Nat} (hi : i < l.length) {last : List (List Int)} (hl : LastOK p l i last) :
    ∃ v0, overL (List.replicate p.toNat 0) (last.getD (pr l i).toNat []) = v0 ∧ (v0.length : Int) = p ∧ (∀ q : Int, 0 ≤ q → q < p → 0 ≤ rd v0 q ∧ rd v0 q ≤ i) ∧
      (∀ k, k < l.length → 0 ≤ pr l k → pr l k < p → ((∃ x, x < i ∧ pr l x = pr l i ∧ (k = x ∨ Ahead l x k)) ↔ (rank l k : Int) < rd v0 (pr l k))) ∧
      (∀ q : Int, 0 ≤ q → q < p → rd v0 q = 0 ∨ ∃ k, k < l.length ∧ pr l k = q ∧ (rank l k : Int) + 1 = rd v0 q) := by
  have hp := g.proc i hi
  have hp1 := g.p1
  rcases hl (pr l i) hp.1 (by omega) with ⟨h1, h2⟩ | ⟨m, hm, hv⟩
  · rw [h1, over_nil]
    refine ⟨_, rfl, by simp; omega, fun q _ _ => by rw [rd_zeros]; omega, fun k hk h0 h3 => ?_, fun q _ _ => .inl (rd_zeros _ _)⟩
    rw [rd_zeros]
    constructor
    · rintro ⟨x, hx, hpx, _⟩
      exact absurd hpx (h2 x hx)
    · intro h; omega
  · have hml := hm.1
    rw [over_full _ _ (by have := hv.len; omega)]
    refine ⟨_, rfl, hv.len, fun q h0 h3 => by have := hv.pos q h0 h3; omega, fun k hk h0 h3 => ?_, hv.top⟩
    rw [← hv.mem k hk h0 h3]
    constructor
    · rintro ⟨x, hx, hpx, hkx⟩
      exact ahead_same hm hx hpx hkx
    · intro h; exact ⟨m, hml, hm.2.1, h⟩

theorem act_vec {p : Int} {l : List S57} (g : Good p l) {i : Nat} (hi : i < l.length) {out last : List (List Int)} (ho : out.length = i) (hout : ∀ m, m < i → VecOK p l m (out.getD m [])) (hl : LastOK p l i last) (k : Nat) (hk : 100 < k) :
    ∃ v, (if fm l i = -1 then some (overL (List.replicate p.toNat 0) (last.getD (pr l i).toNat [])) else if 0 ≤ fm l i ∧ fm l i < out.length then impl_joined.f k (overL (List.replicate p.toNat 0) (last.getD (pr l i).toNat [])) (out.getD (fm l i).toNat []) else none) = some v ∧
      (v.length : Int) = p ∧ VecOK p l i (v.set (pr l i).toNat (wrap64 (rd v (pr l i) + 1))) := by
  obtain ⟨v0, e0, hlen, hpos, hmem, htop⟩ := prev_facts g hi hl
  rw [e0]
  by_cases hf : fm l i = -1
  · rw [if_pos hf]
    refine ⟨v0, rfl, hlen, vec_step g hi hlen hpos (fun k hk h0 h1 => ?_) htop⟩
    rw [← hmem k hk h0 h1, ahead_iff]
    constructor
    · rintro ⟨x, ⟨hx, h | h⟩, hkx⟩
      · exact ⟨x, hx, h, hkx⟩
      · omega
    · rintro ⟨x, hx, h, hkx⟩
      exact ⟨x, ⟨hx, .inl h⟩, hkx⟩
  · have hfr := g.frm i hi
    have hp6 := g.p6
    obtain ⟨f, hff⟩ : ∃ f : Nat, (f : Int) = fm l i := ⟨(fm l i).toNat, by omega⟩
    rw [if_neg hf, ← hff, if_pos (by omega), Int.toNat_natCast]
    have hw := hout f (by omega)
    obtain ⟨w, hww⟩ : ∃ w, w = out.getD f [] := ⟨_, rfl⟩
    rw [← hww] at hw ⊢
    have hwl := hw.len
    rw [impl_joined_eq v0 w (by omega) (by omega) k (by omega)]
    have hz : ∀ q : Int, 0 ≤ q → q < p → rd (List.zipWith mx v0 w) q = mx (rd v0 q) (rd w q) := fun q h0 h1 => rd_zip v0 w (by omega) q h0 (by omega)
    have hzl : ((List.zipWith mx v0 w).length : Int) = p := by rw [List.length_zipWith]; omega
    refine ⟨_, rfl, hzl, vec_step g hi hzl (fun q h0 h1 => ?_) (fun k hk h0 h1 => ?_) (fun q h0 h1 => ?_)⟩
    · rw [hz q h0 h1]
      have := hpos q h0 h1
      have := hw.pos q h0 h1
      unfold mx
      omega
    · rw [hz _ h0 h1, ahead_iff]
      have h2 := hmem k hk h0 h1
      have h3 := hw.mem k hk h0 h1
      have e : (rank l k : Int) < mx (rd v0 (pr l k)) (rd w (pr l k)) ↔ ((rank l k : Int) < rd v0 (pr l k) ∨ (rank l k : Int) < rd w (pr l k)) := by
        unfold mx; split <;> constructor <;> intro h4 <;> omega
      rw [e, ← h2, ← h3]
      constructor
      · rintro ⟨x, ⟨hx, h | h⟩, hkx⟩
        · exact .inl ⟨x, hx, h, hkx⟩
        · have : x = f := by omega
          subst this
          exact .inr hkx
      · rintro (⟨x, hx, h, hkx⟩ | h)
        · exact ⟨x, ⟨hx, .inl h⟩, hkx⟩
        · exact ⟨f, ⟨by omega, .inr hff⟩, h⟩
    · rw [hz q h0 h1]
      have h2 := htop q h0 h1
      have h3 := hw.top q h0 h1
      have h4 := hpos q h0 h1
      have h5 := hw.pos q h0 h1
      rcases Int.lt_or_le (rd v0 q) (rd w q) with h | h
      · have e : mx (rd v0 q) (rd w q) = rd w q := by unfold mx; rw [if_pos h]
        rw [e]; exact h3
      · have e : mx (rd v0 q) (rd w q) = rd v0 q := by unfold mx; rw [if_neg (by omega)]
        rw [e]; exact h2

theorem vecs_loop {p : Int} {l : List S57} (g : Good p l) (k : Nat) (hk : 100 < k) (d : Nat) : ∀ (i : Nat) (out last : List (List Int)), i ≤ l.length → l.length - i = d → out.length = i → (∀ m, m < i → VecOK p l m (out.getD m [])) → (last.length : Int) = p → LastOK p l i last →
    ∃ V, vecGo k p (l.drop i) out last = some V ∧ V.length = l.length ∧ ∀ m, m < l.length → VecOK p l m (V.getD m []) := by
  induction d with
  | zero =>
    intro i out last hi hd ho hout hll hl
    rw [List.drop_of_length_le (by omega)]
    exact ⟨out, rfl, by omega, fun m hm => hout m (by omega)⟩
  | succ d ih =>
    intro i out last hi hd ho hout hll hl
    have hil : i < l.length := by omega
    have hp := g.proc i hil
    have h60 := g.len
    obtain ⟨v, hv, hvl, hok⟩ := act_vec g hil ho hout hl k hk
    obtain ⟨nv, hnv⟩ : ∃ nv, nv = v.set (pr l i).toNat (wrap64 (rd v (pr l i) + 1)) := ⟨_, rfl⟩
    rw [← hnv] at hok
    have hda : l.drop i = l.getD i z57 :: l.drop (i + 1) := dropS_at z57 l i hil
    have e1 : (l.getD i z57).f0 = pr l i := rfl
    have e2 : (l.getD i z57).f1 = fm l i := rfl
    rw [hda]
    simp only [vecGo, e1, e2]
    rw [if_pos (by omega), hv]; simp only [Option.bind_some]
    rw [if_pos (by omega), ← hnv]
    refine ih (i + 1) (out ++ [nv]) (last.set (pr l i).toNat nv) (by omega) (by omega) (by simp; omega) (fun m hm => ?_) (by rw [List.length_set]; exact hll) (fun q h0 h1 => ?_)
    · by_cases h : m = i
      · subst h
        rw [List.getD_eq_getElem?_getD, List.getElem?_append_right (by omega), ho]; simpa using hok
      · rw [List.getD_eq_getElem?_getD, List.getElem?_append_left (by omega), ← List.getD_eq_getElem?_getD]
        exact hout m (by omega)
    · by_cases h : q = pr l i
      · subst h
        refine .inr ⟨i, ⟨by omega, rfl, fun x h2 h3 => by omega⟩, ?_⟩
        rw [List.getD_eq_getElem?_getD, List.getElem?_set_self (by omega)]; exact hok
      · have e : (last.set (pr l i).toNat nv).getD q.toNat [] = last.getD q.toNat [] := by
          rw [List.getD_eq_getElem?_getD, List.getElem?_set_ne (by omega), List.getD_eq_getElem?_getD]
        rw [e]
        rcases hl q h0 h1 with ⟨h2, h3⟩ | ⟨m, hm, hv2⟩
        · refine .inl ⟨h2, fun x hx => ?_⟩
          by_cases hxi : x = i
          · rw [hxi]; exact fun e => h e.symm
          · exact h3 x (by omega)
        · refine .inr ⟨m, ⟨by have := hm.1; omega, hm.2.1, fun x h2 h3 => ?_⟩, hv2⟩
          by_cases hxi : x = i
          · rw [hxi]; exact fun e => h e.symm
          · exact hm.2.2 x h2 (by omega)

theorem vecs_ok {p : Int} {l : List S57} (g : Good p l) (k : Nat) (hk : 100 < k) : ∃ V, impl_vectors.f k p l = some V ∧ V.length = l.length ∧ ∀ m, m < l.length → VecOK p l m (V.getD m []) := by
  have h1 := g.p1
  have h6 := g.p6
  unfold impl_vectors.f
  rw [if_pos (by omega)]
  have := vecs_loop g k hk l.length 0 [] (List.replicate p.toNat []) (by omega) (by omega) rfl (fun m hm => by omega) (by simp; omega) (fun q h0 h2 => .inl ⟨?_, fun x hx => by omega⟩)
  · simpa using this
  · rw [List.getD_eq_getElem?_getD, List.getElem?_replicate]; split <;> rfl

/-- act k is in the cut -/
def inCut (l : List S57) (cut : List Int) (k : Nat) : Bool := decide ((rank l k : Int) < rd cut (pr l k))
/-- how many acts of each process stand ahead of place i -/
def CountsAt (p : Int) (l : List S57) (i : Nat) (x : List Int) : Prop := (x.length : Int) = p ∧ ∀ q : Int, 0 ≤ q → q < p → rd x q = (cntP l q i : Int)

theorem counts_step {p : Int} {l : List S57} (g : Good p l) {i : Nat} (hi : i < l.length) {x : List Int} (h : CountsAt p l i x) : CountsAt p l (i + 1) (x.set (pr l i).toNat (wrap64 (rd x (pr l i) + 1))) := by
  have hp := g.proc i hi
  have h60 := g.len
  have hc := h.2 (pr l i) hp.1 (by omega)
  have hle := cntP_le l (pr l i) i
  have hl := h.1
  refine ⟨by rw [List.length_set]; exact h.1, fun q h0 h1 => ?_⟩
  rw [wrap_small (by omega) (by omega)]
  simp only [cntP]
  unfold rd
  by_cases e : q = pr l i
  · subst e
    rw [List.getD_eq_getElem?_getD, List.getElem?_set_self (by omega)]
    simp only [if_true, Option.getD_some]
    unfold rd at hc
    omega
  · rw [List.getD_eq_getElem?_getD, List.getElem?_set_ne (by omega), ← List.getD_eq_getElem?_getD, if_neg (fun h => e h.symm)]
    have := h.2 q h0 h1
    unfold rd at this
    omega

theorem cut_fill {p : Int} {l : List S57} (g : Good p l) (cut : List Int) (hcl : (cut.length : Int) = p) (r : Bool × Bool) (d : Nat) : ∀ (i : Nat) (x8 : List Int) (x9 : List Bool), i ≤ l.length → l.length - i = d → CountsAt p l i x8 → x9.length = l.length → (∀ k, k < i → x9.getD k false = inCut l cut k) →
    (∀ (y8 : List Int) (y9 : List Bool), CountsAt p l l.length y8 → y9.length = l.length → (∀ k, k < l.length → y9.getD k false = inCut l cut k) → Ev (fun k => spec_CutIsWhole.l1 k l y8 y9 cut cut.length ((0 : Nat) : Int)) r) →
    Ev (fun k => spec_CutIsWhole.l0 k l cut x8 x9 l l.length i) r := by
  induction d with
  | zero =>
    intro i x8 x9 hi hd h8 h9 hk hc
    have e : i = l.length := by omega
    subst e
    refine Ev.step (fun k => ?_) (hc x8 x9 h8 h9 hk)
    simp only [spec_CutIsWhole.l0]; rw [if_neg (by omega)]; rfl
  | succ d ih =>
    intro i x8 x9 hi hd h8 h9 hk hc
    have hil : i < l.length := by omega
    have hp := g.proc i hil
    have h60 := g.len
    have hl8 := h8.1
    have hrk : rd x8 (pr l i) = (rank l i : Int) := h8.2 _ hp.1 (by omega)
    have e1 : (l.getD i z57).f0 = pr l i := rfl
    refine Ev.step (fun k => ?_) (ih (i + 1) (x8.set (pr l i).toNat (wrap64 (rd x8 (pr l i) + 1))) (x9.set i (inCut l cut i)) (by omega) (by omega) (counts_step g hil h8) (by rw [List.length_set]; exact h9) (fun k hki => ?_) hc)
    · simp only [spec_CutIsWhole.l0]
      rw [if_pos (by omega), if_pos (by omega), if_pos (by omega), rdS_at, e1, if_pos (by omega), if_pos (by omega), if_pos (by omega), if_pos (by omega), wrap_next (n := l.length) (by omega) (by omega), Int.toNat_natCast, hrk]
      rfl
    · by_cases e : k = i
      · subst e; rw [List.getD_eq_getElem?_getD, List.getElem?_set_self (by omega)]; rfl
      · rw [List.getD_eq_getElem?_getD, List.getElem?_set_ne (fun h => e h.symm), ← List.getD_eq_getElem?_getD]
        exact hk k (by omega)

/-- the cut's numbers are in reach -/
def cutOk (l : List S57) (cut : List Int) (j : Nat) : Nat → Bool
  | 0 => true
  | d + 1 => decide (0 ≤ cut.getD j 0 ∧ cut.getD j 0 ≤ (cntP l j l.length : Int)) && cutOk l cut (j + 1) d
theorem cutOk_all (l : List S57) (cut : List Int) (d : Nat) : ∀ j, cutOk l cut j d = true → ∀ q, j ≤ q → q < j + d → 0 ≤ cut.getD q 0 := by
  induction d with
  | zero => intro j _ q h1 h2; omega
  | succ d ih =>
    intro j h q h1 h2
    simp only [cutOk, Bool.and_eq_true, decide_eq_true_eq] at h
    by_cases e : q = j
    · subst e; exact h.1.1
    · exact ih (j + 1) h.2 q (by omega) (by omega)

theorem spec_check {p : Int} {l : List S57} (g : Good p l) (cut : List Int) (hcl : (cut.length : Int) = p) (y8 : List Int) (h8 : CountsAt p l l.length y8) (y9 : List Bool) (r : Bool × Bool) (d : Nat) : ∀ j : Nat, j ≤ cut.length → cut.length - j = d →
    (cutOk l cut j d = true → Ev (fun k => (spec_l2Ahead.f k l).bind fun t => spec_CutIsWhole.l2 k y9 t (t.length : Int) 0) r) → (cutOk l cut j d = false → r = (false, false)) →
    Ev (fun k => spec_CutIsWhole.l1 k l y8 y9 cut cut.length j) r := by
  have hp6 := g.p6
  have hl8 := h8.1
  induction d with
  | zero =>
    intro j hj hd h1 h2
    refine Ev.step (fun k => ?_) (h1 rfl)
    simp only [spec_CutIsWhole.l1]; rw [if_neg (by omega)]
  | succ d ih =>
    intro j hj hd h1 h2
    have hc : rd y8 (j : Int) = (cntP l j l.length : Int) := h8.2 _ (by omega) (by omega)
    have hun : ∀ k, spec_CutIsWhole.l1 (k + 1) l y8 y9 cut cut.length j = if (decide (0 ≤ cut.getD j 0 ∧ cut.getD j 0 ≤ (cntP l j l.length : Int))) = true then spec_CutIsWhole.l1 k l y8 y9 cut cut.length ((j + 1 : Nat) : Int) else some (false, false) := by
      intro k
      simp only [spec_CutIsWhole.l1]
      rw [if_pos (by omega), if_pos (by omega), if_pos (by omega), if_pos (by omega), rd_at, hc, l1In_eq, wrap_next (n := cut.length) (by omega) (by omega)]
      rfl
    by_cases hd' : 0 ≤ cut.getD j 0 ∧ cut.getD j 0 ≤ (cntP l j l.length : Int)
    · have e := decide_eq_true hd'
      refine Ev.step (fun k => by rw [hun, e, if_pos rfl]) (ih (j + 1) (by omega) (by omega) (fun h => h1 ?_) (fun h => h2 ?_))
      · simp only [cutOk, e, h, Bool.and_self]
      · simp only [cutOk, e, h, Bool.and_false]
    · have e := decide_eq_false hd'
      have := h2 (by simp only [cutOk, e, Bool.false_and])
      subst this
      refine Ev.step (f := fun _ => some (false, false)) (fun k => ?_) (Ev.now _)
      rw [hun, e, if_neg (by decide)]

theorem impl_check {p : Int} {l : List S57} (g : Good p l) (cut : List Int) (hcl : (cut.length : Int) = p) (y8 : List Int) (h8 : CountsAt p l l.length y8) (w : Bool) (d : Nat) : ∀ j : Nat, j ≤ cut.length → cut.length - j = d →
    Ev (fun k => impl_CutIsWhole.l1 k y8 w cut cut.length j) (if cutOk l cut j d = true then (w, true) else (false, false)) := by
  have hp6 := g.p6
  have hl8 := h8.1
  induction d with
  | zero =>
    intro j hj hd
    refine Ev.step (f := fun _ => some (w, true)) (fun k => ?_) (Ev.now _)
    simp only [impl_CutIsWhole.l1]; rw [if_neg (by omega)]
  | succ d ih =>
    intro j hj hd
    have hc : rd y8 (j : Int) = (cntP l j l.length : Int) := h8.2 _ (by omega) (by omega)
    have hun : ∀ k, impl_CutIsWhole.l1 (k + 1) y8 w cut cut.length j = if (decide (0 ≤ cut.getD j 0 ∧ cut.getD j 0 ≤ (cntP l j l.length : Int))) = true then impl_CutIsWhole.l1 k y8 w cut cut.length ((j + 1 : Nat) : Int) else some (false, false) := by
      intro k
      simp only [impl_CutIsWhole.l1]
      rw [if_pos (by omega), if_pos (by omega), if_pos (by omega), if_pos (by omega), rd_at, hc, in_eq, wrap_next (n := cut.length) (by omega) (by omega)]
      rfl
    by_cases hd' : 0 ≤ cut.getD j 0 ∧ cut.getD j 0 ≤ (cntP l j l.length : Int)
    · have e := decide_eq_true hd'
      have e2 : cutOk l cut j (d + 1) = cutOk l cut (j + 1) d := by simp only [cutOk, e, Bool.true_and]
      rw [e2]
      exact Ev.step (fun k => by rw [hun, e, if_pos rfl]) (ih (j + 1) (by omega) (by omega))
    · have e := decide_eq_false hd'
      have e2 : cutOk l cut j (d + 1) = false := by simp only [cutOk, e, Bool.false_and]
      rw [e2, if_neg (by decide)]
      refine Ev.step (f := fun _ => some (false, false)) (fun k => ?_) (Ev.now _)
      rw [hun, e, if_neg (by decide)]

/-- nothing ahead of an act of the cut lies without it, from j on -/
def RestIn (l : List S57) (cut : List Int) (i j : Nat) : Prop := ∀ k, j ≤ k → k < i → Ahead l i k → inCut l cut k = true
def WholeFrom (l : List S57) (cut : List Int) (i : Nat) : Prop := ∀ m, i ≤ m → m < l.length → inCut l cut m = true → RestIn l cut m 0

open Classical in
theorem spec_row {l : List S57} (cut : List Int) (y9 : List Bool) (h9 : y9.length = l.length) (hk9 : ∀ k, k < l.length → y9.getD k false = inCut l cut k) (hn : l.length ≤ 1000) (R : List (List Bool)) (hRl : R.length = l.length) (row : List Bool) (i : Nat) (hi : i < l.length) (hrl : row.length = l.length) (hrow : ∀ k, row.getD k false = true ↔ Ahead l i k) (r : Bool × Bool) (d : Nat) : ∀ j : Nat, j ≤ i → i - j = d →
    ((inCut l cut i = true → RestIn l cut i j) → Ev (fun k => spec_CutIsWhole.l2 k y9 R R.length ((i + 1 : Nat) : Int)) r) → ((inCut l cut i = true ∧ ¬ RestIn l cut i j) → r = (false, true)) →
    Ev (fun k => spec_CutIsWhole.l3 k y9 i row j R R.length i) r := by
  induction d with
  | zero =>
    intro j hj hd h1 h2
    refine Ev.step (fun k => ?_) (h1 (fun _ k h3 h4 => by omega))
    simp only [spec_CutIsWhole.l3]; rw [if_neg (by omega), wrap_small (by omega) (by omega)]; rfl
  | succ d ih =>
    intro j hj hd h1 h2
    have eb : ∀ (x : List Bool) (n : Nat), rdOf false x (n : Int) = x.getD n false := fun x n => by unfold rdOf; rw [Int.toNat_natCast]
    have go : (inCut l cut i = true → Ahead l i j → inCut l cut j = true) → Ev (fun k => spec_CutIsWhole.l3 k y9 i row ((j + 1 : Nat) : Int) R R.length i) r := by
      intro hj1
      refine ih (j + 1) (by omega) (by omega) (fun h3 => h1 (fun hin k h4 h5 h6 => ?_)) (fun h3 => h2 ⟨h3.1, fun h4 => h3.2 (fun k h5 h6 h7 => h4 k (by omega) h6 h7)⟩)
      by_cases e : k = j
      · subst e; exact hj1 hin h6
      · exact h3 hin k (by omega) h5 h6
    have hun : ∀ k, spec_CutIsWhole.l3 (k + 1) y9 i row j R R.length i = if inCut l cut i = true then (if row.getD j false = true then (if inCut l cut j = true then spec_CutIsWhole.l3 k y9 i row ((j + 1 : Nat) : Int) R R.length i else some (false, true)) else spec_CutIsWhole.l3 k y9 i row ((j + 1 : Nat) : Int) R R.length i) else spec_CutIsWhole.l3 k y9 i row ((j + 1 : Nat) : Int) R R.length i := by
      intro k
      simp only [spec_CutIsWhole.l3]
      rw [wrap_small (x := (j : Int) + 1) (by omega) (by omega)]
      simp only [eb, hk9 i hi, hk9 j (by omega), show (j : Int) < (i : Int) from by omega, show (0 : Int) ≤ (i : Int) from by omega, show (i : Int) < (y9.length : Int) from by omega, show (0 : Int) ≤ (j : Int) from by omega, show (j : Int) < (row.length : Int) from by omega, show (j : Int) < (y9.length : Int) from by omega, if_true]
      rfl
    by_cases hin : inCut l cut i = true
    · by_cases ha : row.getD j false = true
      · by_cases hij : inCut l cut j = true
        · exact Ev.step (fun k => by rw [hun, if_pos hin, if_pos ha, if_pos hij]) (go (fun _ _ => hij))
        · have := h2 ⟨hin, fun h => hij (h j (Nat.le_refl _) (by omega) ((hrow j).1 ha))⟩
          subst this
          refine Ev.step (f := fun _ => some (false, true)) (fun k => ?_) (Ev.now _)
          rw [hun, if_pos hin, if_pos ha, if_neg hij]
      · exact Ev.step (fun k => by rw [hun, if_pos hin, if_neg ha]) (go (fun _ h => absurd ((hrow j).2 h) ha))
    · exact Ev.step (fun k => by rw [hun, if_neg hin]) (go (fun h => absurd h hin))

open Classical in
theorem spec_rows {l : List S57} (cut : List Int) (y9 : List Bool) (h9 : y9.length = l.length) (hk9 : ∀ k, k < l.length → y9.getD k false = inCut l cut k) (hn : l.length ≤ 1000) (R : List (List Bool)) (hRl : R.length = l.length) (hrl : ∀ k, k < l.length → (R.getD k []).length = l.length) (hrow : ∀ k, k < l.length → ∀ j, (R.getD k []).getD j false = true ↔ Ahead l k j) (r : Bool × Bool) (d : Nat) : ∀ i : Nat, i ≤ l.length → l.length - i = d →
    (r = (decide (WholeFrom l cut i), true)) → Ev (fun k => spec_CutIsWhole.l2 k y9 R R.length i) r := by
  induction d with
  | zero =>
    intro i hi hd hr
    subst hr
    rw [decide_eq_true (show WholeFrom l cut i from fun m h1 h2 => by omega)]
    refine Ev.step (f := fun _ => some (true, true)) (fun k => ?_) (Ev.now _)
    simp only [spec_CutIsWhole.l2]; rw [if_neg (by omega)]
  | succ d ih =>
    intro i hi hd hr
    have hil : i < l.length := by omega
    have e : rd_L6 R (i : Int) = R.getD i [] := by unfold rd_L6; rw [Int.toNat_natCast]
    have split_ : WholeFrom l cut i ↔ ((inCut l cut i = true → RestIn l cut i 0) ∧ WholeFrom l cut (i + 1)) := by
      constructor
      · intro h; exact ⟨fun h1 => h i (Nat.le_refl _) hil h1, fun m h1 h2 => h m (by omega) h2⟩
      · rintro ⟨h1, h2⟩ m h3 h4 h5
        by_cases e : m = i
        · subst e; exact h1 h5
        · exact h2 m (by omega) h4 h5
    have h0 := spec_row cut y9 h9 hk9 hn R hRl (R.getD i []) i hil (hrl i hil) (hrow i hil) r i 0 (by omega) rfl
      (fun h1 => ih (i + 1) (by omega) (by omega) (by rw [hr]; congr 1; rw [decide_eq_decide, split_]; exact ⟨fun h => h.2, fun h => ⟨h1, h⟩⟩))
      (fun h1 => by rw [hr]; congr 1; rw [decide_eq_false_iff_not, split_]; exact fun h => h1.2 (h.1 h1.1))
    refine Ev.step (fun k => ?_) h0
    simp only [spec_CutIsWhole.l2]; rw [if_pos (by omega), if_pos (by omega), if_pos (by omega), e]; rfl

/-- a vector is below the cut just where all that it counts is in the cut -/
theorem below_cut {p : Int} {l : List S57} (g : Good p l) (cut : List Int) (hcl : (cut.length : Int) = p) (hpos : ∀ q, q < cut.length → 0 ≤ cut.getD q 0) {m : Nat} (hm : m < l.length) {v : List Int} (hv : VecOK p l m v) :
    moreL v cut = false ↔ ∀ k, InS l m k → inCut l cut k = true := by
  have hvl := hv.len
  rw [more_iff _ _ (by omega)]
  constructor
  · intro h k hk
    have hkl : k < l.length := by have := inS_le hk; omega
    have hp := g.proc k hkl
    obtain ⟨q, hq⟩ : ∃ q : Nat, (q : Int) = pr l k := ⟨(pr l k).toNat, by omega⟩
    have h1 := (hv.mem k hkl hp.1 (by omega)).1 hk
    have h2 := h q (by omega)
    unfold inCut
    rw [decide_eq_true_eq, ← hq]
    rw [← hq] at h1
    unfold rd at h1 ⊢
    rw [Int.toNat_natCast] at h1 ⊢
    omega
  · intro h q hq
    have h3 := hpos q (by omega)
    rcases hv.top (q : Int) (by omega) (by omega) with h1 | ⟨k, hk, hkq, hr⟩
    · unfold rd at h1; rw [Int.toNat_natCast] at h1; omega
    · have h2 : InS l m k := (hv.mem k hk (by omega) (by omega)).2 (by rw [hkq]; omega)
      have h4 := h k h2
      unfold inCut at h4
      rw [decide_eq_true_eq, hkq] at h4
      unfold rd at h4 hr
      rw [Int.toNat_natCast] at h4 hr
      omega

open Classical in
theorem impl_rows {p : Int} {l : List S57} (g : Good p l) (cut : List Int) (hcl : (cut.length : Int) = p) (V : List (List Int)) (hVl : V.length = l.length) (hV : ∀ m, m < l.length → VecOK p l m (V.getD m [])) (d : Nat) : ∀ (i : Nat) (x8 : List Int) (w : Bool), i ≤ l.length → l.length - i = d → CountsAt p l i x8 →
    ((∀ q, q < cut.length → 0 ≤ cut.getD q 0) → (w = true ↔ ∀ m, m < i → inCut l cut m = true → ∀ k, InS l m k → inCut l cut k = true)) →
    Ev (fun k => impl_CutIsWhole.l0 k l cut x8 w V V.length i) (if cutOk l cut 0 cut.length = true then (decide (∀ m, m < l.length → inCut l cut m = true → ∀ k, InS l m k → inCut l cut k = true), true) else (false, false)) := by
  induction d with
  | zero =>
    intro i x8 w hi hd h8 hw
    have e : i = l.length := by omega
    subst e
    have h0 := impl_check g cut hcl x8 h8 w cut.length 0 (by omega) rfl
    have er : (if cutOk l cut 0 cut.length = true then (w, true) else (false, false)) = (if cutOk l cut 0 cut.length = true then (decide (∀ m, m < l.length → inCut l cut m = true → ∀ k, InS l m k → inCut l cut k = true), true) else (false, false)) := by
      by_cases hc : cutOk l cut 0 cut.length = true
      · rw [if_pos hc, if_pos hc]
        congr 1
        have := hw (fun q hq => cutOk_all l cut cut.length 0 hc q (by omega) (by omega))
        cases w with
        | true => exact (decide_eq_true (this.1 rfl)).symm
        | false => exact (decide_eq_false (fun h => Bool.noConfusion (this.2 h))).symm
      · rw [if_neg hc, if_neg hc]
    rw [er] at h0
    refine Ev.step (fun k => ?_) h0
    simp only [impl_CutIsWhole.l0]; rw [if_neg (by omega)]; rfl
  | succ d ih =>
    intro i x8 w hi hd h8 hw
    have hil : i < l.length := by omega
    have hp := g.proc i hil
    have h60 := g.len
    have hp6 := g.p6
    have hl8 := h8.1
    have hrk : rd x8 (pr l i) = (rank l i : Int) := h8.2 _ hp.1 (by omega)
    have hle := cntP_le l (pr l i) i
    have hrank : rank l i = cntP l (pr l i) i := rfl
    have e1 : (l.getD i z57).f0 = pr l i := rfl
    have e6 : rd_L3 V (i : Int) = V.getD i [] := by unfold rd_L3; rw [Int.toNat_natCast]
    have hst := counts_step g hil h8
    obtain ⟨y, hy⟩ : ∃ y, y = x8.set (pr l i).toNat (wrap64 (rd x8 (pr l i) + 1)) := ⟨_, rfl⟩
    rw [← hy] at hst
    have hyr : rd y (pr l i) = (rank l i : Int) + 1 := by
      rw [hst.2 _ hp.1 (by omega)]; simp only [cntP, if_true]; omega
    have hvi := hV i hil
    have hvl := hvi.len
    have hun : ∀ k, 100 < k → impl_CutIsWhole.l0 (k + 1) l cut x8 w V V.length i = impl_CutIsWhole.l0 k l cut y (w && (!inCut l cut i || !moreL (V.getD i []) cut)) V V.length ((i + 1 : Nat) : Int) := by
      intro k hk
      simp only [impl_CutIsWhole.l0]
      rw [if_pos (by omega), if_pos (by omega), if_pos (by omega), if_pos (by omega), rdS_at, e1, if_pos (by omega), if_pos (by omega), ← hy]
      simp only [Option.bind_some]
      rw [if_pos (by omega), hyr, wrap_next (n := l.length) (by omega) (by omega), e6, below_eq _ _ (by omega) (by omega) k (by omega)]
      simp only [Option.bind_some]
      unfold inCut
      by_cases hin : (rank l i : Int) < rd cut (pr l i)
      · rw [if_pos (by omega), decide_eq_true hin]
        cases w <;> simp
      · rw [if_neg (by omega), decide_eq_false hin]
        cases w <;> simp
    obtain ⟨K, hK⟩ := ih (i + 1) y (w && (!inCut l cut i || !moreL (V.getD i []) cut)) (by omega) (by omega) hst (fun hpos => by
      have hb := below_cut g cut hcl hpos hil hvi
      have hw0 := hw hpos
      constructor
      · intro h m hm hin k hk
        rw [Bool.and_eq_true, Bool.or_eq_true] at h
        by_cases e : m = i
        · subst e
          rcases h.2 with h2 | h2
          · rw [hin] at h2; cases h2
          · exact hb.1 (by simpa using h2) k hk
        · exact hw0.1 h.1 m (by omega) hin k hk
      · intro h
        rw [Bool.and_eq_true, Bool.or_eq_true]
        refine ⟨hw0.2 (fun m hm => h m (by omega)), ?_⟩
        cases hin : inCut l cut i with
        | false => exact .inl rfl
        | true => exact .inr (by rw [hb.2 (h i (by omega) hin)]; rfl))
    exact ⟨K + 102, fun k hk => by
      obtain ⟨m, rfl⟩ : ∃ m, k = m + 1 := ⟨k - 1, by omega⟩
      show impl_CutIsWhole.l0 (m + 1) l cut x8 w V V.length i = _
      rw [hun m (by omega)]
      exact hK m (by omega)⟩

theorem vec_cap {p : Int} {l : List S57} {i : Nat} {v : List Int} (hv : VecOK p l i v) (q : Int) (h0 : 0 ≤ q) (h1 : q < p) : rd v q ≤ cntP l q (i + 1) := by
  rcases hv.top q h0 h1 with h | ⟨k, hk, hq, hr⟩
  · omega
  · subst hq
    have h3 := inS_le ((hv.mem k hk h0 h1).2 (by omega))
    have h2 := cntP_lt l (pr l k) (show k < i + 1 by omega) rfl
    unfold rank at hr
    omega

def BytesIn (l : List Int) : Prop := ∀ x ∈ l, 0 ≤ x ∧ x ≤ 255
theorem bytesIn_of {l : List Int} (h : ∀ x ∈ l, (Lit.int .u8 x).wf = true) : BytesIn l := fun x hx => by
  have := h x hx
  simp only [Lit.wf, Bool.and_eq_true, decide_eq_true_eq] at this
  exact ⟨this.1, this.2⟩
theorem rd_byte {l : List Int} (h : BytesIn l) (i : Int) : 0 ≤ rd l i ∧ rd l i ≤ 255 := by
  unfold rd
  rw [List.getD_eq_getElem?_getD]
  by_cases c : i.toNat < l.length
  · rw [List.getElem?_eq_getElem c]; exact h _ (List.getElem_mem c)
  · rw [List.getElem?_eq_none (by omega)]; simp
theorem and_byte (x : Int) (h0 : 0 ≤ x) (h1 : x < 18446744073709551616) : 0 ≤ Go.bits .and .u64 x 255 ∧ Go.bits .and .u64 x 255 ≤ 255 := by
  rw [u64_and x 255 h0 h1 (by omega) (by omega)]
  have : x.toNat &&& (255 : Int).toNat ≤ (255 : Int).toNat := Nat.and_le_right
  simp only [Int.reduceToNat] at this ⊢
  omega
theorem u64_range (x : Int) : 0 ≤ IntKind.u64.wrap x ∧ IntKind.u64.wrap x < 18446744073709551616 := by rw [IntKind.wrap_u64]; omega
theorem and_wrap (y : Int) : 0 ≤ wrap64 (Go.bits .and .u64 (IntKind.u64.wrap y / 1099511627776) 255) ∧ wrap64 (Go.bits .and .u64 (IntKind.u64.wrap y / 1099511627776) 255) ≤ 255 := by
  have h := u64_range y
  have := and_byte (IntKind.u64.wrap y / 1099511627776) (by omega) (by omega)
  rw [wrap_small (by omega) (by omega)]; exact this
theorem next_b {l : List Int} (hb : BytesIn l) (s t : Int) (h0 : 0 ≤ s) (h1 : s ≤ 1000000000000) : ∃ v t', spec_l1Cur_next.f l s t = some (v, s + 1, t') ∧ 0 ≤ v ∧ v ≤ 255 := by
  unfold spec_l1Cur_next.f
  have hr := rd_byte hb s
  rw [wrap_small (x := s + 1) (by omega) (by omega), wrap_small (x := rd l s) (by omega) (by omega)]
  by_cases h : s < l.length
  · rw [if_pos h, if_pos h0, if_pos (by omega)]
    exact ⟨_, _, rfl, hr.1, hr.2⟩
  · rw [if_neg h, if_neg (by omega)]
    have := and_wrap (IntKind.u64.wrap (IntKind.u64.wrap (t * 6364136223846793005) + 0) + 1442695040888963407)
    exact ⟨_, _, rfl, this.1, this.2⟩
theorem pick_b {l : List Int} (hb : BytesIn l) (s t n : Int) (h0 : 0 ≤ s) (h1 : s ≤ 100000000000) (hn : n ≤ 70000) : ∃ v s' t', spec_l1Cur_pick.f l s t n = some (v, s', t') ∧ 0 ≤ v ∧ (v < n ∨ v = 0) ∧ s ≤ s' ∧ s' ≤ s + 2 := by
  unfold spec_l1Cur_pick.f
  by_cases c : n ≤ 1
  · rw [if_pos c]; exact ⟨_, _, _, rfl, by omega, .inr rfl, by omega, by omega⟩
  rw [if_neg c]
  obtain ⟨v, t', hv, hv0, hv1⟩ := next_b hb s t h0 (by omega)
  rw [hv]; simp only [Option.bind_some]
  by_cases c2 : n > 200
  · obtain ⟨u, t2, hu, hu0, hu1⟩ := next_b hb (s + 1) t' (by omega) (by omega)
    rw [if_pos c2, hu]; simp only [Option.bind_some]
    rw [if_neg (by omega), wrap_small (x := v * 256) (by omega) (by omega), wrap_small (x := v * 256 + u) (by omega) (by omega), Int.tmod_eq_emod_of_nonneg (by omega)]
    exact ⟨_, _, _, rfl, Int.emod_nonneg _ (by omega), .inl (Int.emod_lt_of_pos _ (by omega)), by omega, by omega⟩
  · rw [if_neg c2, if_neg (by omega), Int.tmod_eq_emod_of_nonneg hv0]
    exact ⟨_, _, _, rfl, Int.emod_nonneg _ (by omega), .inl (Int.emod_lt_of_pos _ (by omega)), by omega, by omega⟩
theorem one_b {l : List Int} (hb : BytesIn l) (s t n : Int) (h0 : 0 ≤ s) (h1 : s ≤ 100000000000) (hn : n ≤ 70000) : ∃ v s' t', spec_l1Cur_one.f l s t n = some (v, s', t') ∧ s ≤ s' ∧ s' ≤ s + 2 := by
  obtain ⟨v, s', t', h, _, _, h2, h3⟩ := pick_b hb s t n h0 h1 hn
  unfold spec_l1Cur_one.f
  rw [h]; exact ⟨_, _, _, rfl, h2, h3⟩

theorem procs_b {l : List Int} (hb : BytesIn l) (s t : Int) (h0 : 0 ≤ s) (h1 : s ≤ 100000000) : ∃ v s' t', spec_l1Cur_procs.f l s t = some (v, s', t') ∧ 1 ≤ v ∧ v ≤ 7 ∧ s ≤ s' ∧ s' ≤ s + 4 := by
  unfold spec_l1Cur_procs.f
  obtain ⟨o, s1, t1, ho, h2, h3⟩ := one_b hb s t 40 h0 (by omega) (by omega)
  rw [ho]; simp only [Option.bind_some]
  cases o with
  | true =>
    obtain ⟨v, s2, t2, hv, hv0, hv1, h4, h5⟩ := pick_b hb s1 t1 2 (by omega) (by omega) (by omega)
    rw [if_pos rfl]
    unfold spec_l1Cur_among.f
    rw [show ((([6, 7] : List Int).length : Nat) : Int) = 2 from rfl, hv]; simp only [Option.bind_some]
    rw [if_pos hv0, if_pos (by omega)]
    obtain rfl | rfl : v = 0 ∨ v = 1 := by omega
    · exact ⟨6, s2, t2, rfl, by omega, by omega, by omega, by omega⟩
    · exact ⟨7, s2, t2, rfl, by omega, by omega, by omega, by omega⟩
  | false =>
    obtain ⟨v, s2, t2, hv, hv0, hv1, h4, h5⟩ := pick_b hb s1 t1 4 (by omega) (by omega) (by omega)
    rw [if_neg (by decide), hv]; simp only [Option.bind_some]
    rw [wrap_small (by omega) (by omega)]
    exact ⟨_, _, _, rfl, by omega, by omega, by omega, by omega⟩
def ProcIn (p : Int) (x : List S57) : Prop := ∀ a ∈ x, 0 ≤ a.f0 ∧ a.f0 < p
theorem ProcIn.snoc {p : Int} {x : List S57} (h : ProcIn p x) {v f : Int} (h0 : 0 ≤ v) (h1 : v < p) : ProcIn p (x ++ [⟨v, f⟩]) := fun a ha => by
  rcases List.mem_append.1 ha with ha | ha
  · exact h a ha
  · rw [List.mem_singleton.1 ha]; exact ⟨h0, h1⟩
theorem acts_loop {l : List Int} (hb : BytesIn l) {p : Int} (hp1 : 1 ≤ p) (hp7 : p ≤ 7) (d : Nat) : ∀ (n : Int) (x : List S57) (s t : Int), n.toNat = d → x.length + d ≤ 100 → ProcIn p x → 0 ≤ s → s + 10 * d ≤ 1000000 →
    ∃ y s' t', Ev (fun k => spec_l1Cur_acts.l0 k p x n l s t) (y, s', t') ∧ ProcIn p y ∧ y.length = x.length + d ∧ 0 ≤ s' ∧ s' ≤ s + 10 * d := by
  induction d with
  | zero =>
    intro n x s t hn hx hi h0 h1
    refine ⟨x, s, t, Ev.step (f := fun _ => some (x, s, t)) (fun k => ?_) (Ev.now _), hi, by omega, h0, by omega⟩
    simp only [spec_l1Cur_acts.l0]; rw [if_neg (by omega)]
  | succ d ih =>
    intro n x s t hn hx hi h0 h1
    obtain ⟨v, s1, t1, hv, hv0, hv1, h2, h3⟩ := pick_b hb s t p h0 (by omega) (by omega)
    have hvp : v < p := by omega
    have hw : wrap64 (n - 1) = n - 1 := wrap_small (by omega) (by omega)
    have next : ∀ (f s2 t2 : Int), s1 ≤ s2 → s2 ≤ s1 + 6 → ∃ y s' t', Ev (fun k => spec_l1Cur_acts.l0 k p (x ++ [⟨v, f⟩]) (n - 1) l s2 t2) (y, s', t') ∧ ProcIn p y ∧ y.length = x.length + (d + 1) ∧ 0 ≤ s' ∧ s' ≤ s + 10 * ((d + 1 : Nat) : Int) := fun f s2 t2 g1 g2 => by
      obtain ⟨y, s3, t3, e1, e2, e3, e4, e5⟩ := ih (n - 1) (x ++ [⟨v, f⟩]) s2 t2 (by omega) (by simp; omega) (hi.snoc hv0 hvp) (by omega) (by omega)
      exact ⟨y, s3, t3, e1, e2, by rw [e3]; simp; omega, e4, by omega⟩
    have plain : ∀ s2 t2 : Int, s1 ≤ s2 → s2 ≤ s1 + 6 → ∃ y s' t', Ev (fun k => spec_l1Cur_acts.j2 k p x n false l s2 t2 v (-1)) (y, s', t') ∧ ProcIn p y ∧ y.length = x.length + (d + 1) ∧ 0 ≤ s' ∧ s' ≤ s + 10 * ((d + 1 : Nat) : Int) := fun s2 t2 g1 g2 => by
      obtain ⟨y, s3, t3, e1, e2⟩ := next (-1) s2 t2 g1 g2
      refine ⟨y, s3, t3, Ev.step (fun k => ?_) e1, e2⟩
      simp only [spec_l1Cur_acts.j2]; rw [if_neg (by decide), if_pos (by omega), hw]
    by_cases c : (x.length : Int) > 0
    · obtain ⟨o, s2, t2, ho, h4, h5⟩ := one_b hb s1 t1 2 (by omega) (by omega) (by omega)
      have key : ∀ r, Ev (fun k => spec_l1Cur_acts.j2 k p x n o l s2 t2 v (-1)) r → Ev (fun k => spec_l1Cur_acts.l0 k p x n l s t) r := fun r hr => Ev.step (fun k => by
        simp only [spec_l1Cur_acts.l0]; rw [if_pos (by omega), hv]; simp only [Option.bind_some]; rw [if_pos c, ho]; simp only [Option.bind_some]) hr
      cases o with
      | false =>
        obtain ⟨y, s3, t3, e1, e2⟩ := plain s2 t2 (by omega) (by omega)
        exact ⟨y, s3, t3, key _ e1, e2⟩
      | true =>
        obtain ⟨q, s3, t3, hq, hq0, hq1, h6, h7⟩ := pick_b hb s2 t2 (x.length : Int) (by omega) (by omega) (by omega)
        have hqw : wrap64 (wrap64 ((x.length : Int) - 1) - q) = (x.length : Int) - 1 - q := by rw [wrap_small (x := (x.length : Int) - 1) (by omega) (by omega), wrap_small (by omega) (by omega)]
        by_cases cp : (rd_T57 x ((x.length : Int) - 1 - q)).f0 = v
        · obtain ⟨o3, s4, t4, ho3, h8, h9⟩ := one_b hb s3 t3 30 (by omega) (by omega) (by omega)
          cases o3 with
          | true =>
            obtain ⟨y, s5, t5, e1, e2⟩ := next ((x.length : Int) - 1 - q) s4 t4 (by omega) (by omega)
            refine ⟨y, s5, t5, key _ (Ev.step (fun k => ?_) e1), e2⟩
            simp only [spec_l1Cur_acts.j2, if_true]; rw [hq]; simp only [Option.bind_some]; rw [hqw, if_pos (by omega), if_pos (by omega), if_pos cp, ho3]; simp only [Option.bind_some, if_true]; rw [if_pos (by omega), hw]
          | false =>
            obtain ⟨y, s5, t5, e1, e2⟩ := next (-1) s4 t4 (by omega) (by omega)
            refine ⟨y, s5, t5, key _ (Ev.step (fun k => ?_) e1), e2⟩
            simp only [spec_l1Cur_acts.j2, if_true]; rw [hq]; simp only [Option.bind_some]; rw [hqw, if_pos (by omega), if_pos (by omega), if_pos cp, ho3]; simp only [Option.bind_some]; rw [if_neg (by decide), if_pos (by omega), hw]
        · obtain ⟨y, s5, t5, e1, e2⟩ := next ((x.length : Int) - 1 - q) s3 t3 (by omega) (by omega)
          refine ⟨y, s5, t5, key _ (Ev.step (fun k => ?_) e1), e2⟩
          simp only [spec_l1Cur_acts.j2, if_true]; rw [hq]; simp only [Option.bind_some]; rw [hqw, if_pos (by omega), if_pos (by omega), if_neg cp, if_pos (by omega), hw]
    · obtain ⟨y, s3, t3, e1, e2⟩ := plain s1 t1 (by omega) (by omega)
      refine ⟨y, s3, t3, Ev.step (fun k => ?_) e1, e2⟩
      simp only [spec_l1Cur_acts.l0]; rw [if_pos (by omega), hv]; simp only [Option.bind_some]; rw [if_neg c]
theorem acts_b {l : List Int} (hb : BytesIn l) {p : Int} (hp1 : 1 ≤ p) (hp7 : p ≤ 7) (s t : Int) (h0 : 0 ≤ s) (h1 : s ≤ 1000) : ∃ y s' t', Ev (fun k => spec_l1Cur_acts.f k l s t p) (y, s', t') ∧ ProcIn p y ∧ y.length ≤ 61 ∧ 0 ≤ s' ∧ s' ≤ 3000 := by
  obtain ⟨v, s1, t1, hv, hv0, hv1, h2, h3⟩ := pick_b hb s t 16 h0 (by omega) (by omega)
  obtain ⟨o, s2, t2, ho, h4, h5⟩ := one_b hb s1 t1 20 (by omega) (by omega) (by omega)
  cases o with
  | true =>
    obtain ⟨u, s3, t3, hu, hu0, hu1, h6, h7⟩ := pick_b hb s2 t2 2 (by omega) (by omega) (by omega)
    obtain ⟨y, s4, t4, ⟨K, hK⟩, e2, e3, e4, e5⟩ := acts_loop hb hp1 hp7 (60 + u).toNat (60 + u) [] s3 t3 rfl (by simp; omega) (fun a ha => by cases ha) (by omega) (by omega)
    refine ⟨y, s4, t4, ⟨K + 1, fun k hk => ?_⟩, e2, by rw [e3]; simp; omega, e4, by omega⟩
    obtain ⟨k, rfl⟩ : ∃ m, k = m + 1 := ⟨k - 1, by omega⟩
    show spec_l1Cur_acts.f (k + 1) l s t p = _
    unfold spec_l1Cur_acts.f
    rw [hv]; simp only [Option.bind_some]; rw [ho]; simp only [Option.bind_some, if_true]; rw [hu]; simp only [Option.bind_some, spec_l1Cur_acts.j0]; rw [wrap_small (by omega) (by omega)]
    exact hK k (by omega)
  | false =>
    obtain ⟨y, s4, t4, ⟨K, hK⟩, e2, e3, e4, e5⟩ := acts_loop hb hp1 hp7 v.toNat v [] s2 t2 rfl (by simp; omega) (fun a ha => by cases ha) (by omega) (by omega)
    refine ⟨y, s4, t4, ⟨K + 1, fun k hk => ?_⟩, e2, by rw [e3]; simp; omega, e4, by omega⟩
    obtain ⟨k, rfl⟩ : ∃ m, k = m + 1 := ⟨k - 1, by omega⟩
    show spec_l1Cur_acts.f (k + 1) l s t p = _
    unfold spec_l1Cur_acts.f
    rw [hv]; simp only [Option.bind_some]; rw [ho]; simp only [Option.bind_some]; rw [if_neg (by decide)]; simp only [spec_l1Cur_acts.j0]
    exact hK k (by omega)

open Classical in
/-- what both say of a cut -/
theorem cut_info (p : Int) (l : List S57) (cut : List Int) (hl : l.length ≤ 1048576) (hc : cut.length ≤ 1048576) : ∃ r : Bool × Bool, ∃ K, r = (if goodB p l = true ∧ (cut.length : Int) = p ∧ cutOk l cut 0 cut.length = true then (decide (WholeFrom l cut 0), true) else (false, false)) ∧ ∀ k, K ≤ k → spec_CutIsWhole.f k p l cut = some r ∧ impl_CutIsWhole.f k p l cut = some r := by
  cases hg : goodB p l with
  | false =>
    refine ⟨(false, false), l.length + 10, by simp, fun k hk => ?_⟩
    obtain ⟨m, rfl⟩ : ∃ m, k = m + 1 := ⟨k - 1, by omega⟩
    unfold spec_CutIsWhole.f impl_CutIsWhole.f; rw [spec_good p l hl _ (by omega), impl_good p l hl _ (by omega), hg]; exact ⟨rfl, rfl⟩
  | true =>
    have g := good_of p l hg
    have h60 := g.len
    have hp1 := g.p1
    have hp6 := g.p6
    by_cases hcl : (cut.length : Int) = p
    · have h0 : CountsAt p l 0 (List.replicate p.toNat 0) := ⟨by simp; omega, fun q _ _ => by rw [rd_zeros]; rfl⟩
      have whole : (∀ m, m < l.length → inCut l cut m = true → ∀ k, InS l m k → inCut l cut k = true) ↔ WholeFrom l cut 0 := by
        constructor
        · intro h m _ hm hin k _ _ ha
          exact h m hm hin k (.inr ha)
        · intro h m hm hin k hk
          rcases hk with hk | hk
          · rw [hk]; exact hin
          · exact h m (by omega) hm hin k (by omega) (ahead_lt m k hk) hk
      obtain ⟨r, hr⟩ : ∃ r : Bool × Bool, r = (if cutOk l cut 0 cut.length = true then (decide (WholeFrom l cut 0), true) else (false, false)) := ⟨_, rfl⟩
      obtain ⟨R, hR, hR1, hR2, hR3⟩ := ahead_rows l (by omega)
      obtain ⟨K1, hK1⟩ := cut_fill g cut hcl r l.length 0 (List.replicate p.toNat 0) (List.replicate l.length false) (by omega) (by omega) h0 (by simp) (fun k hk => by omega)
        (fun y8 y9 h8 h9 hk9 => spec_check g cut hcl y8 h8 y9 r cut.length 0 (by omega) rfl
          (fun hok => Ev.bind (f := fun k t => spec_CutIsWhole.l2 k y9 t (t.length : Int) 0) hR (spec_rows cut y9 h9 hk9 (by omega) R hR1 hR2 hR3 r l.length 0 (by omega) (by omega) (by rw [hr, if_pos hok])))
          (fun hok => by rw [hr, if_neg (by rw [hok]; decide)]))
      replace hK1 : ∀ k, K1 ≤ k → spec_CutIsWhole.l0 k l cut (List.replicate p.toNat 0) (List.replicate l.length false) l l.length ((0 : Nat) : Int) = some r := hK1
      obtain ⟨V, hV, hVl, hVok⟩ := vecs_ok g 101 (by omega)
      have hV' : ∀ k, 101 ≤ k → impl_vectors.f k p l = some V := fun k hk => at_rounds (g := fun q => impl_vectors.f q p l) (fun q => impl_vectors.mono _ _ q) hk hV
      obtain ⟨K2, hK2⟩ := impl_rows g cut hcl V hVl hVok l.length 0 (List.replicate p.toNat 0) true (by omega) (by omega) h0 (fun _ => ⟨fun _ m hm => by omega, fun _ => rfl⟩)
      have er : (if cutOk l cut 0 cut.length = true then (decide (∀ m, m < l.length → inCut l cut m = true → ∀ k, InS l m k → inCut l cut k = true), true) else (false, false)) = r := by
        rw [hr]
        congr 2
        rw [decide_eq_decide]; exact whole
      rw [er] at hK2
      replace hK2 : ∀ k, K2 ≤ k → impl_CutIsWhole.l0 k l cut (List.replicate p.toNat 0) true V V.length ((0 : Nat) : Int) = some r := hK2
      have hne : ((cut.length : Int) != p) = false := bne_eq_false_iff_eq.2 hcl
      refine ⟨r, K1 + K2 + l.length + 300, by rw [hr]; simp [hcl], fun k hk => ?_⟩
      obtain ⟨m, rfl⟩ : ∃ m, k = m + 1 := ⟨k - 1, by omega⟩
      constructor
      · unfold spec_CutIsWhole.f
        rw [spec_good p l hl _ (by omega), hg]
        simp only [Option.bind_some, if_true, spec_CutIsWhole.j0, hne, Bool.false_eq_true, if_false]
        rw [if_pos (by omega), if_pos (by omega), if_pos (by omega), if_pos (by omega), Int.toNat_natCast]
        exact hK1 m (by omega)
      · unfold impl_CutIsWhole.f
        rw [impl_good p l hl _ (by omega), hg]
        simp only [Option.bind_some, if_true, impl_CutIsWhole.j0, hne, Bool.false_eq_true, if_false]
        rw [if_pos (by omega), if_pos (by omega), hV' m (by omega)]
        exact hK2 m (by omega)
    · have hne : ((cut.length : Int) != p) = true := bne_iff_ne.2 hcl
      refine ⟨(false, false), l.length + 10, by simp [hcl], fun k hk => ?_⟩
      obtain ⟨m, rfl⟩ : ∃ m, k = m + 1 := ⟨k - 1, by omega⟩
      unfold spec_CutIsWhole.f impl_CutIsWhole.f
      rw [spec_good p l hl _ (by omega), impl_good p l hl _ (by omega), hg, hne]
      exact ⟨rfl, rfl⟩
/-- no message comes from without to what is ahead of place i -/
def FromOk (l : List S57) (cut : List Int) (i : Nat) : Prop := ∀ m, m < i → inCut l cut m = true → fm l m < 0 ∨ inCut l cut (fm l m).toNat = true
theorem from_whole {p : Int} {l : List S57} (g : Good p l) (cut : List Int) : FromOk l cut l.length ↔ WholeFrom l cut 0 := by
  constructor
  · intro h m
    induction m using Nat.strongRecOn with
    | ind m ih =>
      intro h0 hm hin k hk0 hkm ha
      obtain ⟨q, hq, hkq⟩ := (ahead_iff l m k).1 ha
      have hqm := hq.1
      have hinq : inCut l cut q = true := by
        rcases hq.2 with h1 | h1
        · unfold inCut at hin ⊢
          rw [decide_eq_true_eq] at hin ⊢
          rw [h1]
          have : cntP l (pr l q) q < cntP l (pr l q) m := cntP_lt l (pr l q) hqm rfl
          unfold rank at hin ⊢
          rw [← h1] at hin ⊢
          omega
        · rcases h m hm hin with h2 | h2
          · omega
          · rwa [← h1, Int.toNat_natCast] at h2
      rcases hkq with rfl | hkq
      · exact hinq
      · exact ih q hqm (by omega) (by omega) hinq k (by omega) (ahead_lt q k hkq) hkq
  · intro h m hm hin
    by_cases c : fm l m < 0
    · exact .inl c
    · have hf := g.frm m hm
      obtain ⟨hn, e⟩ := next_from g hm (by omega)
      exact .inr (h m (by omega) hm hin _ (by omega) hn.1 (ahead_next hn))
theorem number_loop {l : List Int} (hb : BytesIn l) (hn : l.length ≤ 1048576) (d : Nat) : ∀ (k j : Nat) (x : Int), 0 ≤ x → x < 1000003 → j ≤ l.length → l.length - j = d → d < k → ∃ v, laws_numberOf.l0 k x l l.length j = some v ∧ 0 ≤ v := by
  induction d with
  | zero =>
    intro k j x h0 h1 hj hd hk
    obtain ⟨k, rfl⟩ : ∃ m, k = m + 1 := ⟨k - 1, by omega⟩
    exact ⟨x, by simp only [laws_numberOf.l0]; rw [if_neg (by omega)], h0⟩
  | succ d ih =>
    intro k j x h0 h1 hj hd hk
    obtain ⟨k, rfl⟩ : ∃ m, k = m + 1 := ⟨k - 1, by omega⟩
    have hr := rd_byte hb (j : Int)
    have e : Int.tmod (wrap64 (wrap64 (31 * x) + wrap64 (rd l (j : Int)))) 1000003 = (31 * x + rd l (j : Int)) % 1000003 := by
      rw [wrap_small (x := 31 * x) (by omega) (by omega), wrap_small (x := rd l (j : Int)) (by omega) (by omega), wrap_small (by omega) (by omega), Int.tmod_eq_emod_of_nonneg (by omega)]
    obtain ⟨v, hv, hv0⟩ := ih k (j + 1) ((31 * x + rd l (j : Int)) % 1000003) (by omega) (by omega) (by omega) (by omega) (by omega)
    exact ⟨v, by simp only [laws_numberOf.l0]; rw [if_pos (by omega), if_pos (by omega), if_pos (by omega), e, wrap_next (n := l.length) (by omega) (by omega)]; exact hv, hv0⟩
theorem number_some {l : List Int} (hb : BytesIn l) (hn : l.length ≤ 1048576) (k : Nat) (hk : 1048576 < k) : ∃ v, laws_numberOf.f k l = some v ∧ 0 ≤ v := by
  unfold laws_numberOf.f
  exact number_loop hb hn l.length k 0 0 (by omega) (by omega) (by omega) (by omega) (by omega)
/-- an act's own vector is a whole cut -/
theorem vec_whole {p : Int} {l : List S57} (g : Good p l) {i : Nat} (hi : i < l.length) {v : List Int} (hv : VecOK p l i v) : cutOk l v 0 v.length = true ∧ WholeFrom l v 0 := by
  have hp6 := g.p6
  have hvl := hv.len
  constructor
  · have key : ∀ d j, j + d = v.length → cutOk l v j d = true := by
      intro d
      induction d with
      | zero => intro j _; rfl
      | succ d ih =>
        intro j hj
        have h1 := hv.pos (j : Int) (by omega) (by omega)
        have h2 := vec_cap hv (j : Int) (by omega) (by omega)
        have h3 := cntP_mono l (j : Int) (show i + 1 ≤ l.length by omega)
        unfold rd at h1 h2
        rw [Int.toNat_natCast] at h1 h2
        simp only [cutOk]
        rw [decide_eq_true (show 0 ≤ v.getD j 0 ∧ v.getD j 0 ≤ (cntP l (j : Int) l.length : Int) by omega), ih (j + 1) (by omega)]; rfl
    exact key v.length 0 (by omega)
  · intro m _ hm hin k _ hkm ha
    have hpm := g.proc m hm
    have hkl : k < l.length := by omega
    have hpk := g.proc k hkl
    unfold inCut at hin ⊢
    rw [decide_eq_true_eq] at hin ⊢
    have h1 : InS l i m := (hv.mem m hm hpm.1 (by omega)).2 hin
    exact (hv.mem k hkl hpk.1 (by omega)).1 (inS_trans h1 (.inr ha))
open Classical in
theorem cuts_end {c2 : List Int} (hb2 : BytesIn c2) (hc2 : c2.length ≤ 1048576) {p : Int} {l : List S57} (hg : goodB p l = true) (cut : List Int) (w : Bool) (hw : w = decide (WholeFrom l cut 0)) (x12 : List Int) (x13 : List Bool) (x14 : Bool) (h14 : x14 = true ↔ FromOk l cut l.length) :
    Ev (fun k => laws_FnCuts.l0 k c2 p l cut w x12 x13 x14 l l.length l.length) true := by
  have g := good_of p l hg
  have h60 := g.len
  have hp6 := g.p6
  have hww : (w != x14) = false := by
    rw [hw]
    have := from_whole g cut
    cases x14 with
    | true => rw [decide_eq_true (this.1 (h14.1 rfl))]; rfl
    | false => rw [decide_eq_false (fun h => Bool.noConfusion (h14.2 (this.2 h)))]; rfl
  by_cases hl0 : (l.length : Int) = 0
  · refine Ev.step (f := fun _ => some true) (fun k => ?_) (Ev.now _)
    simp only [laws_FnCuts.l0]; rw [if_neg (by omega), hww, if_neg (by decide), if_pos hl0]
  obtain ⟨V, hV, hVl, hVok⟩ := vecs_ok g 101 (by omega)
  have hV' : ∀ k, 101 ≤ k → impl_vectors.f k p l = some V := fun k hk => at_rounds (g := fun q => impl_vectors.f q p l) (fun q => impl_vectors.mono _ _ q) hk hV
  obtain ⟨v, hv1, hv0⟩ := number_some hb2 hc2 1048577 (by omega)
  have hv : ∀ k, 1048577 ≤ k → laws_numberOf.f k c2 = some v := fun k hk => at_rounds (g := fun q => laws_numberOf.f q c2) (fun q => laws_numberOf.mono _ q) hk hv1
  obtain ⟨i, hi⟩ : ∃ i : Nat, (i : Int) = Int.tmod v (l.length : Int) := ⟨(Int.tmod v (l.length : Int)).toNat, by rw [Int.tmod_eq_emod_of_nonneg hv0]; have := Int.emod_nonneg v (show (l.length : Int) ≠ 0 by omega); omega⟩
  have hil : i < l.length := by
    rw [Int.tmod_eq_emod_of_nonneg hv0] at hi
    have := Int.emod_lt_of_pos v (show (0 : Int) < l.length by omega)
    omega
  have hvi := hVok i hil
  have hvl := hvi.len
  obtain ⟨r, K, hr, hK⟩ := cut_info p l (V.getD i []) (by omega) (by omega)
  obtain ⟨h1, h2⟩ := vec_whole g hil hvi
  rw [if_pos ⟨hg, hvl, h1⟩, decide_eq_true h2] at hr
  subst hr
  have e : rd_L3 V (i : Int) = V.getD i [] := by unfold rd_L3; rw [Int.toNat_natCast]
  refine ⟨K + 1048600, fun k hk => ?_⟩
  obtain ⟨k, rfl⟩ : ∃ m, k = m + 1 := ⟨k - 1, by omega⟩
  show laws_FnCuts.l0 (k + 1) c2 p l cut w x12 x13 x14 l l.length l.length = some true
  simp only [laws_FnCuts.l0]
  rw [if_neg (by omega), hww, if_neg (by decide), if_neg hl0]
  unfold impl_VectorsOf.f
  rw [impl_good p l (by omega) _ (by omega), hg]; simp only [Option.bind_some, if_true]
  rw [hV' k (by omega)]; simp only [Option.bind_some, if_true]
  rw [hv k (by omega)]; simp only [Option.bind_some]
  rw [← hi, if_pos (by omega), if_pos (by omega), e, (hK k (by omega)).2]; rfl
theorem cuts_loop {c2 : List Int} (hb2 : BytesIn c2) (hc2 : c2.length ≤ 1048576) {p : Int} {l : List S57} (hg : goodB p l = true) (cut : List Int) (hcl : (cut.length : Int) = p) (w : Bool) (d : Nat) : ∀ (i : Nat) (x12 : List Int) (x13 : List Bool) (x14 : Bool), i ≤ l.length → l.length - i = d → CountsAt p l i x12 → x13.length = l.length → (∀ k, k < i → x13.getD k false = inCut l cut k) → (x14 = true ↔ FromOk l cut i) →
    (∀ (x12 : List Int) (x13 : List Bool) (x14 : Bool), (x14 = true ↔ FromOk l cut l.length) → Ev (fun k => laws_FnCuts.l0 k c2 p l cut w x12 x13 x14 l l.length l.length) true) →
    Ev (fun k => laws_FnCuts.l0 k c2 p l cut w x12 x13 x14 l l.length i) true := by
  have g := good_of p l hg
  have h60 := g.len
  have hp6 := g.p6
  induction d with
  | zero =>
    intro i x12 x13 x14 hi hd h12 h13 hf h14 hend
    obtain rfl : i = l.length := by omega
    exact hend x12 x13 x14 h14
  | succ d ih =>
    intro i x12 x13 x14 hi hd h12 h13 hf h14 hend
    have hil : i < l.length := by omega
    have hp := g.proc i hil
    have hfr := g.frm i hil
    have hl12 := h12.1
    have hrk : rd x12 (pr l i) = (rank l i : Int) := h12.2 _ hp.1 (by omega)
    have e0 : (rd_T57 l (i : Int)).f0 = pr l i := by rw [rdS_at]; rfl
    have e1 : (rd_T57 l (i : Int)).f1 = fm l i := by rw [rdS_at]; rfl
    have hst := counts_step g hil h12
    obtain ⟨y, hy⟩ : ∃ y, y = x13.set i (inCut l cut i) := ⟨_, rfl⟩
    have hyl : y.length = l.length := by rw [hy, List.length_set]; exact h13
    have hyk : ∀ k, k < i + 1 → y.getD k false = inCut l cut k := fun k hk => by
      rw [hy, getD_set _ _ _ _ _ (by omega)]
      by_cases c : k = i
      · rw [if_pos c, c]
      · rw [if_neg c]; exact hf k (by omega)
    have hdec : decide (rd x12 (pr l i) < rd cut (pr l i)) = inCut l cut i := by rw [hrk]; rfl
    have hyi : rdOf false y (i : Int) = inCut l cut i := by rw [rdOf_at]; exact hyk i (by omega)
    have key : ∀ b : Bool, (b = true ↔ FromOk l cut (i + 1)) → (∀ k, laws_FnCuts.l0 (k + 1) c2 p l cut w x12 x13 x14 l l.length i = laws_FnCuts.l0 k c2 p l cut w (x12.set (pr l i).toNat (wrap64 (rd x12 (pr l i) + 1))) y b l l.length ((i + 1 : Nat) : Int)) → Ev (fun k => laws_FnCuts.l0 k c2 p l cut w x12 x13 x14 l l.length i) true := fun b hb hk =>
      Ev.step hk (ih (i + 1) _ y b (by omega) (by omega) hst hyl hyk hb hend)
    have hun : ∀ k, laws_FnCuts.l0 (k + 1) c2 p l cut w x12 x13 x14 l l.length i = (if x14 = true then (if inCut l cut i = true then (if fm l i < 0 then (laws_FnCuts.l0 k c2 p l cut w (x12.set (pr l i).toNat (wrap64 (rd x12 (pr l i) + 1))) y true l l.length ((i + 1 : Nat) : Int)) else (if 0 ≤ fm l i then (if fm l i < (x13.length : Int) then (laws_FnCuts.l0 k c2 p l cut w (x12.set (pr l i).toNat (wrap64 (rd x12 (pr l i) + 1))) y (rdOf false y (fm l i)) l l.length ((i + 1 : Nat) : Int)) else none) else none)) else (laws_FnCuts.l0 k c2 p l cut w (x12.set (pr l i).toNat (wrap64 (rd x12 (pr l i) + 1))) y true l l.length ((i + 1 : Nat) : Int))) else (laws_FnCuts.l0 k c2 p l cut w (x12.set (pr l i).toNat (wrap64 (rd x12 (pr l i) + 1))) y false l l.length ((i + 1 : Nat) : Int))) := fun k => by
      simp only [laws_FnCuts.l0, Option.bind_some]
      rw [if_pos (by omega), if_pos (by omega), if_pos (by omega), e0, e1, if_pos (by omega), if_pos (by omega), if_pos (by omega), if_pos (by omega), hdec, Int.toNat_natCast, ← hy, hyi, wrap_next hil (by omega)]
    have split_ : FromOk l cut (i + 1) ↔ (FromOk l cut i ∧ (inCut l cut i = true → fm l i < 0 ∨ inCut l cut (fm l i).toNat = true)) := by
      constructor
      · intro h; exact ⟨fun m hm => h m (by omega), fun h1 => h i (by omega) h1⟩
      · rintro ⟨h1, h2⟩ m hm h3
        by_cases c : m = i
        · subst c; exact h2 h3
        · exact h1 m (by omega) h3
    cases x14 with
    | false =>
      refine key false ?_ (fun k => by rw [hun, if_neg (by decide)])
      rw [split_]
      constructor
      · intro h; cases h
      · intro h; exact h14.2 h.1
    | true =>
      have h14' := h14.1 rfl
      by_cases c1 : inCut l cut i = true
      · by_cases c2 : fm l i < 0
        · exact key true (by rw [split_]; exact ⟨fun _ => ⟨h14', fun _ => .inl c2⟩, fun _ => rfl⟩) (fun k => by rw [hun, if_pos rfl, if_pos c1, if_pos c2])
        · obtain ⟨q, hq⟩ := Int.eq_ofNat_of_zero_le (show 0 ≤ fm l i by omega)
          refine key (inCut l cut q) ?_ (fun k => by rw [hun, if_pos rfl, if_pos c1, if_neg c2, if_pos (by omega), if_pos (by omega), hq, rdOf_at, hyk q (by omega)])
          rw [split_, hq]
          constructor
          · intro h; exact ⟨h14', fun _ => .inr (by simpa using h)⟩
          · rintro ⟨_, h⟩
            rcases h c1 with h | h
            · omega
            · simpa using h
      · exact key true (by rw [split_]; exact ⟨fun _ => ⟨h14', fun h => absurd h c1⟩, fun _ => rfl⟩) (fun k => by rw [hun, if_pos rfl, if_neg c1])
theorem drawcut_l1 {c : List Int} (hb : BytesIn c) (p : Int) (l : List S57) (hp1 : 1 ≤ p) (m : List Int) (hm : (m.length : Int) = p) (hp7 : p ≤ 7) (hmr : ∀ j, 0 ≤ m.getD j 0 ∧ m.getD j 0 ≤ 1000) (d : Nat) : ∀ (j : Nat) (x : List Int) (s t : Int), j ≤ m.length → m.length - j = d → x.length = j → 0 ≤ s → s + 2 * d ≤ 1000000 →
    ∃ cut : List Int, cut.length = m.length ∧ Ev (fun k => spec_DrawCutIsWhole.l1 k p l x m m.length j c s t) (p, l, cut) := by
  induction d with
  | zero =>
    intro j x s t hj hd hx h0 h1
    obtain ⟨o, s1, t1, ho, _, _⟩ := one_b hb s t 20 h0 (by omega) (by omega)
    cases o with
    | true =>
      refine ⟨x.set 0 (wrap64 (rd x 0 + 9)), by rw [List.length_set]; omega, Ev.step (f := fun _ => some (p, l, x.set 0 (wrap64 (rd x 0 + 9)))) (fun k => ?_) (Ev.now _)⟩
      simp only [spec_DrawCutIsWhole.l1]; rw [if_neg (by omega), ho]; simp only [Option.bind_some, if_true]; rw [if_pos (by omega)]; rfl
    | false =>
      refine ⟨x, by omega, Ev.step (f := fun _ => some (p, l, x)) (fun k => ?_) (Ev.now _)⟩
      simp only [spec_DrawCutIsWhole.l1]; rw [if_neg (by omega), ho]; simp only [Option.bind_some]; rw [if_neg (by decide)]
  | succ d ih =>
    intro j x s t hj hd hx h0 h1
    have hr := hmr j
    have hw : wrap64 (rd m (j : Int) + 1) = m.getD j 0 + 1 := by rw [rd_at, wrap_small (by omega) (by omega)]
    obtain ⟨v, s1, t1, hv, _, _, h2, h3⟩ := pick_b hb s t (m.getD j 0 + 1) h0 (by omega) (by omega)
    obtain ⟨cut, e1, e2⟩ := ih (j + 1) (x ++ [v]) s1 t1 (by omega) (by omega) (by simp; omega) (by omega) (by omega)
    refine ⟨cut, e1, Ev.step (fun k => ?_) e2⟩
    simp only [spec_DrawCutIsWhole.l1]; rw [if_pos (by omega), if_pos (by omega), if_pos (by omega), hw, hv]; simp only [Option.bind_some]; rw [if_pos (by omega), wrap_next (n := m.length) (by omega) (by omega)]
theorem drawcut_l0 {c : List Int} (hb : BytesIn c) (p : Int) (l : List S57) (hp1 : 1 ≤ p) (hp7 : p ≤ 7) (hl : l.length ≤ 61) (hpi : ProcIn p l) (s t : Int) (h0 : 0 ≤ s) (h1 : s ≤ 3000) (d : Nat) : ∀ (j : Nat) (m : List Int), j ≤ l.length → l.length - j = d → (m.length : Int) = p → (∀ q, 0 ≤ m.getD q 0 ∧ m.getD q 0 ≤ (j : Int)) →
    ∃ cut : List Int, (cut.length : Int) = p ∧ Ev (fun k => spec_DrawCutIsWhole.l0 k p l m l l.length j c s t) (p, l, cut) := by
  induction d with
  | zero =>
    intro j m hj hd hm hr
    obtain ⟨cut, e1, e2⟩ := drawcut_l1 hb p l hp1 m hm hp7 (fun q => by have := hr q; omega) m.length 0 [] s t (by omega) (by omega) rfl h0 (by omega)
    refine ⟨cut, by omega, Ev.step (fun k => ?_) e2⟩
    simp only [spec_DrawCutIsWhole.l0]; rw [if_neg (by omega)]; rfl
  | succ d ih =>
    intro j m hj hd hm hr
    have hjl : j < l.length := by omega
    have hpj := hpi (l.getD j z57) (by rw [List.getD_eq_getElem?_getD, List.getElem?_eq_getElem hjl]; exact List.getElem_mem hjl)
    obtain ⟨q, hq⟩ := Int.eq_ofNat_of_zero_le hpj.1
    have hrq := hr q
    have hw : wrap64 (rd m ((l.getD j z57).f0) + 1) = m.getD q 0 + 1 := by rw [hq, rd_at, wrap_small (by omega) (by omega)]
    obtain ⟨cut, e1, e2⟩ := ih (j + 1) (m.set q (m.getD q 0 + 1)) (by omega) (by omega) (by rw [List.length_set]; exact hm) (fun z => by
      rw [getD_set _ _ _ _ _ (by omega)]
      have := hr z
      split <;> omega)
    refine ⟨cut, e1, Ev.step (fun k => ?_) e2⟩
    simp only [spec_DrawCutIsWhole.l0]; rw [if_pos (by omega), if_pos (by omega), if_pos (by omega), rdS_at, if_pos hpj.1, if_pos (by omega), hw, hq, Int.toNat_natCast, wrap_next hjl (by omega)]
open Classical in
/-- THE PURE STATEMENT of the law. -/
def FnCuts_Pure : Prop := ∀ (l0 : (List Int)) (l1 : (List Int)), (l0.length ≤ 9223372036854775807 ∧ ∀ y ∈ l0, (Lit.int .u8 y).wf = true) → l0.length * 1 ≤ 140737488351232 → (l1.length ≤ 9223372036854775807 ∧ ∀ y ∈ l1, (Lit.int .u8 y).wf = true) → l1.length * 1 ≤ 140737488351232 → ∃ k, laws_FnCuts.f k l0 l1 = some true

theorem FnCuts : FnCuts_Pure := by
  intro c1 c2 hc1 hz1 hc2 hz2
  have hs : wrap64 ((c1.length : Int) + (c2.length : Int)) = (c1.length : Int) + (c2.length : Int) := wrap_small (by omega) (by omega)
  by_cases h1 : wrap64 ((c1.length : Int) + (c2.length : Int)) > 1048576
  · exact ⟨0, by unfold laws_FnCuts.f; rw [if_pos h1]⟩
  have hlen : c1.length + c2.length ≤ 1048576 := by omega
  have hb := bytesIn_of hc1.2
  have hb2 := bytesIn_of hc2.2
  obtain ⟨p, s1, t1, hp, hp1, hp7, h2, h3⟩ := procs_b hb 0 0 (by omega) (by omega)
  obtain ⟨l, s2, t2, ⟨K0, hK0⟩, hpi, hll, h4, h5⟩ := acts_b hb hp1 hp7 s1 t1 (by omega) (by omega)
  replace hK0 : ∀ k, K0 ≤ k → spec_l1Cur_acts.f k c1 s1 t1 p = some (l, s2, t2) := hK0
  obtain ⟨cut, hcl, ⟨K1, hK1⟩⟩ := drawcut_l0 hb p l hp1 hp7 hll hpi s2 t2 h4 h5 l.length 0 (List.replicate p.toNat 0) (by omega) (by omega) (by simp; omega) (fun q => by
    rw [List.getD_eq_getElem?_getD, List.getElem?_replicate]; split <;> simp)
  replace hK1 : ∀ k, K1 ≤ k → spec_DrawCutIsWhole.l0 k p l (List.replicate p.toNat 0) l l.length ((0 : Nat) : Int) c1 s2 t2 = some (p, l, cut) := hK1
  obtain ⟨r, K2, hr, hK2⟩ := cut_info p l cut (by omega) (by omega)
  have tail : ∃ K, ∀ k, K ≤ k → laws_FnCuts.j0 k c2 p l cut r.1 r.2 false = some true := by
    by_cases hok : goodB p l = true ∧ (cut.length : Int) = p ∧ cutOk l cut 0 cut.length = true
    · rw [if_pos hok] at hr
      have g := good_of p l hok.1
      obtain ⟨K, hK⟩ := cuts_loop hb2 (by omega) hok.1 cut hcl r.1 l.length 0 (List.replicate p.toNat 0) (List.replicate l.length false) true (by omega) (by omega) ⟨by simp; omega, fun q _ _ => by rw [rd_zeros]; rfl⟩ (by simp) (fun k hk => by omega) ⟨fun _ m hm => by omega, fun _ => rfl⟩
        (fun x12 x13 x14 h14 => cuts_end hb2 (by omega) hok.1 cut r.1 (by rw [hr]) x12 x13 x14 h14)
      refine ⟨K + 1, fun k hk => ?_⟩
      obtain ⟨k, rfl⟩ : ∃ m, k = m + 1 := ⟨k - 1, by omega⟩
      simp only [laws_FnCuts.j0]
      rw [if_neg (by decide), show r.2 = true by rw [hr], if_pos rfl, if_pos (by omega), if_pos (by omega), if_pos (by omega), if_pos (by omega), Int.toNat_natCast]
      exact hK k (by omega)
    · rw [if_neg hok] at hr
      refine ⟨1, fun k hk => ?_⟩
      obtain ⟨k, rfl⟩ : ∃ m, k = m + 1 := ⟨k - 1, by omega⟩
      simp only [laws_FnCuts.j0]
      rw [if_neg (by decide), hr]; rfl
  obtain ⟨K3, hK3⟩ := tail
  obtain ⟨m, hm⟩ : ∃ m, m = K0 + K1 + K2 + K3 + 1000 := ⟨_, rfl⟩
  refine ⟨m, ?_⟩
  unfold laws_FnCuts.f spec_DrawCutIsWhole.f
  rw [if_neg h1, hp]; simp only [Option.bind_some]
  rw [hK0 m (by omega)]; simp only [Option.bind_some]
  rw [if_pos (by omega), if_pos (by omega), show spec_DrawCutIsWhole.l0 m p l (List.replicate p.toNat 0) l (l.length : Int) 0 c1 s2 t2 = some (p, l, cut) from hK1 m (by omega)]; simp only [Option.bind_some]
  rw [(hK2 m (by omega)).2, (hK2 m (by omega)).1]; simp only [Option.bind_some, bne_self_eq_false, Bool.false_eq_true, if_false]
  exact hK3 m (by omega)

end Go.Proofs.Ytmhhjmadpnkelaa.Pure
