/- Of two acts one is ahead of the other just where its vector is less: the law answers true. No conditions but the reach of a slice. -/
import Derived.Test.YtmhhjmadpnkelaaPFnClocksx13
namespace Go.Proofs.Ytmhhjmadpnkelaa.Pure
open Go.RowKit Go.Proofs.Ytmhhjmadpnkelaa.PFnClocks Go.Proofs.YtmhhjmadpnkelaaW.PrintWords Go.Proofs.YtmhhjmadpnkelaaW.PrintLast
set_option linter.unusedVariables false
set_option linter.unusedSimpArgs false

theorem wrap_small {x : Int} (h0 : -9223372036854775808 ≤ x) (h1 : x ≤ 9223372036854775807) : wrap64 x = x := by
  unfold wrap64
  omega

theorem wrap_next {j n : Nat} (h : j < n) (hn : n ≤ 140737488351232) : wrap64 ((j : Int) + 1) = ((j + 1 : Nat) : Int) := by
  rw [wrap_small (by omega) (by omega)]; rfl

theorem rd_at (l : List Int) (j : Nat) : rd l (j : Int) = l.getD j 0 := by
  unfold rd; rw [Int.toNat_natCast]

theorem drop_at (l : List Int) (j : Nat) (h : j < l.length) : l.drop j = l.getD j 0 :: l.drop (j + 1) := by
  rw [List.drop_eq_getElem_cons h, List.getD_eq_getElem?_getD, List.getElem?_eq_getElem h]; rfl

theorem take_at (l : List Int) (j : Nat) (h : j < l.length) : l.take (j + 1) = l.take j ++ [l.getD j 0] := by
  rw [List.take_succ_eq_append_getElem h, List.getD_eq_getElem?_getD, List.getElem?_eq_getElem h]; rfl

theorem rdS_at (l : List S57) (j : Nat) : rd_T57 l (j : Int) = l.getD j z57 := by unfold rd_T57; rw [Int.toNat_natCast]
theorem takeS_at {α : Type} (z : α) (l : List α) (j : Nat) (h : j < l.length) : l.take (j + 1) = l.take j ++ [l.getD j z] := by
  rw [List.take_succ_eq_append_getElem h, List.getD_eq_getElem?_getD, List.getElem?_eq_getElem h]; rfl
theorem dropS_at {α : Type} (z : α) (l : List α) (j : Nat) (h : j < l.length) : l.drop j = l.getD j z :: l.drop (j + 1) := by
  rw [List.drop_eq_getElem_cons h, List.getD_eq_getElem?_getD, List.getElem?_eq_getElem h]; rfl

/-- what is asked of act j, the last proc being q -/
def okAct (l : List S57) (q : Int) (j : Nat) : Bool :=
  decide (0 ≤ (l.getD j z57).f0 ∧ (l.getD j z57).f0 ≤ q ∧ -1 ≤ (l.getD j z57).f1 ∧ (l.getD j z57).f1 ≤ (j : Int) - 1 ∧ (0 ≤ (l.getD j z57).f1 → (l.getD (l.getD j z57).f1.toNat z57).f0 ≠ (l.getD j z57).f0))

/-- .. of d acts from j on -/
def okFrom (l : List S57) (q : Int) (j : Nat) : Nat → Bool
  | 0 => true
  | d + 1 => okAct l q j && okFrom l q (j + 1) d

theorem okFrom_all (l : List S57) (q : Int) (d : Nat) : ∀ j, okFrom l q j d = true ↔ ∀ i, j ≤ i → i < j + d → okAct l q i = true := by
  induction d with
  | zero => intro j; simp only [okFrom, true_iff]; intro i h1 h2; omega
  | succ d ih =>
    intro j
    simp only [okFrom, Bool.and_eq_true, ih]
    constructor
    · rintro ⟨h1, h2⟩ i hi hl
      by_cases e : i = j
      · rw [e]; exact h1
      · exact h2 i (by omega) (by omega)
    · intro h; exact ⟨h j (by omega) (by omega), fun i hi hl => h i (by omega) (by omega)⟩

/-- acts are good -/
def goodB (p : Int) (l : List S57) : Bool := decide (1 ≤ p ∧ p ≤ 6) && decide (l.length ≤ 60) && okFrom l (wrap64 (p - 1)) 0 l.length

theorem in_eq (a b c : Int) : impl_in.f a b c = some (decide (b ≤ a ∧ a ≤ c)) := by
  unfold impl_in.f
  by_cases h : a ≥ b
  · rw [if_pos h]; congr 1; simp only [decide_eq_decide]; omega
  · rw [if_neg h, decide_eq_false (by omega)]
theorem l1In_eq (a b c : Int) : spec_l1In.f a b c = some (decide (b ≤ a ∧ a ≤ c)) := by
  unfold spec_l1In.f
  by_cases h : a ≥ b
  · rw [if_pos h]; congr 1; simp only [decide_eq_decide]; omega
  · rw [if_neg h, decide_eq_false (by omega)]

theorem spec_good_loop (p : Int) (l : List S57) (hn : l.length ≤ 1048576) (d : Nat) : ∀ (k j : Nat), j ≤ l.length → l.length - j = d → d < k →
    spec_GoodActs.l0 k p l l l.length j = some (okFrom l (wrap64 (p - 1)) j d && (decide (1 ≤ p ∧ p ≤ 6) && decide (l.length ≤ 60))) := by
  induction d with
  | zero =>
    intro k j hj hd hk
    obtain ⟨k, rfl⟩ : ∃ m, k = m + 1 := ⟨k - 1, by omega⟩
    simp only [spec_GoodActs.l0]; rw [if_neg (by omega), l1In_eq]; simp only [Option.bind_some, okFrom, Bool.true_and]
    by_cases h : 1 ≤ p ∧ p ≤ 6
    · rw [decide_eq_true h, if_pos rfl]; congr 1; simp only [Bool.true_and, decide_eq_decide]; omega
    · rw [decide_eq_false h, if_neg (by simp)]; rfl
  | succ d ih =>
    intro k j hj hd hk
    obtain ⟨k, rfl⟩ : ∃ m, k = m + 1 := ⟨k - 1, by omega⟩
    simp only [spec_GoodActs.l0]; rw [if_pos (by omega), if_pos (by omega), if_pos (by omega), l1In_eq, l1In_eq, wrap_next (n := l.length) (by omega) (by omega), rdS_at, wrap_small (x := (j : Int) - 1) (by omega) (by omega)]
    simp only [Option.bind_some, okFrom]
    have i1 := ih k (j + 1) (by omega) (by omega) (by omega)
    have hF : spec_GoodActs.l0 k p l l l.length ((j + 1 : Nat) : Int) = some (okFrom l (wrap64 (p - 1)) (j + 1) d && (decide (1 ≤ p ∧ p ≤ 6) && decide (l.length ≤ 60))) := i1
    generalize hx : l.getD j z57 = x at *
    by_cases h1 : 0 ≤ x.f0 ∧ x.f0 ≤ wrap64 (p - 1)
    · rw [decide_eq_true h1, if_pos rfl]
      by_cases h2 : -1 ≤ x.f1 ∧ x.f1 ≤ (j : Int) - 1
      · rw [decide_eq_true h2, if_pos rfl]
        by_cases h3 : x.f1 ≥ 0
        · rw [if_pos h3, if_pos h3, if_pos (by omega)]
          have e : rd_T57 l x.f1 = l.getD x.f1.toNat z57 := rfl
          rw [e]
          by_cases h4 : (l.getD x.f1.toNat z57).f0 = x.f0
          · rw [if_pos h4]
            have : okAct l (wrap64 (p - 1)) j = false := by unfold okAct; rw [hx]; exact decide_eq_false (fun h => h.2.2.2.2 h3 h4)
            rw [this]; rfl
          · rw [if_neg h4, hF]
            have : okAct l (wrap64 (p - 1)) j = true := by unfold okAct; rw [hx]; exact decide_eq_true ⟨h1.1, h1.2, h2.1, h2.2, fun _ => h4⟩
            rw [this]; rfl
        · rw [if_neg h3, hF]
          have : okAct l (wrap64 (p - 1)) j = true := by unfold okAct; rw [hx]; exact decide_eq_true ⟨h1.1, h1.2, h2.1, h2.2, fun h => absurd h h3⟩
          rw [this]; rfl
      · rw [decide_eq_false h2, if_neg (by simp)]
        have : okAct l (wrap64 (p - 1)) j = false := by unfold okAct; rw [hx]; exact decide_eq_false (fun h => h2 ⟨h.2.2.1, h.2.2.2.1⟩)
        rw [this]; rfl
    · rw [decide_eq_false h1, if_neg (by simp)]
      have : okAct l (wrap64 (p - 1)) j = false := by unfold okAct; rw [hx]; exact decide_eq_false (fun h => h1 ⟨h.1, h.2.1⟩)
      rw [this]; rfl

theorem spec_good (p : Int) (l : List S57) (hn : l.length ≤ 1048576) (k : Nat) (hk : l.length < k) : spec_GoodActs.f k p l = some (goodB p l) := by
  unfold spec_GoodActs.f goodB
  rw [show (0 : Int) = ((0 : Nat) : Int) from rfl, spec_good_loop p l hn l.length k 0 (by omega) (by omega) hk, Bool.and_comm]

theorem impl_good_loop (p : Int) (l : List S57) (hn : l.length ≤ 1048576) (d : Nat) : ∀ (k j : Nat), j ≤ l.length → l.length - j = d → d < k →
    impl_GoodActs.l0 k p l l l.length j = some (okFrom l (wrap64 (p - 1)) j d) := by
  induction d with
  | zero =>
    intro k j hj hd hk
    obtain ⟨k, rfl⟩ : ∃ m, k = m + 1 := ⟨k - 1, by omega⟩
    simp only [impl_GoodActs.l0]; rw [if_neg (by omega)]; rfl
  | succ d ih =>
    intro k j hj hd hk
    obtain ⟨k, rfl⟩ : ∃ m, k = m + 1 := ⟨k - 1, by omega⟩
    simp only [impl_GoodActs.l0]; rw [if_pos (by omega), if_pos (by omega), if_pos (by omega), in_eq, in_eq, wrap_next (n := l.length) (by omega) (by omega), rdS_at, wrap_small (x := (j : Int) - 1) (by omega) (by omega)]
    simp only [Option.bind_some, okFrom]
    have hF : impl_GoodActs.l0 k p l l l.length ((j + 1 : Nat) : Int) = some (okFrom l (wrap64 (p - 1)) (j + 1) d) := ih k (j + 1) (by omega) (by omega) (by omega)
    generalize hx : l.getD j z57 = x at *
    by_cases h1 : 0 ≤ x.f0 ∧ x.f0 ≤ wrap64 (p - 1)
    · rw [decide_eq_true h1, if_pos rfl]
      by_cases h2 : -1 ≤ x.f1 ∧ x.f1 ≤ (j : Int) - 1
      · rw [decide_eq_true h2, if_pos rfl]
        by_cases h3 : x.f1 = -1
        · rw [if_pos h3, hF]
          have : okAct l (wrap64 (p - 1)) j = true := by unfold okAct; rw [hx]; exact decide_eq_true ⟨h1.1, h1.2, h2.1, h2.2, fun h => absurd h (by omega)⟩
          rw [this]; rfl
        · rw [if_neg h3, if_pos (by omega), if_pos (by omega)]
          have e : rd_T57 l x.f1 = l.getD x.f1.toNat z57 := rfl
          rw [e]
          by_cases h4 : (l.getD x.f1.toNat z57).f0 = x.f0
          · rw [if_pos h4]
            have : okAct l (wrap64 (p - 1)) j = false := by unfold okAct; rw [hx]; exact decide_eq_false (fun h => h.2.2.2.2 (by omega) h4)
            rw [this]; rfl
          · rw [if_neg h4, hF]
            have : okAct l (wrap64 (p - 1)) j = true := by unfold okAct; rw [hx]; exact decide_eq_true ⟨h1.1, h1.2, h2.1, h2.2, fun _ => h4⟩
            rw [this]; rfl
      · rw [decide_eq_false h2, if_neg (by simp)]
        have : okAct l (wrap64 (p - 1)) j = false := by unfold okAct; rw [hx]; exact decide_eq_false (fun h => h2 ⟨h.2.2.1, h.2.2.2.1⟩)
        rw [this]; rfl
    · rw [decide_eq_false h1, if_neg (by simp)]
      have : okAct l (wrap64 (p - 1)) j = false := by unfold okAct; rw [hx]; exact decide_eq_false (fun h => h1 ⟨h.1, h.2.1⟩)
      rw [this]; rfl

theorem impl_good (p : Int) (l : List S57) (hn : l.length ≤ 1048576) (k : Nat) (hk : l.length + 1 < k) : impl_GoodActs.f k p l = some (goodB p l) := by
  obtain ⟨k, rfl⟩ : ∃ m, k = m + 1 := ⟨k - 1, by omega⟩
  unfold impl_GoodActs.f goodB
  rw [in_eq]; simp only [Option.bind_some]
  by_cases h : 1 ≤ p ∧ p ≤ 6
  · rw [decide_eq_true h, if_pos rfl]
    simp only [impl_GoodActs.j0]
    by_cases h6 : l.length ≤ 60
    · rw [if_neg (by simp; omega), decide_eq_true h6, show (0 : Int) = ((0 : Nat) : Int) from rfl, impl_good_loop p l hn l.length k 0 (by omega) (by omega) (by omega)]; rfl
    · rw [if_pos (by simp; omega), decide_eq_false h6]; rfl
  · rw [decide_eq_false h, if_neg (by simp)]
    simp [impl_GoodActs.j0]

/-- the proc and the from of an act -/
def pr (l : List S57) (i : Nat) : Int := (l.getD i z57).f0
def fm (l : List S57) (i : Nat) : Int := (l.getD i z57).f1

/-- k is told to be ahead of i at once -/
def Next (l : List S57) (i k : Nat) : Prop := k < i ∧ (pr l k = pr l i ∨ (k : Int) = fm l i)
def AhN (l : List S57) : Nat → Nat → Nat → Prop
  | 0, _, _ => False
  | n + 1, i, j => ∃ k, Next l i k ∧ (j = k ∨ AhN l n k j)
/-- j is ahead of i -/
def Ahead (l : List S57) (i j : Nat) : Prop := ∃ n, AhN l n i j

theorem ahead_iff (l : List S57) (i j : Nat) : Ahead l i j ↔ ∃ k, Next l i k ∧ (j = k ∨ Ahead l k j) := by
  constructor
  · rintro ⟨n, h⟩
    cases n with
    | zero => exact h.elim
    | succ n =>
      obtain ⟨k, hk, h | h⟩ := h
      · exact ⟨k, hk, .inl h⟩
      · exact ⟨k, hk, .inr ⟨n, h⟩⟩
  · rintro ⟨k, hk, h | ⟨n, h⟩⟩
    · exact ⟨1, k, hk, .inl h⟩
    · exact ⟨n + 1, k, hk, .inr h⟩

theorem ahead_lt {l : List S57} : ∀ (i j : Nat), Ahead l i j → j < i := by
  intro i
  induction i using Nat.strongRecOn with
  | ind i ih =>
    intro j h
    obtain ⟨k, hk, h | h⟩ := (ahead_iff l i j).1 h
    · rw [h]; exact hk.1
    · have := ih k hk.1 j h; have := hk.1; omega

theorem ahead_trans {l : List S57} : ∀ (i k j : Nat), Ahead l i k → Ahead l k j → Ahead l i j := by
  intro i
  induction i using Nat.strongRecOn with
  | ind i ih =>
    intro k j h1 h2
    obtain ⟨m, hm, h | h⟩ := (ahead_iff l i k).1 h1
    · subst h; exact (ahead_iff l i j).2 ⟨k, hm, .inr h2⟩
    · exact (ahead_iff l i j).2 ⟨m, hm, .inr (ih m hm.1 k j h h2)⟩

theorem ahead_next {l : List S57} {i k : Nat} (h : Next l i k) : Ahead l i k := (ahead_iff l i k).2 ⟨k, h, .inl rfl⟩

theorem rdOf_at {α : Type} (d : α) (xs : List α) (j : Nat) : rdOf d xs (j : Int) = xs.getD j d := by unfold rdOf; rw [Int.toNat_natCast]
theorem rdL4_at (xs : List (List Bool)) (j : Nat) : rd_L3 xs (j : Int) = xs.getD j [] := by unfold rd_L3; rw [Int.toNat_natCast]

theorem getD_set {α : Type} (d : α) (x : List α) (i j : Nat) (v : α) (h : i < x.length) : (x.set i v).getD j d = if j = i then v else x.getD j d := by
  rw [List.getD_eq_getElem?_getD, List.getElem?_set]
  by_cases e : i = j
  · subst e; rw [if_pos rfl, if_pos h, if_pos rfl]; rfl
  · rw [if_neg e, if_neg (fun h => e h.symm), List.getD_eq_getElem?_getD]

theorem getD_snoc {α : Type} (d : α) (x : List α) (v : α) (j : Nat) : (x ++ [v]).getD j d = if j = x.length then v else x.getD j d := by
  rw [List.getD_eq_getElem?_getD, List.getD_eq_getElem?_getD]
  by_cases e : j = x.length
  · subst e; rw [if_pos rfl]; simp
  · rw [if_neg e]
    rcases Nat.lt_or_ge j x.length with h | h
    · rw [List.getElem?_append_left h]
    · rw [List.getElem?_eq_none (by simp; omega), List.getElem?_eq_none h]

section
variable (l : List S57) (hn : l.length ≤ 1000) (out : List (List Bool)) (i : Nat) (hi : i < l.length) (ho : out.length = i) (hrow : ∀ k, k < i → (out.getD k []).length = l.length) (r : List (List Bool))
include hn hi ho hrow
/-- the inner loop: what is ahead of k comes to x -/
theorem ahead_l2 (k : Nat) (hk : k < i) (d : Nat) : ∀ (j : Nat) (x : List Bool), j ≤ k → k - j = d → x.length = l.length →
    (∀ y : List Bool, y.length = l.length → (∀ m, y.getD m false = if j ≤ m ∧ m < k then (x.getD m false || (out.getD k []).getD m false) else x.getD m false) → Ev (fun q => spec_l2Ahead.l1 q l out i y ((k + 1 : Nat) : Int) l l.length i (pr l i) (fm l i)) r) →
    Ev (fun q => spec_l2Ahead.l2 q l out i x k j l l.length i (pr l i) (fm l i)) r := by
  induction d with
  | zero =>
    intro j x hj hd hx hc
    refine Ev.step (f := fun q => spec_l2Ahead.l1 q l out i x ((k + 1 : Nat) : Int) l l.length i (pr l i) (fm l i)) (fun q => ?_) (hc x hx (fun m => by rw [if_neg (by omega)]))
    simp only [spec_l2Ahead.l2]; rw [if_neg (by omega), wrap_next (n := l.length) (by omega) (by omega)]
  | succ d ih =>
    intro j x hj hd hx hc
    have hrk := hrow k hk
    have key : ∀ v : Bool, v = (x.getD j false || (out.getD k []).getD j false) → Ev (fun q => spec_l2Ahead.l2 q l out i (x.set j v) k ((j + 1 : Nat) : Int) l l.length i (pr l i) (fm l i)) r := by
      intro v hv
      refine ih (j + 1) (x.set j v) (by omega) (by omega) (by rw [List.length_set]; exact hx) (fun y hy hm => hc y hy (fun m => ?_))
      rw [hm m, getD_set false x j m v (by omega)]
      by_cases e : m = j
      · subst e; rw [if_neg (by omega), if_pos rfl, if_pos (by omega), hv]
      · rw [if_neg e]
        by_cases h2 : j + 1 ≤ m ∧ m < k
        · rw [if_pos h2, if_pos (by omega)]
        · rw [if_neg h2, if_neg (by omega)]
    cases hb : x.getD j false with
    | true =>
      refine Ev.step (f := fun q => spec_l2Ahead.l2 q l out i (x.set j true) k ((j + 1 : Nat) : Int) l l.length i (pr l i) (fm l i)) (fun q => ?_) (key true (by rw [hb]; rfl))
      simp only [spec_l2Ahead.l2]; rw [if_pos (by omega), if_pos (by omega), if_pos (by omega), rdOf_at, hb, if_pos rfl, wrap_next (n := l.length) (by omega) (by omega), Int.toNat_natCast]
    | false =>
      refine Ev.step (f := fun q => spec_l2Ahead.l2 q l out i (x.set j ((out.getD k []).getD j false)) k ((j + 1 : Nat) : Int) l l.length i (pr l i) (fm l i)) (fun q => ?_) (key _ (by rw [hb]; rfl))
      simp only [spec_l2Ahead.l2]; rw [if_pos (by omega), if_pos (by omega), if_pos (by omega), rdOf_at, hb, if_neg (by decide), if_pos (by omega), if_pos (by omega), rdL4_at, if_pos (by omega), rdOf_at, wrap_next (n := l.length) (by omega) (by omega), Int.toNat_natCast]

/-- the loop over what may be ahead of i -/
theorem ahead_l1 (hrows : ∀ k, k < i → ∀ j, (out.getD k []).getD j false = true ↔ Ahead l k j) (d : Nat) : ∀ (k : Nat) (x : List Bool), k ≤ i → i - k = d → x.length = l.length →
    (∀ m, x.getD m false = true ↔ ∃ k', k' < k ∧ Next l i k' ∧ (m = k' ∨ Ahead l k' m)) →
    (∀ y : List Bool, y.length = l.length → (∀ m, y.getD m false = true ↔ Ahead l i m) → Ev (fun q => spec_l2Ahead.l0 q l (out ++ [y]) l l.length ((i + 1 : Nat) : Int)) r) →
    Ev (fun q => spec_l2Ahead.l1 q l out i x k l l.length i (pr l i) (fm l i)) r := by
  induction d with
  | zero =>
    intro k x hk hd hx hm hc
    obtain rfl : k = i := by omega
    refine Ev.step (f := fun q => spec_l2Ahead.l0 q l (out ++ [x]) l l.length ((k + 1 : Nat) : Int)) (fun q => ?_) (hc x hx (fun m => ?_))
    · simp only [spec_l2Ahead.l1]; rw [if_neg (by omega), if_pos (by omega), wrap_next (n := l.length) (by omega) (by omega)]
    · rw [hm m, ahead_iff]
      constructor
      · rintro ⟨k', _, h⟩; exact ⟨k', h⟩
      · rintro ⟨k', h⟩; exact ⟨k', h.1.1, h⟩
  | succ d ih =>
    intro k x hk hd hx hm hc
    have hki : k < i := by omega
    have grow : ∀ y : List Bool, y.length = l.length → (∀ m, y.getD m false = true ↔ (x.getD m false = true ∨ (Next l i k ∧ (m = k ∨ Ahead l k m)))) → Ev (fun q => spec_l2Ahead.l1 q l out i y ((k + 1 : Nat) : Int) l l.length i (pr l i) (fm l i)) r := by
      intro y hy hym
      refine ih (k + 1) y (by omega) (by omega) hy (fun m => ?_) hc
      rw [hym m, hm m]
      constructor
      · rintro (⟨k', h1, h2⟩ | h)
        · exact ⟨k', by omega, h2⟩
        · exact ⟨k, by omega, h⟩
      · rintro ⟨k', h1, h2⟩
        by_cases e : k' = k
        · subst e; exact .inr h2
        · exact .inl ⟨k', by omega, h2⟩
    have jump : ∀ b : Bool, (b = true ↔ ¬ Next l i k) → Ev (fun q => spec_l2Ahead.j2 q l out i x k l l.length i b (pr l i) (fm l i)) r := by
      intro b hb
      cases b with
      | true =>
        refine Ev.step (f := fun q => spec_l2Ahead.l1 q l out i x ((k + 1 : Nat) : Int) l l.length i (pr l i) (fm l i)) (fun q => ?_) (grow x hx (fun m => ?_))
        · simp only [spec_l2Ahead.j2, if_true]; rw [wrap_next (n := l.length) (by omega) (by omega)]
        · constructor
          · exact .inl
          · rintro (h | h)
            · exact h
            · exact absurd h.1 (hb.1 rfl)
      | false =>
        have hnx : Next l i k := Classical.byContradiction (fun h => by have := hb.2 h; cases this)
        refine Ev.step (f := fun q => spec_l2Ahead.l2 q l out i (x.set k true) k ((0 : Nat) : Int) l l.length i (pr l i) (fm l i)) (fun q => ?_) ?_
        · simp only [spec_l2Ahead.j2, Bool.false_eq_true, if_false]; rw [if_pos (by omega), if_pos (by omega), Int.toNat_natCast]; rfl
        · refine ahead_l2 l hn out i hi ho hrow r k hki k 0 (x.set k true) (by omega) (by omega) (by rw [List.length_set]; exact hx) (fun y hy hym => grow y hy (fun m => ?_))
          rw [hym m, getD_set false x k m true (by omega)]
          by_cases e : m = k
          · subst e; rw [if_neg (by omega), if_pos rfl]; simp [hnx]
          · rw [if_neg e]
            by_cases h2 : 0 ≤ m ∧ m < k
            · rw [if_pos h2, Bool.or_eq_true, hrows k hki m]; simp [hnx, e]
            · rw [if_neg h2]
              constructor
              · exact .inl
              · rintro (h | ⟨_, h | h⟩)
                · exact h
                · exact absurd h e
                · have := ahead_lt k m h; omega
    by_cases hp : pr l k = pr l i
    · refine Ev.step (f := fun q => spec_l2Ahead.j2 q l out i x k l l.length i false (pr l i) (fm l i)) (fun q => ?_) (jump false (Iff.intro (fun h => Bool.noConfusion h) (fun h => absurd (show Next l i k from ⟨hki, .inl hp⟩) h)))
      simp only [spec_l2Ahead.l1]; rw [if_pos (by omega), if_pos (by omega), if_pos (by omega), rdS_at, if_pos (show (l.getD k z57).f0 = pr l i from hp)]
    · refine Ev.step (f := fun q => spec_l2Ahead.j2 q l out i x k l l.length i ((k : Int) != fm l i) (pr l i) (fm l i)) (fun q => ?_) (jump _ ?_)
      · simp only [spec_l2Ahead.l1]; rw [if_pos (by omega), if_pos (by omega), if_pos (by omega), rdS_at, if_neg (show ¬ (l.getD k z57).f0 = pr l i from hp)]
      · rw [bne_iff_ne]
        constructor
        · rintro h1 ⟨_, h2 | h2⟩
          · exact hp h2
          · exact h1 h2
        · intro h1 h2; exact h1 ⟨hki, .inr h2⟩
end

theorem ahead_l0 (l : List S57) (hn : l.length ≤ 1000) (d : Nat) : ∀ (i : Nat) (out : List (List Bool)), i ≤ l.length → l.length - i = d → out.length = i → (∀ k, k < i → (out.getD k []).length = l.length) →
    (∀ k, k < i → ∀ j, (out.getD k []).getD j false = true ↔ Ahead l k j) →
    ∃ r : List (List Bool), Ev (fun q => spec_l2Ahead.l0 q l out l l.length i) r ∧ r.length = l.length ∧ (∀ k, k < l.length → (r.getD k []).length = l.length) ∧ ∀ k, k < l.length → ∀ j, (r.getD k []).getD j false = true ↔ Ahead l k j := by
  induction d with
  | zero =>
    intro i out hi hd ho hrow hrows
    obtain rfl : i = l.length := by omega
    refine ⟨out, Ev.step (f := fun _ => some out) (fun q => ?_) (Ev.now _), ho, hrow, hrows⟩
    simp only [spec_l2Ahead.l0]; rw [if_neg (by omega)]
  | succ d ih =>
    intro i out hi hd ho hrow hrows
    have next : ∀ y : List Bool, y.length = l.length → (∀ m, y.getD m false = true ↔ Ahead l i m) → ∃ r : List (List Bool), Ev (fun q => spec_l2Ahead.l0 q l (out ++ [y]) l l.length ((i + 1 : Nat) : Int)) r ∧ r.length = l.length ∧ (∀ k, k < l.length → (r.getD k []).length = l.length) ∧ ∀ k, k < l.length → ∀ j, (r.getD k []).getD j false = true ↔ Ahead l k j := by
      intro y hy hym
      refine ih (i + 1) (out ++ [y]) (by omega) (by omega) (by simp [ho]) (fun k hk => ?_) (fun k hk j => ?_)
      · rw [getD_snoc]; split
        · exact hy
        · exact hrow k (by omega)
      · rw [getD_snoc]; split
        · rw [show k = i by omega]; exact hym j
        · exact hrows k (by omega) j
    obtain ⟨y, hy, hym⟩ : ∃ y : List Bool, y.length = l.length ∧ ∀ m, y.getD m false = true ↔ Ahead l i m := by
      classical
      refine ⟨(List.range l.length).map (fun m => decide (Ahead l i m)), by simp, fun m => ?_⟩
      rw [List.getD_eq_getElem?_getD, List.getElem?_map]
      rcases Nat.lt_or_ge m l.length with h | h
      · rw [List.getElem?_range h]; simp
      · rw [List.getElem?_eq_none (by simpa using h)]
        simp only [Option.map_none, Option.getD_none, Bool.false_eq_true, false_iff]
        intro h2; have := ahead_lt i m h2; omega
    obtain ⟨r, hr, hr1, hr2, hr3⟩ := next y hy hym
    refine ⟨r, ?_, hr1, hr2, hr3⟩
    refine Ev.step (f := fun q => spec_l2Ahead.l1 q l out i (List.replicate l.length false) ((0 : Nat) : Int) l l.length i (pr l i) (fm l i)) (fun q => ?_) ?_
    · simp only [spec_l2Ahead.l0]; rw [if_pos (by omega), if_pos (by omega), if_pos (by omega), if_pos (by omega), Int.toNat_natCast, if_pos (by omega), rdS_at]; rfl
    · refine ahead_l1 l hn out i (by omega) ho hrow r hrows i 0 _ (by omega) (by omega) (by simp) (fun m => ?_) (fun z hz hzm => ?_)
      · constructor
        · intro h
          rw [List.getD_eq_getElem?_getD, List.getElem?_replicate] at h
          split at h <;> simp at h
        · rintro ⟨k', h, _⟩; omega
      · have : z = y := by
          apply List.ext_getElem?
          intro m
          rcases Nat.lt_or_ge m l.length with h | h
          · have e1 : z.getD m false = y.getD m false := by
              have := (hzm m).trans (hym m).symm
              cases h1 : z.getD m false <;> cases h2 : y.getD m false <;> simp_all
            rw [List.getD_eq_getElem?_getD, List.getD_eq_getElem?_getD, List.getElem?_eq_getElem (by omega), List.getElem?_eq_getElem (by omega)] at e1
            rw [List.getElem?_eq_getElem (by omega), List.getElem?_eq_getElem (by omega)]
            exact congrArg some e1
          · rw [List.getElem?_eq_none (by omega), List.getElem?_eq_none (by omega)]
        rw [this]; exact hr

/-- WHAT spec.l2Ahead TELLS. -/
theorem ahead_rows (l : List S57) (hn : l.length ≤ 1000) : ∃ r : List (List Bool), Ev (fun q => spec_l2Ahead.f q l) r ∧ r.length = l.length ∧ (∀ k, k < l.length → (r.getD k []).length = l.length) ∧ ∀ k, k < l.length → ∀ j, (r.getD k []).getD j false = true ↔ Ahead l k j := by
  obtain ⟨r, h⟩ := ahead_l0 l hn l.length 0 [] (by omega) (by omega) rfl (fun k hk => by omega) (fun k hk => by omega)
  exact ⟨r, h⟩

/-- good acts, in words -/
structure Good (p : Int) (l : List S57) : Prop where
  p1 : 1 ≤ p
  p6 : p ≤ 6
  len : l.length ≤ 60
  proc : ∀ i, i < l.length → 0 ≤ pr l i ∧ pr l i ≤ p - 1
  frm : ∀ i, i < l.length → -1 ≤ fm l i ∧ fm l i ≤ (i : Int) - 1
  other : ∀ i, i < l.length → 0 ≤ fm l i → pr l (fm l i).toNat ≠ pr l i

theorem good_of (p : Int) (l : List S57) (h : goodB p l = true) : Good p l := by
  unfold goodB at h
  simp only [Bool.and_eq_true, decide_eq_true_eq] at h
  obtain ⟨⟨h1, h2⟩, h3⟩ := h
  rw [wrap_small (by omega) (by omega), okFrom_all] at h3
  have h4 : ∀ i, i < l.length → okAct l (p - 1) i = true := fun i hi => h3 i (by omega) (by omega)
  simp only [okAct, decide_eq_true_eq] at h4
  exact ⟨h1.1, h1.2, h2, fun i hi => ⟨(h4 i hi).1, (h4 i hi).2.1⟩, fun i hi => ⟨(h4 i hi).2.2.1, (h4 i hi).2.2.2.1⟩, fun i hi hf => (h4 i hi).2.2.2.2 hf⟩

/-- m is the last act of q ahead of place i -/
def LastOf (l : List S57) (i : Nat) (q : Int) (m : Nat) : Prop := m < i ∧ pr l m = q ∧ ∀ k, m < k → k < i → pr l k ≠ q
def NoneOf (l : List S57) (i : Nat) (q : Int) : Prop := ∀ k, k < i → pr l k ≠ q

theorem next_from {p : Int} {l : List S57} (g : Good p l) {i : Nat} (hi : i < l.length) (hf : fm l i ≠ -1) : Next l i (fm l i).toNat ∧ ((fm l i).toNat : Int) = fm l i := by
  have := g.frm i hi
  exact ⟨⟨by omega, .inr (by omega)⟩, by omega⟩

theorem impl_join_loop (a b : List Int) (hab : a.length = b.length) (hn : a.length ≤ 140737488351232) (d : Nat) : ∀ (k j : Nat) (x : List Int), j ≤ a.length → a.length - j = d → x.length + d ≤ 17592186044416 → d < k →
    impl_joined.l0 k b x a a.length j = some (x ++ List.zipWith mx (a.drop j) (b.drop j)) := by
  induction d with
  | zero =>
    intro k j x hj hd hx hk
    obtain ⟨k, rfl⟩ : ∃ m, k = m + 1 := ⟨k - 1, by omega⟩
    simp only [impl_joined.l0]; rw [if_neg (by omega), List.drop_of_length_le (by omega)]; simp
  | succ d ih =>
    intro k j x hj hd hx hk
    obtain ⟨k, rfl⟩ : ∃ m, k = m + 1 := ⟨k - 1, by omega⟩
    simp only [impl_joined.l0]; rw [if_pos (by omega), if_pos (by omega), if_pos (by omega), if_pos (by omega), if_pos (by omega), wrap_next (n := a.length) (by omega) hn, rd_at, rd_at, drop_at a j (by omega), drop_at b j (by omega)]
    rw [ih k (j + 1) (x ++ [_]) (by omega) (by omega) (by simp; omega) (by omega)]; simp

theorem impl_joined_eq (a b : List Int) (h : a.length = b.length) (h6 : a.length ≤ 100) (k : Nat) (hk : a.length < k) : impl_joined.f k a b = some (List.zipWith mx a b) := by
  unfold impl_joined.f
  have := impl_join_loop a b h (by omega) a.length k 0 [] (by omega) (by omega) (by simp; omega) (by omega)
  simpa using this

/-- some number of the first is less -/
def lessL : List Int → List Int → Bool
  | x :: a, y :: b => decide (x < y) || lessL a b
  | _, _ => false

/-- some number of the first is greater -/
def moreL : List Int → List Int → Bool
  | x :: a, y :: b => decide (x > y) || moreL a b
  | _, _ => false

theorem more_less (a : List Int) : ∀ b, moreL b a = lessL a b := by
  induction a with
  | nil => intro b; cases b <;> rfl
  | cons x a ih => intro b; cases b with
    | nil => rfl
    | cons y b => simp [moreL, lessL, ih b]

theorem eq_of_neither (a : List Int) : ∀ b, a.length = b.length → (a = b ↔ lessL a b = false ∧ moreL a b = false) := by
  induction a with
  | nil => intro b h; cases b with
    | nil => simp [lessL, moreL]
    | cons y b => simp at h
  | cons x a ih => intro b h; cases b with
    | nil => simp at h
    | cons y b =>
      have := ih b (by simpa using h)
      simp only [List.cons.injEq, this, lessL, moreL, Bool.or_eq_false_iff, decide_eq_false_iff_not]
      constructor
      · rintro ⟨rfl, h1, h2⟩; exact ⟨⟨by omega, h1⟩, by omega, h2⟩
      · rintro ⟨⟨h1, h2⟩, h3, h4⟩; exact ⟨by omega, h2, h4⟩

/-- what both answer -/
def told (l m : Bool) : Int := if l = true then (if m = true then 2 else -1) else if m = true then 1 else 0

theorem below_loop (a b : List Int) (hab : a.length = b.length) (hn : a.length ≤ 140737488351232) (d : Nat) : ∀ (k j : Nat), j ≤ a.length → a.length - j = d → d < k →
    impl_below.l0 k b a a.length j = some (!moreL (a.drop j) (b.drop j)) := by
  induction d with
  | zero =>
    intro k j hj hd hk
    obtain ⟨k, rfl⟩ : ∃ q, k = q + 1 := ⟨k - 1, by omega⟩
    simp only [impl_below.l0]; rw [if_neg (by omega), List.drop_of_length_le (by omega), List.drop_of_length_le (by omega)]; rfl
  | succ d ih =>
    intro k j hj hd hk
    obtain ⟨k, rfl⟩ : ∃ q, k = q + 1 := ⟨k - 1, by omega⟩
    simp only [impl_below.l0]
    rw [if_pos (by omega), if_pos (by omega), if_pos (by omega), if_pos (by omega), wrap_next (n := a.length) (by omega) hn, rd_at, rd_at, drop_at a j (by omega), drop_at b j (by omega)]
    by_cases h : a.getD j 0 > b.getD j 0
    · rw [if_pos h]; simp only [moreL]; rw [decide_eq_true h]; rfl
    · rw [if_neg h, ih k (j + 1) (by omega) (by omega) (by omega)]; simp only [moreL]; rw [decide_eq_false h]; rfl

theorem below_eq (a b : List Int) (hab : a.length = b.length) (hn : a.length ≤ 140737488351232) (k : Nat) (hk : a.length < k) : impl_below.f k a b = some (!moreL a b) := by
  unfold impl_below.f
  have := below_loop a b hab hn a.length k 0 (by omega) (by omega) hk
  simpa using this

theorem Equal_loop (a b : List Int) (hab : a.length = b.length) (hn : a.length ≤ 140737488351232) (d : Nat) : ∀ (k j : Nat), j ≤ a.length → a.length - j = d → d < k →
    slices_Equal_int_int.l0 k a b a.length j = some (decide (a.drop j = b.drop j)) := by
  induction d with
  | zero =>
    intro k j hj hd hk
    obtain ⟨k, rfl⟩ : ∃ m, k = m + 1 := ⟨k - 1, by omega⟩
    simp only [slices_Equal_int_int.l0]; rw [if_neg (by omega), List.drop_of_length_le (by omega), List.drop_of_length_le (by omega)]; simp
  | succ d ih =>
    intro k j hj hd hk
    obtain ⟨k, rfl⟩ : ∃ m, k = m + 1 := ⟨k - 1, by omega⟩
    simp only [slices_Equal_int_int.l0]; rw [if_pos (by omega), if_pos (by omega), if_pos (by omega), if_pos (by omega), wrap_next (n := a.length) (by omega) hn, rd_at, rd_at, drop_at a j (by omega), drop_at b j (by omega)]
    by_cases h : a.getD j 0 = b.getD j 0
    · rw [if_pos h, ih k (j + 1) (by omega) (by omega) (by omega)]; simp only [List.cons.injEq, h, true_and]
    · rw [if_neg h]; simp only [List.cons.injEq, h, false_and, decide_false]

theorem Equal_eq (a b : List Int) (hn : a.length ≤ 140737488351232) (k : Nat) (hk : a.length < k) : slices_Equal_int_int.f k a b = some (decide (a = b)) := by
  unfold slices_Equal_int_int.f
  by_cases h : a.length = b.length
  · rw [if_pos (by omega)]
    have := Equal_loop a b h hn a.length k 0 (by omega) (by omega) hk
    simpa using this
  · rw [if_neg (by omega), decide_eq_false (fun e => h (by rw [e]))]

/-- what both answer -/
def cmpOf (a b : List Int) : Int × Bool := if a.length = b.length ∧ a.length ≤ 6 then (told (lessL a b) (moreL a b), true) else (0, false)

theorem impl_CompareVec_eq (a b : List Int) (k : Nat) (hk : 8 < k) : impl_CompareVec.f k a b = some (cmpOf a b) := by
  unfold impl_CompareVec.f impl_pairOk.f cmpOf
  by_cases h : a.length = b.length
  · rw [if_pos (by omega)]
    by_cases h6 : a.length ≤ 6
    · rw [if_pos ⟨h, h6⟩, decide_eq_true (by omega)]
      simp only [Option.bind_some, if_true]
      rw [Equal_eq a b (by omega) k (by omega), below_eq a b h (by omega) k (by omega), below_eq b a h.symm (by omega) k (by omega), more_less a b]
      have := eq_of_neither a b h
      cases h1 : lessL a b <;> cases h2 : moreL a b <;> simp [h1, h2, told] at * <;> simp [this]
    · rw [if_neg (by omega), decide_eq_false (by omega)]; simp
  · rw [if_neg (by omega), if_neg (by omega)]; simp

theorem more_iff : ∀ a b : List Int, a.length = b.length → (moreL a b = false ↔ ∀ q : Nat, q < a.length → a.getD q 0 ≤ b.getD q 0)
  | [], [], _ => ⟨fun _ q hq => absurd hq (Nat.not_lt_zero _), fun _ => rfl⟩
  | [], _ :: _, h => by simp at h
  | _ :: _, [], h => by simp at h
  | x :: a, y :: b, h => by
    simp only [moreL, Bool.or_eq_false_iff, decide_eq_false_iff_not, more_iff a b (by simpa using h)]
    constructor
    · rintro ⟨h1, h2⟩ q hq
      cases q with
      | zero => simpa using h1
      | succ q => simpa using h2 q (by simpa using hq)
    · intro h1
      refine ⟨by simpa using h1 0 (by simp), fun q hq => by simpa using h1 (q + 1) (by simpa using hq)⟩

/-- how many acts of q stand ahead of place i -/
def cntP (l : List S57) (q : Int) : Nat → Nat
  | 0 => 0
  | i + 1 => cntP l q i + if pr l i = q then 1 else 0
/-- how many acts of its own process stand ahead of act k -/
def rank (l : List S57) (k : Nat) : Nat := cntP l (pr l k) k

theorem cntP_mono (l : List S57) (q : Int) {i j : Nat} (h : i ≤ j) : cntP l q i ≤ cntP l q j := by
  induction j with
  | zero => rw [Nat.le_zero.1 h]; exact Nat.le_refl _
  | succ j ih =>
    rcases Nat.lt_or_ge i (j + 1) with h1 | h1
    · have := ih (by omega); simp only [cntP]; omega
    · rw [show i = j + 1 by omega]; exact Nat.le_refl _
theorem cntP_lt (l : List S57) (q : Int) {i j : Nat} (h : i < j) (hp : pr l i = q) : cntP l q i < cntP l q j := by
  have := cntP_mono l q (show i + 1 ≤ j from h)
  simp only [cntP, hp, if_true] at this
  omega
theorem cntP_le (l : List S57) (q : Int) (i : Nat) : cntP l q i ≤ i := by
  induction i with
  | zero => exact Nat.le_refl _
  | succ i ih => simp only [cntP]; split <;> omega

/-- i itself, or ahead of i -/
def InS (l : List S57) (i k : Nat) : Prop := k = i ∨ Ahead l i k

/-- v is act i's vector -/
structure VecOK (p : Int) (l : List S57) (i : Nat) (v : List Int) : Prop where
  len : (v.length : Int) = p
  pos : ∀ q : Int, 0 ≤ q → q < p → 0 ≤ rd v q ∧ rd v q ≤ i + 1
  mem : ∀ k, k < l.length → 0 ≤ pr l k → pr l k < p → (InS l i k ↔ (rank l k : Int) < rd v (pr l k))
  top : ∀ q : Int, 0 ≤ q → q < p → rd v q = 0 ∨ ∃ k, k < l.length ∧ pr l k = q ∧ (rank l k : Int) + 1 = rd v q

theorem inS_le {l : List S57} {i k : Nat} (h : InS l i k) : k ≤ i := by
  rcases h with h | h
  · omega
  · have := ahead_lt i k h; omega
theorem inS_trans {l : List S57} {i k m : Nat} (h : InS l i k) (h2 : InS l k m) : InS l i m := by
  rcases h with h | h
  · rw [← h]; exact h2
  · rcases h2 with h2 | h2
    · exact .inr (h2 ▸ h)
    · exact .inr (ahead_trans i k m h h2)

/-- the vectors tell what is ahead -/
theorem vec_below {p : Int} {l : List S57} (g : Good p l) {a b : Nat} (ha : a < l.length) (hb : b < l.length) {u v : List Int} (hu : VecOK p l a u) (hv : VecOK p l b v) :
    (∀ q : Int, 0 ≤ q → q < p → rd u q ≤ rd v q) ↔ InS l b a := by
  constructor
  · intro h
    have hp := g.proc a ha
    have h1 := (hu.mem a ha hp.1 (by omega)).1 (.inl rfl)
    exact (hv.mem a ha hp.1 (by omega)).2 (by have := h (pr l a) hp.1 (by omega); omega)
  · intro h q h0 h1
    rcases hu.top q h0 h1 with h2 | ⟨k, hk, hq, hr⟩
    · have := (hv.pos q h0 h1).1; omega
    · subst hq
      have h3 : InS l a k := (hu.mem k hk h0 h1).2 (by omega)
      have h4 := (hv.mem k hk h0 h1).1 (inS_trans h h3)
      omega

/-- the step of a vector: from those of the last act of the same process and of the act that the message came from -/
theorem vec_step {p : Int} {l : List S57} (g : Good p l) {i : Nat} (hi : i < l.length) {v : List Int} (hlen : (v.length : Int) = p)
    (hpos : ∀ q : Int, 0 ≤ q → q < p → 0 ≤ rd v q ∧ rd v q ≤ i)
    (hmem : ∀ k, k < l.length → 0 ≤ pr l k → pr l k < p → (Ahead l i k ↔ (rank l k : Int) < rd v (pr l k)))
    (htop : ∀ q : Int, 0 ≤ q → q < p → rd v q = 0 ∨ ∃ k, k < l.length ∧ pr l k = q ∧ (rank l k : Int) + 1 = rd v q) :
    VecOK p l i (v.set (pr l i).toNat (wrap64 (rd v (pr l i) + 1))) := by
  have hp := g.proc i hi
  have hl60 := g.len
  have hb := hpos (pr l i) hp.1 (by omega)
  have ew : wrap64 (rd v (pr l i) + 1) = rd v (pr l i) + 1 := wrap_small (by omega) (by omega)
  -- the old number is how many acts of the process stand ahead
  have hrank : rd v (pr l i) = (rank l i : Int) := by
    have hge : ¬ ((rank l i : Int) < rd v (pr l i)) := fun h => by
      have := ahead_lt i i ((hmem i hi hp.1 (by omega)).2 h); omega
    rcases htop (pr l i) hp.1 (by omega) with h0 | ⟨k, hk, hq, hr⟩
    · -- no act of the process is ahead
      have hz : ∀ n, n ≤ i → cntP l (pr l i) n = 0 := by
        intro n
        induction n with
        | zero => intro _; rfl
        | succ n ih =>
          intro hn
          simp only [cntP, ih (by omega)]
          by_cases h : pr l n = pr l i
          · have ha : Ahead l i n := (ahead_iff l i n).2 ⟨n, ⟨by omega, .inl h⟩, .inl rfl⟩
            have := (hmem n (by omega) (by rw [h]; exact hp.1) (by rw [h]; omega)).1 ha
            rw [h] at this; omega
          · rw [if_neg h]
      unfold rank; rw [hz i (Nat.le_refl _)]; exact h0
    · by_cases hki : k < i
      · -- the next of the process behind k is i
        rcases Int.lt_trichotomy (rd v (pr l i)) (rank l i : Int) with h | h | h
        · exfalso
          -- the last act of the process ahead of i
          have key : ∀ n, n ≤ i → (rank l k : Int) + 1 < cntP l (pr l i) n → ∃ m, m < n ∧ pr l m = pr l i ∧ (rank l m : Int) + 1 = cntP l (pr l i) n := by
            intro n
            induction n with
            | zero => intro _ h2; simp only [cntP] at h2; omega
            | succ n ih =>
              intro hn h2
              by_cases hpn : pr l n = pr l i
              · exact ⟨n, by omega, hpn, by unfold rank; rw [hpn]; simp only [cntP, hpn, if_true]; omega⟩
              · have e : cntP l (pr l i) (n + 1) = cntP l (pr l i) n := by simp only [cntP, if_neg hpn]; rfl
                rw [e] at h2 ⊢
                obtain ⟨m, hm, h3⟩ := ih (by omega) h2
                exact ⟨m, by omega, h3⟩
          obtain ⟨m, hm, hpm, hrm⟩ := key i (Nat.le_refl _) (by have : (rank l i : Int) = cntP l (pr l i) i := rfl; omega)
          have ha : Ahead l i m := (ahead_iff l i m).2 ⟨m, ⟨hm, .inl hpm⟩, .inl rfl⟩
          have h4 := (hmem m (by omega) (by rw [hpm]; exact hp.1) (by rw [hpm]; omega)).1 ha
          rw [hpm] at h4
          have : (rank l i : Int) = cntP l (pr l i) i := rfl
          omega
        · exact h
        · exact absurd h hge
      · exfalso
        have h5 : Ahead l i k := (hmem k hk (by rw [hq]; exact hp.1) (by rw [hq]; omega)).2 (by rw [hq]; omega)
        have := ahead_lt i k h5
        omega
  have hset : ∀ q : Int, 0 ≤ q → q < p → rd (v.set (pr l i).toNat (wrap64 (rd v (pr l i) + 1))) q = if q = pr l i then rd v (pr l i) + 1 else rd v q := by
    intro q h0 h1
    rw [ew]
    unfold rd
    by_cases h : q = pr l i
    · subst h; rw [if_pos rfl, List.getD_eq_getElem?_getD, List.getElem?_set_self (by omega)]; rfl
    · rw [if_neg h, List.getD_eq_getElem?_getD, List.getElem?_set_ne (by omega), List.getD_eq_getElem?_getD]
  refine ⟨by rw [List.length_set]; exact hlen, fun q h0 h1 => ?_, fun k hk h0 h1 => ?_, fun q h0 h1 => ?_⟩
  · rw [hset q h0 h1]
    have := hpos q h0 h1
    by_cases h : q = pr l i
    · rw [if_pos h]; omega
    · rw [if_neg h]; omega
  · rw [hset _ h0 h1]
    by_cases h : pr l k = pr l i
    · rw [if_pos h, hrank]
      constructor
      · intro hin
        rcases hin with hin | hin
        · subst hin; omega
        · have := cntP_lt l (pr l i) (ahead_lt i k hin) h
          unfold rank; rw [h]; omega
      · intro hlt
        rcases Nat.lt_trichotomy k i with h2 | h2 | h2
        · exact .inr ((ahead_iff l i k).2 ⟨k, ⟨h2, .inl h⟩, .inl rfl⟩)
        · exact .inl h2
        · have := cntP_lt l (pr l i) h2 rfl
          unfold rank at hlt; rw [h] at hlt; omega
    · rw [if_neg h]
      rw [← hmem k hk h0 h1]
      constructor
      · intro hin
        rcases hin with hin | hin
        · exact absurd (by rw [hin]) h
        · exact hin
      · exact fun hin => .inr hin
  · rw [hset q h0 h1]
    by_cases h : q = pr l i
    · rw [if_pos h]; exact .inr ⟨i, hi, h.symm, by rw [hrank]⟩
    · rw [if_neg h]; exact htop q h0 h1

theorem rd_zip (a b : List Int) (h : a.length = b.length) (q : Int) (h0 : 0 ≤ q) (h1 : q < a.length) : rd (List.zipWith mx a b) q = mx (rd a q) (rd b q) := by
  obtain ⟨n, rfl⟩ := Int.eq_ofNat_of_zero_le h0
  unfold rd
  rw [Int.toNat_natCast, List.getD_eq_getElem?_getD, List.getD_eq_getElem?_getD, List.getD_eq_getElem?_getD, List.getElem?_zipWith, List.getElem?_eq_getElem (show n < a.length by omega), List.getElem?_eq_getElem (show n < b.length by omega)]
  rfl
theorem rd_zeros (n : Nat) (q : Int) : rd (List.replicate n 0) q = 0 := by
  unfold rd
  rw [List.getD_eq_getElem?_getD, List.getElem?_replicate]
  split <;> rfl

theorem over_nil (n : Nat) : overL (List.replicate n 0) [] = List.replicate n 0 := by unfold overL; simp
theorem over_full (n : Nat) (y : List Int) (h : y.length = n) : overL (List.replicate n 0) y = y := by
  unfold overL; rw [List.length_replicate, h, Nat.min_self, List.take_of_length_le (by omega), List.drop_of_length_le (by simp), List.append_nil]

/-- what the last rows are, ahead of act i -/
def LastOK (p : Int) (l : List S57) (i : Nat) (last : List (List Int)) : Prop :=
  ∀ q : Int, 0 ≤ q → q < p → (last.getD q.toNat [] = [] ∧ NoneOf l i q) ∨ ∃ m, LastOf l i q m ∧ VecOK p l m (last.getD q.toNat [])

theorem ahead_same {l : List S57} {i m x k : Nat} (hm : LastOf l i (pr l i) m) (hx : x < i) (hp : pr l x = pr l i) (hk : k = x ∨ Ahead l x k) : InS l m k := by
  have hxm : x ≤ m := by
    rcases Nat.lt_or_ge m x with h | h
    · exact absurd hp (hm.2.2 x h hx)
    · exact h
  have h1 : InS l m x := by
    rcases Nat.lt_or_ge x m with h | h
    · exact .inr ((ahead_iff l m x).2 ⟨x, ⟨h, .inl (by rw [hp, hm.2.1])⟩, .inl rfl⟩)
    · exact .inl (by omega)
  exact inS_trans h1 hk

/-- the vector ahead of the last step, with no act that the message came from -/
theorem prev_facts {p : Int} {l : List S57} (g : Good p l) {i : Nat} (hi : i < l.length) {last : List (List Int)} (hl : LastOK p l i last) :
    ∃ v0, overL (List.replicate p.toNat 0) (last.getD (pr l i).toNat []) = v0 ∧ (v0.length : Int) = p ∧ (∀ q : Int, 0 ≤ q → q < p → 0 ≤ rd v0 q ∧ rd v0 q ≤ i) ∧
      (∀ k, k < l.length → 0 ≤ pr l k → pr l k < p → ((∃ x, x < i ∧ pr l x = pr l i ∧ (k = x ∨ Ahead l x k)) ↔ (rank l k : Int) < rd v0 (pr l k))) ∧
      (∀ q : Int, 0 ≤ q → q < p → rd v0 q = 0 ∨ ∃ k, k < l.length ∧ pr l k = q ∧ (rank l k : Int) + 1 = rd v0 q) := by
  have hp := g.proc i hi
  have hp1 := g.p1
  rcases hl (pr l i) hp.1 (by omega) with ⟨h1, h2⟩ | ⟨m, hm, hv⟩
  · rw [h1, over_nil]
    refine ⟨_, rfl, by simp; omega, fun q _ _ => by rw [rd_zeros]; omega, fun k hk h0 h3 => ?_, fun q _ _ => .inl (rd_zeros _ _)⟩
    rw [rd_zeros]
    constructor
    · rintro ⟨x, hx, hpx, _⟩
      exact absurd hpx (h2 x hx)
    · intro h; omega
  · have hml := hm.1
    rw [over_full _ _ (by have := hv.len; omega)]
    refine ⟨_, rfl, hv.len, fun q h0 h3 => by have := hv.pos q h0 h3; omega, fun k hk h0 h3 => ?_, hv.top⟩
    rw [← hv.mem k hk h0 h3]
    constructor
    · rintro ⟨x, hx, hpx, hkx⟩
      exact ahead_same hm hx hpx hkx
    · intro h; exact ⟨m, hml, hm.2.1, h⟩

theorem act_vec {p : Int} {l : List S57} (g : Good p l) {i : Nat} (hi : i < l.length) {out last : List (List Int)} (ho : out.length = i) (hout : ∀ m, m < i → VecOK p l m (out.getD m [])) (hl : LastOK p l i last) (k : Nat) (hk : 100 < k) :
    ∃ v, (if fm l i = -1 then some (overL (List.replicate p.toNat 0) (last.getD (pr l i).toNat [])) else if 0 ≤ fm l i ∧ fm l i < out.length then impl_joined.f k (overL (List.replicate p.toNat 0) (last.getD (pr l i).toNat [])) (out.getD (fm l i).toNat []) else none) = some v ∧
      (v.length : Int) = p ∧ VecOK p l i (v.set (pr l i).toNat (wrap64 (rd v (pr l i) + 1))) := by
  obtain ⟨v0, e0, hlen, hpos, hmem, htop⟩ := prev_facts g hi hl
  rw [e0]
  by_cases hf : fm l i = -1
  · rw [if_pos hf]
    refine ⟨v0, rfl, hlen, vec_step g hi hlen hpos (fun k hk h0 h1 => ?_) htop⟩
    rw [← hmem k hk h0 h1, ahead_iff]
    constructor
    · rintro ⟨x, ⟨hx, h | h⟩, hkx⟩
      · exact ⟨x, hx, h, hkx⟩
      · omega
    · rintro ⟨x, hx, h, hkx⟩
      exact ⟨x, ⟨hx, .inl h⟩, hkx⟩
  · have hfr := g.frm i hi
    have hp6 := g.p6
    obtain ⟨f, hff⟩ : ∃ f : Nat, (f : Int) = fm l i := ⟨(fm l i).toNat, by omega⟩
    rw [if_neg hf, ← hff, if_pos (by omega), Int.toNat_natCast]
    have hw := hout f (by omega)
    obtain ⟨w, hww⟩ : ∃ w, w = out.getD f [] := ⟨_, rfl⟩
    rw [← hww] at hw ⊢
    have hwl := hw.len
    rw [impl_joined_eq v0 w (by omega) (by omega) k (by omega)]
    have hz : ∀ q : Int, 0 ≤ q → q < p → rd (List.zipWith mx v0 w) q = mx (rd v0 q) (rd w q) := fun q h0 h1 => rd_zip v0 w (by omega) q h0 (by omega)
    have hzl : ((List.zipWith mx v0 w).length : Int) = p := by rw [List.length_zipWith]; omega
    refine ⟨_, rfl, hzl, vec_step g hi hzl (fun q h0 h1 => ?_) (fun k hk h0 h1 => ?_) (fun q h0 h1 => ?_)⟩
    · rw [hz q h0 h1]
      have := hpos q h0 h1
      have := hw.pos q h0 h1
      unfold mx
      omega
    · rw [hz _ h0 h1, ahead_iff]
      have h2 := hmem k hk h0 h1
      have h3 := hw.mem k hk h0 h1
      have e : (rank l k : Int) < mx (rd v0 (pr l k)) (rd w (pr l k)) ↔ ((rank l k : Int) < rd v0 (pr l k) ∨ (rank l k : Int) < rd w (pr l k)) := by
        unfold mx; split <;> constructor <;> intro h4 <;> omega
      rw [e, ← h2, ← h3]
      constructor
      · rintro ⟨x, ⟨hx, h | h⟩, hkx⟩
        · exact .inl ⟨x, hx, h, hkx⟩
        · have : x = f := by omega
          subst this
          exact .inr hkx
      · rintro (⟨x, hx, h, hkx⟩ | h)
        · exact ⟨x, ⟨hx, .inl h⟩, hkx⟩
        · exact ⟨f, ⟨by omega, .inr hff⟩, h⟩
    · rw [hz q h0 h1]
      have h2 := htop q h0 h1
      have h3 := hw.top q h0 h1
      have h4 := hpos q h0 h1
      have h5 := hw.pos q h0 h1
      rcases Int.lt_or_le (rd v0 q) (rd w q) with h | h
      · have e : mx (rd v0 q) (rd w q) = rd w q := by unfold mx; rw [if_pos h]
        rw [e]; exact h3
      · have e : mx (rd v0 q) (rd w q) = rd v0 q := by unfold mx; rw [if_neg (by omega)]
        rw [e]; exact h2

theorem vecs_loop {p : Int} {l : List S57} (g : Good p l) (k : Nat) (hk : 100 < k) (d : Nat) : ∀ (i : Nat) (out last : List (List Int)), i ≤ l.length → l.length - i = d → out.length = i → (∀ m, m < i → VecOK p l m (out.getD m [])) → (last.length : Int) = p → LastOK p l i last →
    ∃ V, vecGo k p (l.drop i) out last = some V ∧ V.length = l.length ∧ ∀ m, m < l.length → VecOK p l m (V.getD m []) := by
  induction d with
  | zero =>
    intro i out last hi hd ho hout hll hl
    rw [List.drop_of_length_le (by omega)]
    exact ⟨out, rfl, by omega, fun m hm => hout m (by omega)⟩
  | succ d ih =>
    intro i out last hi hd ho hout hll hl
    have hil : i < l.length := by omega
    have hp := g.proc i hil
    have h60 := g.len
    obtain ⟨v, hv, hvl, hok⟩ := act_vec g hil ho hout hl k hk
    obtain ⟨nv, hnv⟩ : ∃ nv, nv = v.set (pr l i).toNat (wrap64 (rd v (pr l i) + 1)) := ⟨_, rfl⟩
    rw [← hnv] at hok
    have hda : l.drop i = l.getD i z57 :: l.drop (i + 1) := dropS_at z57 l i hil
    have e1 : (l.getD i z57).f0 = pr l i := rfl
    have e2 : (l.getD i z57).f1 = fm l i := rfl
    rw [hda]
    simp only [vecGo, e1, e2]
    rw [if_pos (by omega), hv]; simp only [Option.bind_some]
    rw [if_pos (by omega), ← hnv]
    refine ih (i + 1) (out ++ [nv]) (last.set (pr l i).toNat nv) (by omega) (by omega) (by simp; omega) (fun m hm => ?_) (by rw [List.length_set]; exact hll) (fun q h0 h1 => ?_)
    · by_cases h : m = i
      · subst h
        rw [List.getD_eq_getElem?_getD, List.getElem?_append_right (by omega), ho]; simpa using hok
      · rw [List.getD_eq_getElem?_getD, List.getElem?_append_left (by omega), ← List.getD_eq_getElem?_getD]
        exact hout m (by omega)
    · by_cases h : q = pr l i
      · subst h
        refine .inr ⟨i, ⟨by omega, rfl, fun x h2 h3 => by omega⟩, ?_⟩
        rw [List.getD_eq_getElem?_getD, List.getElem?_set_self (by omega)]; exact hok
      · have e : (last.set (pr l i).toNat nv).getD q.toNat [] = last.getD q.toNat [] := by
          rw [List.getD_eq_getElem?_getD, List.getElem?_set_ne (by omega), List.getD_eq_getElem?_getD]
        rw [e]
        rcases hl q h0 h1 with ⟨h2, h3⟩ | ⟨m, hm, hv2⟩
        · refine .inl ⟨h2, fun x hx => ?_⟩
          by_cases hxi : x = i
          · rw [hxi]; exact fun e => h e.symm
          · exact h3 x (by omega)
        · refine .inr ⟨m, ⟨by have := hm.1; omega, hm.2.1, fun x h2 h3 => ?_⟩, hv2⟩
          by_cases hxi : x = i
          · rw [hxi]; exact fun e => h e.symm
          · exact hm.2.2 x h2 (by omega)

theorem vecs_ok {p : Int} {l : List S57} (g : Good p l) (k : Nat) (hk : 100 < k) : ∃ V, impl_vectors.f k p l = some V ∧ V.length = l.length ∧ ∀ m, m < l.length → VecOK p l m (V.getD m []) := by
  have h1 := g.p1
  have h6 := g.p6
  unfold impl_vectors.f
  rw [if_pos (by omega)]
  have := vecs_loop g k hk l.length 0 [] (List.replicate p.toNat []) (by omega) (by omega) rfl (fun m hm => by omega) (by simp; omega) (fun q h0 h2 => .inl ⟨?_, fun x hx => by omega⟩)
  · simpa using this
  · rw [List.getD_eq_getElem?_getD, List.getElem?_replicate]; split <;> rfl

theorem vec_cap {p : Int} {l : List S57} {i : Nat} {v : List Int} (hv : VecOK p l i v) (q : Int) (h0 : 0 ≤ q) (h1 : q < p) : rd v q ≤ cntP l q (i + 1) := by
  rcases hv.top q h0 h1 with h | ⟨k, hk, hq, hr⟩
  · omega
  · subst hq
    have h3 := inS_le ((hv.mem k hk h0 h1).2 (by omega))
    have h2 := cntP_lt l (pr l k) (show k < i + 1 by omega) rfl
    unfold rank at hr
    omega
theorem rd_put (x : List Int) (a q y : Int) (h0 : 0 ≤ a) (h1 : a < x.length) (hq : 0 ≤ q) : rd (x.set a.toNat y) q = if q = a then y else rd x q := by
  unfold rd
  rw [getD_set 0 x _ _ _ (by omega)]
  by_cases e : q = a
  · rw [if_pos e, if_pos (by rw [e])]
  · rw [if_neg e, if_neg (by omega)]
theorem list_rd (x y : List Int) (h : x.length = y.length) (hr : ∀ q : Int, 0 ≤ q → q < x.length → rd x q = rd y q) : x = y := by
  apply List.ext_getElem h
  intro n h1 h2
  have := hr n (by omega) (by omega)
  rw [rd_at, rd_at, List.getD_eq_getElem?_getD, List.getD_eq_getElem?_getD, List.getElem?_eq_getElem h1, List.getElem?_eq_getElem h2] at this
  simpa using this
theorem cntP_next (l : List S57) (q : Int) (j : Nat) : (cntP l q (j + 1) : Int) = cntP l q j + if pr l j = q then 1 else 0 := by
  simp only [cntP]; split <;> omega

open Classical in
theorem spec_vec_in {p : Int} {l : List S57} (g : Good p l) {i : Nat} (hi : i < l.length) {v : List Int} {row : List Bool} {R : List (List Bool)} {n : Int} (hv : VecOK p l i v) (hrow : row.length = l.length) (hr : ∀ j, row.getD j false = true ↔ Ahead l i j)
    {out : List (List Int)} (hout : out.length < 1000) {r : List (List Int) × Bool} (hend : Ev (fun k => spec_VectorsOf.l0 k p l (out ++ [v]) R n ((i + 1 : Nat) : Int)) r) (d : Nat) :
    ∀ (j : Nat) (x : List Int), j ≤ i + 1 → i + 1 - j = d → (x.length : Int) = p → (∀ q : Int, 0 ≤ q → q < p → rd x q = min (cntP l q j : Int) (rd v q)) → Ev (fun k => spec_VectorsOf.l1 k p l out i row x j R n i) r := by
  have h60 := g.len
  induction d with
  | zero =>
    intro j x hj hd hx hxr
    obtain rfl : j = i + 1 := by omega
    have e : x = v := by
      refine list_rd x v (by have := hv.len; omega) (fun q h0 h1 => ?_)
      have := vec_cap hv q h0 (by omega)
      rw [hxr q h0 (by omega)]
      omega
    subst e
    refine Ev.step (fun k => ?_) hend
    simp only [spec_VectorsOf.l1]
    rw [if_neg (by omega), if_pos (by omega), wrap_next hi (by omega)]
  | succ d ih =>
    intro j x hj hd hx hxr
    have hji : j ≤ i := by omega
    have hjl : j < l.length := by omega
    have gp := g.proc j hjl
    have hmem := hv.mem j hjl gp.1 (by omega)
    have hc := cntP_le l (pr l j) j
    have hq := hxr (pr l j) gp.1 (by omega)
    have epr : (rd_T57 l (j : Int)).f0 = pr l j := by rw [rdS_at]; rfl
    have go : Ev (fun k => spec_VectorsOf.l1 k p l out i row (if InS l i j then x.set (pr l j).toNat (rd x (pr l j) + 1) else x) ((j + 1 : Nat) : Int) R n i) r := by
      refine ih (j + 1) _ (by omega) (by omega) (by split <;> simp [hx]) (fun q h0 h1 => ?_)
      have hn := cntP_next l q j
      have hq2 := hxr q h0 h1
      by_cases hin : InS l i j
      · rw [if_pos hin, rd_put x _ q _ gp.1 (by omega) h0]
        have hlt := hmem.1 hin
        unfold rank at hlt
        by_cases e : q = pr l j
        · subst e
          rw [if_pos rfl] at hn ⊢
          omega
        · rw [if_neg e]
          rw [if_neg (fun h => e h.symm)] at hn
          omega
      · rw [if_neg hin]
        have hge : ¬ (rank l j : Int) < rd v (pr l j) := fun h => hin (hmem.2 h)
        unfold rank at hge
        by_cases e : q = pr l j
        · subst e
          rw [if_pos rfl] at hn
          omega
        · rw [if_neg (fun h => e h.symm)] at hn
          omega
    refine Ev.step (fun k => ?_) go
    simp only [spec_VectorsOf.l1]
    rw [if_pos (by omega), if_pos (by omega), if_pos (by omega), rdOf_at, wrap_next hjl (by omega), epr]
    have hw : wrap64 (rd x (pr l j) + 1) = rd x (pr l j) + 1 := wrap_small (by have := (hv.pos (pr l j) gp.1 (by omega)).1; omega) (by omega)
    rw [hw]
    by_cases ha : Ahead l i j
    · rw [if_pos ((hr j).2 ha), if_pos (by omega), if_pos gp.1, if_pos (by omega), if_pos (show InS l i j from Or.inr ha)]
    · rw [if_neg (fun h => ha ((hr j).1 h))]
      by_cases e : j = i
      · subst e
        rw [if_pos rfl, if_pos (by omega), if_pos gp.1, if_pos (by omega), if_pos (show InS l j j from Or.inl rfl)]
      · rw [if_neg (by omega), if_neg (fun h => h.elim (fun h => e h) ha)]

theorem spec_vec_out {p : Int} {l : List S57} (g : Good p l) {V : List (List Int)} (hV : V.length = l.length) (hok : ∀ m, m < l.length → VecOK p l m (V.getD m [])) {R : List (List Bool)} (hR1 : R.length = l.length) (hR2 : ∀ k, k < l.length → (R.getD k []).length = l.length)
    (hR3 : ∀ k, k < l.length → ∀ j, (R.getD k []).getD j false = true ↔ Ahead l k j) (d : Nat) : ∀ i : Nat, i ≤ l.length → l.length - i = d → Ev (fun k => spec_VectorsOf.l0 k p l (V.take i) R (R.length : Int) i) (V, true) := by
  have h60 := g.len
  have hp := g.p1
  have hp6 := g.p6
  induction d with
  | zero =>
    intro i hi hd
    obtain rfl : i = l.length := by omega
    refine Ev.step (f := fun _ => some (V, true)) (fun k => ?_) (Ev.now _)
    simp only [spec_VectorsOf.l0]
    rw [if_neg (by omega), List.take_of_length_le (by omega)]
  | succ d ih =>
    intro i hi hd
    have hil : i < l.length := by omega
    have htk : V.take (i + 1) = V.take i ++ [V.getD i []] := by
      rw [List.take_succ_eq_append_getElem (by omega), List.getD_eq_getElem?_getD, List.getElem?_eq_getElem (by omega)]; rfl
    have hnext := ih (i + 1) (by omega) (by omega)
    rw [htk] at hnext
    have hv := hok i hil
    have hin := spec_vec_in g hil (R := R) (n := (R.length : Int)) hv (hR2 i hil) (hR3 i hil) (out := V.take i) (by rw [List.length_take]; omega) hnext (i + 1) 0 (List.replicate p.toNat 0) (by omega) (by omega) (by rw [List.length_replicate]; omega)
      (fun q h0 h1 => by rw [rd_zeros]; have := (hv.pos q h0 h1).1; simp only [cntP]; omega)
    refine Ev.step (fun k => ?_) hin
    simp only [spec_VectorsOf.l0]
    rw [if_pos (by omega), if_pos (by omega), if_pos (by omega), if_pos (by omega), if_pos (by omega), rdL4_at]
    rfl

/-- the numbers of all acts: each one more than the greatest of those ahead of it, at least 1 -/
structure Lam (l : List S57) (n : Nat) (x : List Int) : Prop where
  len : x.length = n
  one : ∀ i, i < n → 1 ≤ x.getD i 0 ∧ x.getD i 0 ≤ (i : Int) + 1
  more : ∀ i, i < n → ∀ k, Ahead l i k → x.getD k 0 < x.getD i 0
  tight : ∀ i, i < n → x.getD i 0 = 1 ∨ ∃ k, Ahead l i k ∧ x.getD i 0 = x.getD k 0 + 1

theorem mx_eq (a b : Int) : mx a b = max a b := by unfold mx; rw [Int.max_def]; split <;> omega

/-- The next number. w: the greatest of the last of the same and of the one that a message comes from, 0 without any. -/
theorem lam_snoc {p : Int} {l : List S57} (g : Good p l) {i : Nat} (hi : i < l.length) {x : List Int} (h : Lam l i x) (w : Int) (h0 : 0 ≤ w)
    (hs : ∀ m, LastOf l i (pr l i) m → x.getD m 0 ≤ w) (hf : fm l i ≠ -1 → x.getD (fm l i).toNat 0 ≤ w)
    (hw : w = 0 ∨ (∃ m, LastOf l i (pr l i) m ∧ w = x.getD m 0) ∨ (fm l i ≠ -1 ∧ w = x.getD (fm l i).toNat 0)) : Lam l (i + 1) (x ++ [w + 1]) := by
  have hl := h.len
  have at_i : (x ++ [w + 1]).getD i 0 = w + 1 := by rw [getD_snoc, if_pos hl.symm]
  have at_k : ∀ k, k < i → (x ++ [w + 1]).getD k 0 = x.getD k 0 := fun k hk => by rw [getD_snoc, if_neg (by omega)]
  have wi : w ≤ i := by
    rcases hw with hw | ⟨m, hm, hw⟩ | ⟨hf1, hw⟩
    · omega
    · have := h.one m hm.1; have := hm.1; omega
    · have := (next_from g hi hf1); have h2 := h.one _ this.1.1; have := this.1.1; omega
  -- what is told at once is at most w
  have nx : ∀ k, Next l i k → x.getD k 0 ≤ w := by
    intro k hk
    rcases hk.2 with hp | hp
    · -- the last of the same
      have : ∃ m, LastOf l i (pr l i) m ∧ k ≤ m := by
        have aux : ∀ d k, i - k = d → k < i → pr l k = pr l i → ∃ m, LastOf l i (pr l i) m ∧ k ≤ m := by
          intro d
          induction d using Nat.strongRecOn with
          | ind d ih =>
            intro k hd hk hp
            by_cases e : ∃ k', k < k' ∧ k' < i ∧ pr l k' = pr l i
            · obtain ⟨k', h1, h2, h3⟩ := e
              obtain ⟨m, hm, hle⟩ := ih (i - k') (by omega) k' rfl h2 h3
              exact ⟨m, hm, by omega⟩
            · exact ⟨k, ⟨hk, hp, fun k' h1 h2 h3 => e ⟨k', h1, h2, h3⟩⟩, Nat.le_refl _⟩
        exact aux (i - k) k rfl hk.1 hp
      obtain ⟨m, hm, hle⟩ := this
      by_cases e : k = m
      · subst e; exact hs k hm
      · have h1 := h.more m hm.1 k (ahead_next ⟨by omega, .inl (hp.trans hm.2.1.symm)⟩)
        have h2 := hs m hm
        omega
    · have hne : fm l i ≠ -1 := by omega
      have : (fm l i).toNat = k := by omega
      rw [← this]; exact hf hne
  refine ⟨by simp [hl], fun j hj => ?_, fun j hj k hk => ?_, fun j hj => ?_⟩
  · by_cases e : j = i
    · subst e; rw [at_i]; omega
    · rw [at_k j (by omega)]; exact h.one j (by omega)
  · have hlt := ahead_lt j k hk
    by_cases e : j = i
    · subst e
      rw [at_i, at_k k hlt]
      obtain ⟨m, hm, hk2 | hk2⟩ := (ahead_iff l j k).1 hk
      · subst hk2; have := nx k hm; omega
      · have h1 := h.more m hm.1 k hk2; have := nx m hm; omega
    · rw [at_k j (by omega), at_k k (by omega)]; exact h.more j (by omega) k hk
  · by_cases e : j = i
    · subst e
      rw [at_i]
      rcases hw with hw | ⟨m, hm, hw⟩ | ⟨hf1, hw⟩
      · left; omega
      · right; exact ⟨m, ahead_next ⟨hm.1, .inl hm.2.1⟩, by rw [at_k m hm.1, hw]⟩
      · right
        have := (next_from g hi hf1)
        exact ⟨_, ahead_next this.1, by rw [at_k _ this.1.1, hw]⟩
    · rw [at_k j (by omega)]
      rcases h.tight j (by omega) with h1 | ⟨k, hk, h1⟩
      · exact .inl h1
      · exact .inr ⟨k, hk, by rw [at_k k (by have := ahead_lt j k hk; omega)]; exact h1⟩

theorem impl_lam_loop {p : Int} {l : List S57} (g : Good p l) (d : Nat) : ∀ (i : Nat) (x y : List Int), i ≤ l.length → l.length - i = d → Lam l i x → y.length = p.toNat →
    (∀ q : Nat, q < y.length → (NoneOf l i q ∧ y.getD q 0 = 0) ∨ ∃ m, LastOf l i q m ∧ y.getD q 0 = x.getD m 0) →
    ∃ N, Lam l l.length N ∧ Ev (fun k => impl_LamportOf.l0 k x y l l.length i) (N, true) := by
  induction d with
  | zero =>
    intro i x y hi hd h hy hyq
    obtain rfl : i = l.length := by omega
    refine ⟨x, h, Ev.step (f := fun _ => some (x, true)) (fun q => ?_) (Ev.now _)⟩
    simp only [impl_LamportOf.l0]; rw [if_neg (by omega)]
  | succ d ih =>
    intro i x y hi hd h hy hyq
    have hil : i < l.length := by omega
    have gp := g.proc i hil
    have gf := g.frm i hil
    have hlen := g.len
    have hp6 := g.p6
    have hxl := h.len
    have hqy : (pr l i).toNat < y.length := by omega
    have epr : ((pr l i).toNat : Int) = pr l i := by omega
    have yv := hyq (pr l i).toNat hqy
    rw [epr] at yv
    have hx : ∀ m, m < i → 1 ≤ x.getD m 0 ∧ x.getD m 0 ≤ (m : Int) + 1 := h.one
    have y0 : 0 ≤ y.getD (pr l i).toNat 0 ∧ y.getD (pr l i).toNat 0 ≤ i := by
      rcases yv with ⟨_, e⟩ | ⟨m, hm, e⟩
      · omega
      · have := hx m hm.1; have := hm.1; omega
    have YV := Aside0.mk yv
    clear yv
    have step : ∀ w : Int, 0 ≤ w → w ≤ i → Lam l (i + 1) (x ++ [w + 1]) → ∃ N, Lam l l.length N ∧ Ev (fun k => impl_LamportOf.l0 k (x ++ [w + 1]) (y.set (pr l i).toNat (w + 1)) l l.length ((i + 1 : Nat) : Int)) (N, true) := by
      intro w w0 w1 hL
      refine ih (i + 1) _ _ (by omega) (by omega) hL (by rw [List.length_set]; exact hy) (fun q hq => ?_)
      rw [List.length_set] at hq
      rw [getD_set 0 y _ q _ hqy]
      by_cases e : q = (pr l i).toNat
      · right
        refine ⟨i, ⟨by omega, by rw [e, epr], fun k h1 h2 => by omega⟩, ?_⟩
        rw [if_pos e, getD_snoc, if_pos hxl.symm]
      · rw [if_neg e]
        have hne : pr l i ≠ (q : Int) := by omega
        rcases hyq q hq with ⟨h1, h2⟩ | ⟨m, hm, h2⟩
        · left
          refine ⟨fun k hk => ?_, h2⟩
          by_cases e2 : k = i
          · rw [e2]; exact hne
          · exact h1 k (by omega)
        · right
          refine ⟨m, ⟨by have := hm.1; omega, hm.2.1, fun k h3 h4 => ?_⟩, ?_⟩
          · by_cases e2 : k = i
            · rw [e2]; exact hne
            · exact hm.2.2 k h3 (by omega)
          · rw [h2, getD_snoc, if_neg (by have := hm.1; omega)]
    have hsame : ∀ w, y.getD (pr l i).toNat 0 ≤ w → ∀ m, LastOf l i (pr l i) m → x.getD m 0 ≤ w := by
      intro w hw m hm
      rcases YV.out with ⟨h1, _⟩ | ⟨m', hm', e⟩
      · exact absurd hm.2.1 (h1 m hm.1)
      · have : m = m' := by
          rcases Nat.lt_trichotomy m m' with h3 | h3 | h3
          · exact absurd hm'.2.1 (hm.2.2 m' h3 hm'.1)
          · exact h3
          · exact absurd hm.2.1 (hm'.2.2 m h3 hm.1)
        rw [this, ← e]; exact hw
    have YW := Aside0.mk (show y.getD (pr l i).toNat 0 = 0 ∨ (∃ m, LastOf l i (pr l i) m ∧ y.getD (pr l i).toNat 0 = x.getD m 0) by
      rcases YV.out with ⟨_, e⟩ | h1
      · exact .inl e
      · exact .inr h1)
    by_cases hf : fm l i = -1
    · have hL := lam_snoc g hil h (y.getD (pr l i).toNat 0) y0.1 (hsame _ (Int.le_refl _)) (fun h1 => absurd hf h1) (by rcases YW.out with e | e; exact .inl e; exact .inr (.inl e))
      obtain ⟨N, hN, hev⟩ := step _ y0.1 y0.2 hL
      refine ⟨N, hN, Ev.step (fun q => ?_) hev⟩
      simp only [impl_LamportOf.l0]; rw [if_pos (by omega), if_pos (by omega), if_pos (by omega), rdS_at]
      have e1 : (l.getD i z57).f0 = pr l i := rfl
      have e2 : (l.getD i z57).f1 = fm l i := rfl
      rw [e1, e2, if_pos gp.1, if_pos (by omega), if_pos hf, if_pos (by omega), show rd y (pr l i) = y.getD (pr l i).toNat 0 from rfl, wrap_small (x := y.getD (pr l i).toNat 0 + 1) (by omega) (by omega), wrap_next (n := l.length) (by omega) (by omega)]
    · have hnx := next_from g hil hf
      have hxf := hx _ hnx.1.1
      have hlt := hnx.1.1
      have hL := lam_snoc g hil h (mx (y.getD (pr l i).toNat 0) (x.getD (fm l i).toNat 0)) (by rw [mx_eq]; omega) (hsame _ (by rw [mx_eq]; omega)) (fun _ => by rw [mx_eq]; omega) (by
        rw [mx_eq]
        rcases Int.le_total (y.getD (pr l i).toNat 0) (x.getD (fm l i).toNat 0) with e | e
        · exact .inr (.inr ⟨hf, by omega⟩)
        · rcases YW.out with e2 | ⟨m, hm, e2⟩
          · left; omega
          · exact .inr (.inl ⟨m, hm, by omega⟩))
      obtain ⟨N, hN, hev⟩ := step _ (by rw [mx_eq]; omega) (by rw [mx_eq]; omega) hL
      refine ⟨N, hN, Ev.step (fun q => ?_) hev⟩
      simp only [impl_LamportOf.l0]; rw [if_pos (by omega), if_pos (by omega), if_pos (by omega), rdS_at]
      have e1 : (l.getD i z57).f0 = pr l i := rfl
      have e2 : (l.getD i z57).f1 = fm l i := rfl
      have b1 : mx (y.getD (pr l i).toNat 0) (x.getD (fm l i).toNat 0) ≤ 1000 ∧ 0 ≤ mx (y.getD (pr l i).toNat 0) (x.getD (fm l i).toNat 0) := by rw [mx_eq]; omega
      rw [e1, e2, if_pos gp.1, if_pos (by omega), if_neg hf, if_pos (by omega), if_pos (by omega), if_pos (by omega), show rd y (pr l i) = y.getD (pr l i).toNat 0 from rfl, show rd x (fm l i) = x.getD (fm l i).toNat 0 from rfl, wrap_small (x := mx (y.getD (pr l i).toNat 0) (x.getD (fm l i).toNat 0) + 1) (by omega) (by omega), wrap_next (n := l.length) (by omega) (by omega)]

/-- the reference's inner loop comes to the number that the list has -/
theorem spec_lam_inner {l : List S57} (hn : l.length ≤ 60) (rows : List (List Bool)) (hrl : rows.length = l.length) (hrow : ∀ k, k < l.length → (rows.getD k []).length = l.length) (hrows : ∀ k, k < l.length → ∀ j, (rows.getD k []).getD j false = true ↔ Ahead l k j)
    {N : List Int} (hN : Lam l l.length N) (i : Nat) (hi : i < l.length) (r : List Int × Bool) (hc : Ev (fun q => spec_LamportOf.l0 q (N.take (i + 1)) rows l.length ((i + 1 : Nat) : Int)) r) (d : Nat) :
    ∀ (k : Nat) (v : Int), k ≤ i → i - k = d → 1 ≤ v → v ≤ 61 → (∀ m, m < k → Ahead l i m → N.getD m 0 < v) → Aside0 (v = 1 ∨ ∃ m, m < k ∧ Ahead l i m ∧ v = N.getD m 0 + 1) →
      Ev (fun q => spec_LamportOf.l1 q (N.take i) i (rows.getD i []) v k rows l.length i) r := by
  have hNl := hN.len
  have htl : (N.take i).length = i := by rw [List.length_take]; omega
  have hr1 := hrow i hi
  have ht : ∀ m, m < i → (N.take i).getD m 0 = N.getD m 0 := by
    intro m hm
    rw [List.getD_eq_getElem?_getD, List.getD_eq_getElem?_getD, List.getElem?_take_of_lt hm]
  induction d with
  | zero =>
    intro k v hk hd v1 v61 hup hti
    obtain rfl : k = i := by omega
    have hv : v = N.getD k 0 := by
      have h1 := hN.one k hi
      have hle : v ≤ N.getD k 0 := by
        rcases hti.out with h2 | ⟨m, _, hm, h2⟩
        · omega
        · have := hN.more k hi m hm; omega
      rcases hN.tight k hi with h2 | ⟨m, hm, h2⟩
      · omega
      · have := hup m (ahead_lt k m hm) hm; omega
    refine Ev.step (fun q => ?_) hc
    simp only [spec_LamportOf.l1]; rw [if_neg (by omega), if_pos (by omega), wrap_next (n := l.length) (by omega) (by omega), hv, take_at N k (by omega)]
  | succ d ih =>
    intro k v hk hd v1 v61 hup hti
    cases hb : (rows.getD i []).getD k false with
    | false =>
      refine Ev.step (fun q => ?_) (ih (k + 1) v (by omega) (by omega) v1 v61 (fun m hm ha => ?_) ⟨?_⟩)
      · simp only [spec_LamportOf.l1]; rw [if_pos (by omega), if_pos (by omega), if_pos (by omega), rdOf_at, hb, if_neg (by decide), wrap_next (n := l.length) (by omega) (by omega)]
      · by_cases e : m = k
        · subst e; have := (hrows i hi m).2 ha; rw [hb] at this; cases this
        · exact hup m (by omega) ha
      · rcases hti.out with h2 | ⟨m, h3, hm, h2⟩
        · exact .inl h2
        · exact .inr ⟨m, by omega, hm, h2⟩
    | true =>
      have ha := (hrows i hi k).1 hb
      have hk1 := hN.one k (by omega)
      by_cases hge : N.getD k 0 ≥ v
      · refine Ev.step (fun q => ?_) (ih (k + 1) (N.getD k 0 + 1) (by omega) (by omega) (by omega) (by omega) (fun m hm ham => ?_) ⟨.inr ⟨k, by omega, ha, rfl⟩⟩)
        · simp only [spec_LamportOf.l1]; rw [if_pos (by omega), if_pos (by omega), if_pos (by omega), rdOf_at, hb, if_pos rfl, if_pos (by omega), rd_at, ht k (by omega), if_pos hge, wrap_next (n := l.length) (by omega) (by omega), wrap_small (x := N.getD k 0 + 1) (by omega) (by omega)]
        · by_cases e : m = k
          · subst e; omega
          · have := hup m (by omega) ham; omega
      · refine Ev.step (fun q => ?_) (ih (k + 1) v (by omega) (by omega) v1 v61 (fun m hm ham => ?_) ⟨?_⟩)
        · simp only [spec_LamportOf.l1]; rw [if_pos (by omega), if_pos (by omega), if_pos (by omega), rdOf_at, hb, if_pos rfl, if_pos (by omega), rd_at, ht k (by omega), if_neg hge, wrap_next (n := l.length) (by omega) (by omega)]
        · by_cases e : m = k
          · subst e; omega
          · exact hup m (by omega) ham
        · rcases hti.out with h2 | ⟨m, h3, hm, h2⟩
          · exact .inl h2
          · exact .inr ⟨m, by omega, hm, h2⟩

theorem spec_lam_loop {l : List S57} (hn : l.length ≤ 60) (rows : List (List Bool)) (hrl : rows.length = l.length) (hrow : ∀ k, k < l.length → (rows.getD k []).length = l.length) (hrows : ∀ k, k < l.length → ∀ j, (rows.getD k []).getD j false = true ↔ Ahead l k j)
    {N : List Int} (hN : Lam l l.length N) (d : Nat) : ∀ i, i ≤ l.length → l.length - i = d → Ev (fun q => spec_LamportOf.l0 q (N.take i) rows l.length i) (N, true) := by
  have hNl := hN.len
  induction d with
  | zero =>
    intro i hi hd
    obtain rfl : i = l.length := by omega
    refine Ev.step (f := fun _ => some (N, true)) (fun q => ?_) (Ev.now _)
    simp only [spec_LamportOf.l0]; rw [if_neg (by omega), List.take_of_length_le (by omega)]
  | succ d ih =>
    intro i hi hd
    refine Ev.step (fun q => ?_) (spec_lam_inner hn rows hrl hrow hrows hN i (by omega) (N, true) (ih (i + 1) (by omega) (by omega)) i 0 1 (by omega) (by omega) (by omega) (by omega) (fun m hm => by omega) ⟨.inl rfl⟩)
    simp only [spec_LamportOf.l0]; rw [if_pos (by omega), if_pos (by omega), if_pos (by omega), rdL4_at]; rfl

/-- WHAT BOTH LamportOf TELL. -/
theorem lam_both (p : Int) (l : List S57) (hn : l.length ≤ 1048576) : ∃ r : List Int × Bool, Ev (fun k => spec_LamportOf.f k p l) r ∧ Ev (fun k => impl_LamportOf.f k p l) r ∧ r.1.length ≤ 60 ∧ (r.2 = true → Good p l ∧ Lam l l.length r.1) ∧ (r.2 = goodB p l) := by
  have hs : Ev (fun k => spec_GoodActs.f k p l) (goodB p l) := ⟨l.length + 1, fun k hk => spec_good p l hn k (by omega)⟩
  have hi : Ev (fun k => impl_GoodActs.f k p l) (goodB p l) := ⟨l.length + 2, fun k hk => impl_good p l hn k (by omega)⟩
  cases hg : goodB p l with
  | false =>
    rw [hg] at hs hi
    exact ⟨([], false), Ev.bind hs (Ev.now _), Ev.bind hi (Ev.now _), by simp, (fun h => by cases h), rfl⟩
  | true =>
    rw [hg] at hs hi
    have g := good_of p l hg
    have hp1 := g.p1
    have hp6 := g.p6
    obtain ⟨rows, hrev, hrl, hrow, hrows⟩ := ahead_rows l (by have := g.len; omega)
    obtain ⟨N, hN, hev⟩ := impl_lam_loop g l.length 0 [] (List.replicate p.toNat 0) (by omega) (by omega) ⟨rfl, fun i hi => by omega, fun i hi => by omega, fun i hi => by omega⟩ (by simp) (fun q hq => .inl ⟨fun k hk => by omega, by
      rw [List.getD_eq_getElem?_getD, List.getElem?_replicate]; split <;> rfl⟩)
    have hsp := spec_lam_loop g.len rows hrl hrow hrows hN l.length 0 (by omega) (by omega)
    have hA : Ev (fun k => (spec_l2Ahead.f k l).bind fun t => spec_LamportOf.l0 k [] t t.length 0) (N, true) := by
      refine Ev.bind (f := fun k t => spec_LamportOf.l0 k [] t t.length 0) hrev ?_
      simp only [hrl]
      exact hsp
    have hS : Ev (fun k => spec_LamportOf.f k p l) (N, true) := Ev.bind (f := fun k t => if t = true then ((spec_l2Ahead.f k l).bind fun t => spec_LamportOf.l0 k [] t t.length 0) else some ([], false)) hs (by simpa using hA)
    have hB : Ev (fun k => (if 0 ≤ p then (if (p : Int).toNat ≤ 35184372088832 then (impl_LamportOf.l0 k (([] : List Int)) (List.replicate (p : Int).toNat 0) l (l.length : Int) 0) else (none)) else (none))) (N, true) := by
      simp only [show (0 : Int) ≤ p by omega, show p.toNat ≤ 35184372088832 by omega, if_true]; exact hev
    have hI : Ev (fun k => impl_LamportOf.f k p l) (N, true) := Ev.bind (f := fun k t => if t = true then (if 0 ≤ p then (if (p : Int).toNat ≤ 35184372088832 then (impl_LamportOf.l0 k (([] : List Int)) (List.replicate (p : Int).toNat 0) l (l.length : Int) 0) else (none)) else (none)) else some ([], false)) hi (by simpa using hB)
    exact ⟨(N, true), hS, hI, by have := hN.len; have := g.len; simp only; omega, fun _ => ⟨g, hN⟩, rfl⟩

theorem same_loop (a b : List Int) (hab : a.length = b.length) (hn : a.length ≤ 140737488351232) (d : Nat) : ∀ (k j : Nat), j ≤ a.length → a.length - j = d → d < k →
    laws_sameInts.l0 k a b a.length j = some (decide (a.drop j = b.drop j)) := by
  induction d with
  | zero =>
    intro k j hj hd hk
    obtain ⟨k, rfl⟩ : ∃ m, k = m + 1 := ⟨k - 1, by omega⟩
    simp only [laws_sameInts.l0]; rw [if_neg (by omega), List.drop_of_length_le (by omega), List.drop_of_length_le (by omega)]; simp
  | succ d ih =>
    intro k j hj hd hk
    obtain ⟨k, rfl⟩ : ∃ m, k = m + 1 := ⟨k - 1, by omega⟩
    simp only [laws_sameInts.l0]; rw [if_pos (by omega), if_pos (by omega), if_pos (by omega), if_pos (by omega), wrap_next (n := a.length) (by omega) hn, rd_at, rd_at, drop_at a j (by omega), drop_at b j (by omega)]
    by_cases h : a.getD j 0 = b.getD j 0
    · rw [if_pos h, ih k (j + 1) (by omega) (by omega) (by omega)]; simp only [List.cons.injEq, h, true_and]
    · rw [if_neg h]; simp only [List.cons.injEq, h, false_and, decide_false]

theorem same_eq (a b : List Int) (hn : a.length ≤ 140737488351232) (k : Nat) (hk : a.length < k) : laws_sameInts.f k a b = some (decide (a = b)) := by
  unfold laws_sameInts.f
  by_cases h : a.length = b.length
  · rw [if_pos (by omega)]
    have := same_loop a b h hn a.length k 0 (by omega) (by omega) hk
    simpa using this
  · rw [if_neg (by omega), decide_eq_false (fun e => h (by rw [e]))]

def inCut (l : List S57) (cut : List Int) (k : Nat) : Bool := decide ((rank l k : Int) < rd cut (pr l k))
/-- a vector is below the cut just where all that it counts is in the cut -/
theorem below_cut {p : Int} {l : List S57} (g : Good p l) (cut : List Int) (hcl : (cut.length : Int) = p) (hpos : ∀ q, q < cut.length → 0 ≤ cut.getD q 0) {m : Nat} (hm : m < l.length) {v : List Int} (hv : VecOK p l m v) :
    moreL v cut = false ↔ ∀ k, InS l m k → inCut l cut k = true := by
  have hvl := hv.len
  rw [more_iff _ _ (by omega)]
  constructor
  · intro h k hk
    have hkl : k < l.length := by have := inS_le hk; omega
    have hp := g.proc k hkl
    obtain ⟨q, hq⟩ : ∃ q : Nat, (q : Int) = pr l k := ⟨(pr l k).toNat, by omega⟩
    have h1 := (hv.mem k hkl hp.1 (by omega)).1 hk
    have h2 := h q (by omega)
    unfold inCut
    rw [decide_eq_true_eq, ← hq]
    rw [← hq] at h1
    unfold rd at h1 ⊢
    rw [Int.toNat_natCast] at h1 ⊢
    omega
  · intro h q hq
    have h3 := hpos q (by omega)
    rcases hv.top (q : Int) (by omega) (by omega) with h1 | ⟨k, hk, hkq, hr⟩
    · unfold rd at h1; rw [Int.toNat_natCast] at h1; omega
    · have h2 : InS l m k := (hv.mem k hk (by omega) (by omega)).2 (by rw [hkq]; omega)
      have h4 := h k h2
      unfold inCut at h4
      rw [decide_eq_true_eq, hkq] at h4
      unfold rd at h4 hr
      rw [Int.toNat_natCast] at h4 hr
      omega

def BytesIn (l : List Int) : Prop := ∀ x ∈ l, 0 ≤ x ∧ x ≤ 255
theorem bytesIn_of {l : List Int} (h : ∀ x ∈ l, (Lit.int .u8 x).wf = true) : BytesIn l := fun x hx => by
  have := h x hx
  simp only [Lit.wf, Bool.and_eq_true, decide_eq_true_eq] at this
  exact ⟨this.1, this.2⟩
theorem rd_byte {l : List Int} (h : BytesIn l) (i : Int) : 0 ≤ rd l i ∧ rd l i ≤ 255 := by
  unfold rd
  rw [List.getD_eq_getElem?_getD]
  by_cases c : i.toNat < l.length
  · rw [List.getElem?_eq_getElem c]; exact h _ (List.getElem_mem c)
  · rw [List.getElem?_eq_none (by omega)]; simp
theorem and_byte (x : Int) (h0 : 0 ≤ x) (h1 : x < 18446744073709551616) : 0 ≤ Go.bits .and .u64 x 255 ∧ Go.bits .and .u64 x 255 ≤ 255 := by
  rw [u64_and x 255 h0 h1 (by omega) (by omega)]
  have : x.toNat &&& (255 : Int).toNat ≤ (255 : Int).toNat := Nat.and_le_right
  simp only [Int.reduceToNat] at this ⊢
  omega
theorem u64_range (x : Int) : 0 ≤ IntKind.u64.wrap x ∧ IntKind.u64.wrap x < 18446744073709551616 := by rw [IntKind.wrap_u64]; omega
theorem and_wrap (y : Int) : 0 ≤ wrap64 (Go.bits .and .u64 (IntKind.u64.wrap y / 1099511627776) 255) ∧ wrap64 (Go.bits .and .u64 (IntKind.u64.wrap y / 1099511627776) 255) ≤ 255 := by
  have h := u64_range y
  have := and_byte (IntKind.u64.wrap y / 1099511627776) (by omega) (by omega)
  rw [wrap_small (by omega) (by omega)]; exact this
theorem next_b {l : List Int} (hb : BytesIn l) (s t : Int) (h0 : 0 ≤ s) (h1 : s ≤ 1000000000000) : ∃ v t', spec_l1Cur_next.f l s t = some (v, s + 1, t') ∧ 0 ≤ v ∧ v ≤ 255 := by
  unfold spec_l1Cur_next.f
  have hr := rd_byte hb s
  rw [wrap_small (x := s + 1) (by omega) (by omega), wrap_small (x := rd l s) (by omega) (by omega)]
  by_cases h : s < l.length
  · rw [if_pos h, if_pos h0, if_pos (by omega)]
    exact ⟨_, _, rfl, hr.1, hr.2⟩
  · rw [if_neg h, if_neg (by omega)]
    have := and_wrap (IntKind.u64.wrap (IntKind.u64.wrap (t * 6364136223846793005) + 0) + 1442695040888963407)
    exact ⟨_, _, rfl, this.1, this.2⟩
theorem pick_b {l : List Int} (hb : BytesIn l) (s t n : Int) (h0 : 0 ≤ s) (h1 : s ≤ 100000000000) (hn : n ≤ 70000) : ∃ v s' t', spec_l1Cur_pick.f l s t n = some (v, s', t') ∧ 0 ≤ v ∧ (v < n ∨ v = 0) ∧ s ≤ s' ∧ s' ≤ s + 2 := by
  unfold spec_l1Cur_pick.f
  by_cases c : n ≤ 1
  · rw [if_pos c]; exact ⟨_, _, _, rfl, by omega, .inr rfl, by omega, by omega⟩
  rw [if_neg c]
  obtain ⟨v, t', hv, hv0, hv1⟩ := next_b hb s t h0 (by omega)
  rw [hv]; simp only [Option.bind_some]
  by_cases c2 : n > 200
  · obtain ⟨u, t2, hu, hu0, hu1⟩ := next_b hb (s + 1) t' (by omega) (by omega)
    rw [if_pos c2, hu]; simp only [Option.bind_some]
    rw [if_neg (by omega), wrap_small (x := v * 256) (by omega) (by omega), wrap_small (x := v * 256 + u) (by omega) (by omega), Int.tmod_eq_emod_of_nonneg (by omega)]
    exact ⟨_, _, _, rfl, Int.emod_nonneg _ (by omega), .inl (Int.emod_lt_of_pos _ (by omega)), by omega, by omega⟩
  · rw [if_neg c2, if_neg (by omega), Int.tmod_eq_emod_of_nonneg hv0]
    exact ⟨_, _, _, rfl, Int.emod_nonneg _ (by omega), .inl (Int.emod_lt_of_pos _ (by omega)), by omega, by omega⟩
theorem one_b {l : List Int} (hb : BytesIn l) (s t n : Int) (h0 : 0 ≤ s) (h1 : s ≤ 100000000000) (hn : n ≤ 70000) : ∃ v s' t', spec_l1Cur_one.f l s t n = some (v, s', t') ∧ s ≤ s' ∧ s' ≤ s + 2 := by
  obtain ⟨v, s', t', h, _, _, h2, h3⟩ := pick_b hb s t n h0 h1 hn
  unfold spec_l1Cur_one.f
  rw [h]; exact ⟨_, _, _, rfl, h2, h3⟩

theorem procs_b {l : List Int} (hb : BytesIn l) (s t : Int) (h0 : 0 ≤ s) (h1 : s ≤ 100000000) : ∃ v s' t', spec_l1Cur_procs.f l s t = some (v, s', t') ∧ 1 ≤ v ∧ v ≤ 7 ∧ s ≤ s' ∧ s' ≤ s + 4 := by
  unfold spec_l1Cur_procs.f
  obtain ⟨o, s1, t1, ho, h2, h3⟩ := one_b hb s t 40 h0 (by omega) (by omega)
  rw [ho]; simp only [Option.bind_some]
  cases o with
  | true =>
    obtain ⟨v, s2, t2, hv, hv0, hv1, h4, h5⟩ := pick_b hb s1 t1 2 (by omega) (by omega) (by omega)
    rw [if_pos rfl]
    unfold spec_l1Cur_among.f
    rw [show ((([6, 7] : List Int).length : Nat) : Int) = 2 from rfl, hv]; simp only [Option.bind_some]
    rw [if_pos hv0, if_pos (by omega)]
    obtain rfl | rfl : v = 0 ∨ v = 1 := by omega
    · exact ⟨6, s2, t2, rfl, by omega, by omega, by omega, by omega⟩
    · exact ⟨7, s2, t2, rfl, by omega, by omega, by omega, by omega⟩
  | false =>
    obtain ⟨v, s2, t2, hv, hv0, hv1, h4, h5⟩ := pick_b hb s1 t1 4 (by omega) (by omega) (by omega)
    rw [if_neg (by decide), hv]; simp only [Option.bind_some]
    rw [wrap_small (by omega) (by omega)]
    exact ⟨_, _, _, rfl, by omega, by omega, by omega, by omega⟩
def ProcIn (p : Int) (x : List S57) : Prop := ∀ a ∈ x, 0 ≤ a.f0 ∧ a.f0 < p
theorem ProcIn.snoc {p : Int} {x : List S57} (h : ProcIn p x) {v f : Int} (h0 : 0 ≤ v) (h1 : v < p) : ProcIn p (x ++ [⟨v, f⟩]) := fun a ha => by
  rcases List.mem_append.1 ha with ha | ha
  · exact h a ha
  · rw [List.mem_singleton.1 ha]; exact ⟨h0, h1⟩
theorem acts_loop {l : List Int} (hb : BytesIn l) {p : Int} (hp1 : 1 ≤ p) (hp7 : p ≤ 7) (d : Nat) : ∀ (n : Int) (x : List S57) (s t : Int), n.toNat = d → x.length + d ≤ 100 → ProcIn p x → 0 ≤ s → s + 10 * d ≤ 1000000 →
    ∃ y s' t', Ev (fun k => spec_l1Cur_acts.l0 k p x n l s t) (y, s', t') ∧ ProcIn p y ∧ y.length = x.length + d ∧ 0 ≤ s' ∧ s' ≤ s + 10 * d := by
  induction d with
  | zero =>
    intro n x s t hn hx hi h0 h1
    refine ⟨x, s, t, Ev.step (f := fun _ => some (x, s, t)) (fun k => ?_) (Ev.now _), hi, by omega, h0, by omega⟩
    simp only [spec_l1Cur_acts.l0]; rw [if_neg (by omega)]
  | succ d ih =>
    intro n x s t hn hx hi h0 h1
    obtain ⟨v, s1, t1, hv, hv0, hv1, h2, h3⟩ := pick_b hb s t p h0 (by omega) (by omega)
    have hvp : v < p := by omega
    have hw : wrap64 (n - 1) = n - 1 := wrap_small (by omega) (by omega)
    have next : ∀ (f s2 t2 : Int), s1 ≤ s2 → s2 ≤ s1 + 6 → ∃ y s' t', Ev (fun k => spec_l1Cur_acts.l0 k p (x ++ [⟨v, f⟩]) (n - 1) l s2 t2) (y, s', t') ∧ ProcIn p y ∧ y.length = x.length + (d + 1) ∧ 0 ≤ s' ∧ s' ≤ s + 10 * ((d + 1 : Nat) : Int) := fun f s2 t2 g1 g2 => by
      obtain ⟨y, s3, t3, e1, e2, e3, e4, e5⟩ := ih (n - 1) (x ++ [⟨v, f⟩]) s2 t2 (by omega) (by simp; omega) (hi.snoc hv0 hvp) (by omega) (by omega)
      exact ⟨y, s3, t3, e1, e2, by rw [e3]; simp; omega, e4, by omega⟩
    have plain : ∀ s2 t2 : Int, s1 ≤ s2 → s2 ≤ s1 + 6 → ∃ y s' t', Ev (fun k => spec_l1Cur_acts.j2 k p x n false l s2 t2 v (-1)) (y, s', t') ∧ ProcIn p y ∧ y.length = x.length + (d + 1) ∧ 0 ≤ s' ∧ s' ≤ s + 10 * ((d + 1 : Nat) : Int) := fun s2 t2 g1 g2 => by
      obtain ⟨y, s3, t3, e1, e2⟩ := next (-1) s2 t2 g1 g2
      refine ⟨y, s3, t3, Ev.step (fun k => ?_) e1, e2⟩
      simp only [spec_l1Cur_acts.j2]; rw [if_neg (by decide), if_pos (by omega), hw]
    by_cases c : (x.length : Int) > 0
    · obtain ⟨o, s2, t2, ho, h4, h5⟩ := one_b hb s1 t1 2 (by omega) (by omega) (by omega)
      have key : ∀ r, Ev (fun k => spec_l1Cur_acts.j2 k p x n o l s2 t2 v (-1)) r → Ev (fun k => spec_l1Cur_acts.l0 k p x n l s t) r := fun r hr => Ev.step (fun k => by
        simp only [spec_l1Cur_acts.l0]; rw [if_pos (by omega), hv]; simp only [Option.bind_some]; rw [if_pos c, ho]; simp only [Option.bind_some]) hr
      cases o with
      | false =>
        obtain ⟨y, s3, t3, e1, e2⟩ := plain s2 t2 (by omega) (by omega)
        exact ⟨y, s3, t3, key _ e1, e2⟩
      | true =>
        obtain ⟨q, s3, t3, hq, hq0, hq1, h6, h7⟩ := pick_b hb s2 t2 (x.length : Int) (by omega) (by omega) (by omega)
        have hqw : wrap64 (wrap64 ((x.length : Int) - 1) - q) = (x.length : Int) - 1 - q := by rw [wrap_small (x := (x.length : Int) - 1) (by omega) (by omega), wrap_small (by omega) (by omega)]
        by_cases cp : (rd_T57 x ((x.length : Int) - 1 - q)).f0 = v
        · obtain ⟨o3, s4, t4, ho3, h8, h9⟩ := one_b hb s3 t3 30 (by omega) (by omega) (by omega)
          cases o3 with
          | true =>
            obtain ⟨y, s5, t5, e1, e2⟩ := next ((x.length : Int) - 1 - q) s4 t4 (by omega) (by omega)
            refine ⟨y, s5, t5, key _ (Ev.step (fun k => ?_) e1), e2⟩
            simp only [spec_l1Cur_acts.j2, if_true]; rw [hq]; simp only [Option.bind_some]; rw [hqw, if_pos (by omega), if_pos (by omega), if_pos cp, ho3]; simp only [Option.bind_some, if_true]; rw [if_pos (by omega), hw]
          | false =>
            obtain ⟨y, s5, t5, e1, e2⟩ := next (-1) s4 t4 (by omega) (by omega)
            refine ⟨y, s5, t5, key _ (Ev.step (fun k => ?_) e1), e2⟩
            simp only [spec_l1Cur_acts.j2, if_true]; rw [hq]; simp only [Option.bind_some]; rw [hqw, if_pos (by omega), if_pos (by omega), if_pos cp, ho3]; simp only [Option.bind_some]; rw [if_neg (by decide), if_pos (by omega), hw]
        · obtain ⟨y, s5, t5, e1, e2⟩ := next ((x.length : Int) - 1 - q) s3 t3 (by omega) (by omega)
          refine ⟨y, s5, t5, key _ (Ev.step (fun k => ?_) e1), e2⟩
          simp only [spec_l1Cur_acts.j2, if_true]; rw [hq]; simp only [Option.bind_some]; rw [hqw, if_pos (by omega), if_pos (by omega), if_neg cp, if_pos (by omega), hw]
    · obtain ⟨y, s3, t3, e1, e2⟩ := plain s1 t1 (by omega) (by omega)
      refine ⟨y, s3, t3, Ev.step (fun k => ?_) e1, e2⟩
      simp only [spec_l1Cur_acts.l0]; rw [if_pos (by omega), hv]; simp only [Option.bind_some]; rw [if_neg c]
theorem acts_b {l : List Int} (hb : BytesIn l) {p : Int} (hp1 : 1 ≤ p) (hp7 : p ≤ 7) (s t : Int) (h0 : 0 ≤ s) (h1 : s ≤ 1000) : ∃ y s' t', Ev (fun k => spec_l1Cur_acts.f k l s t p) (y, s', t') ∧ ProcIn p y ∧ y.length ≤ 61 ∧ 0 ≤ s' ∧ s' ≤ 3000 := by
  obtain ⟨v, s1, t1, hv, hv0, hv1, h2, h3⟩ := pick_b hb s t 16 h0 (by omega) (by omega)
  obtain ⟨o, s2, t2, ho, h4, h5⟩ := one_b hb s1 t1 20 (by omega) (by omega) (by omega)
  cases o with
  | true =>
    obtain ⟨u, s3, t3, hu, hu0, hu1, h6, h7⟩ := pick_b hb s2 t2 2 (by omega) (by omega) (by omega)
    obtain ⟨y, s4, t4, ⟨K, hK⟩, e2, e3, e4, e5⟩ := acts_loop hb hp1 hp7 (60 + u).toNat (60 + u) [] s3 t3 rfl (by simp; omega) (fun a ha => by cases ha) (by omega) (by omega)
    refine ⟨y, s4, t4, ⟨K + 1, fun k hk => ?_⟩, e2, by rw [e3]; simp; omega, e4, by omega⟩
    obtain ⟨k, rfl⟩ : ∃ m, k = m + 1 := ⟨k - 1, by omega⟩
    show spec_l1Cur_acts.f (k + 1) l s t p = _
    unfold spec_l1Cur_acts.f
    rw [hv]; simp only [Option.bind_some]; rw [ho]; simp only [Option.bind_some, if_true]; rw [hu]; simp only [Option.bind_some, spec_l1Cur_acts.j0]; rw [wrap_small (by omega) (by omega)]
    exact hK k (by omega)
  | false =>
    obtain ⟨y, s4, t4, ⟨K, hK⟩, e2, e3, e4, e5⟩ := acts_loop hb hp1 hp7 v.toNat v [] s2 t2 rfl (by simp; omega) (fun a ha => by cases ha) (by omega) (by omega)
    refine ⟨y, s4, t4, ⟨K + 1, fun k hk => ?_⟩, e2, by rw [e3]; simp; omega, e4, by omega⟩
    obtain ⟨k, rfl⟩ : ∃ m, k = m + 1 := ⟨k - 1, by omega⟩
    show spec_l1Cur_acts.f (k + 1) l s t p = _
    unfold spec_l1Cur_acts.f
    rw [hv]; simp only [Option.bind_some]; rw [ho]; simp only [Option.bind_some]; rw [if_neg (by decide)]; simp only [spec_l1Cur_acts.j0]
    exact hK k (by omega)

/-- the vectors, and what they tell -/
theorem vecs_info (p : Int) (l : List S57) (hl : l.length ≤ 1048576) : ∃ r : List (List Int) × Bool, ∃ K, r.2 = goodB p l ∧ (r.2 = true → r.1.length = l.length ∧ ∀ m, m < l.length → VecOK p l m (r.1.getD m [])) ∧ (r.2 = false → r.1 = []) ∧ r.1.length ≤ 60 ∧ (∀ y ∈ r.1, y.length ≤ 6) ∧ ∀ k, K ≤ k → spec_VectorsOf.f k p l = some r ∧ impl_VectorsOf.f k p l = some r := by
  cases hg : goodB p l with
  | false =>
    refine ⟨([], false), l.length + 10, rfl, (fun h => by cases h), (fun _ => rfl), by simp, by simp, fun k hk => ⟨?_, ?_⟩⟩
    · unfold spec_VectorsOf.f; rw [spec_good p l hl k (by omega), hg]; rfl
    · unfold impl_VectorsOf.f; rw [impl_good p l hl _ (by omega), hg]; rfl
  | true =>
    have g := good_of p l hg
    have h60 := g.len
    have hp6 := g.p6
    obtain ⟨R, ⟨K, hK⟩, hR1, hR2, hR3⟩ := ahead_rows l (by omega)
    replace hK : ∀ k, K ≤ k → spec_l2Ahead.f k l = some R := hK
    obtain ⟨V, hV, hVl, hVok⟩ := vecs_ok g 101 (by omega)
    have hV' : ∀ k, 101 ≤ k → impl_vectors.f k p l = some V := fun k hk => at_rounds (g := fun q => impl_vectors.f q p l) (fun q => impl_vectors.mono _ _ q) hk hV
    obtain ⟨K2, hK2⟩ := spec_vec_out g hVl hVok hR1 hR2 hR3 l.length 0 (by omega) (by omega)
    refine ⟨(V, true), K + K2 + l.length + 200, rfl, fun _ => ⟨hVl, hVok⟩, (fun h => by cases h), by show V.length ≤ 60; omega, fun y hy => ?_, fun k hk => ⟨?_, ?_⟩⟩
    · obtain ⟨m, hm0, rfl⟩ := List.getElem_of_mem hy
      have hm : m < V.length := hm0
      show V[m].length ≤ 6
      have := (hVok m (by omega)).len
      rw [List.getD_eq_getElem?_getD, List.getElem?_eq_getElem hm] at this
      simp only [Option.getD_some] at this
      omega
    · unfold spec_VectorsOf.f
      rw [spec_good p l hl k (by omega), hg, hK k (by omega)]
      simp only [Option.bind_some, if_true]
      exact hK2 k (by omega)
    · unfold impl_VectorsOf.f
      rw [impl_good p l hl _ (by omega), hg, hV' k (by omega)]; rfl
theorem sameL_loop (a : List (List Int)) (ha : ∀ y ∈ a, y.length ≤ 6) (hn : a.length ≤ 60) (d : Nat) : ∀ (k j : Nat), j ≤ a.length → a.length - j = d → d + 100 < k → laws_sameLists.l0 k a a a.length j = some true := by
  induction d with
  | zero =>
    intro k j hj hd hk
    obtain ⟨k, rfl⟩ : ∃ m, k = m + 1 := ⟨k - 1, by omega⟩
    simp only [laws_sameLists.l0]; rw [if_neg (by omega)]
  | succ d ih =>
    intro k j hj hd hk
    obtain ⟨k, rfl⟩ : ∃ m, k = m + 1 := ⟨k - 1, by omega⟩
    have hjl : j < a.length := by omega
    have e : rd_L5 a (j : Int) = a.getD j [] := by unfold rd_L5; rw [Int.toNat_natCast]
    have hy := ha (a.getD j []) (by rw [List.getD_eq_getElem?_getD, List.getElem?_eq_getElem hjl]; exact List.getElem_mem hjl)
    simp only [laws_sameLists.l0]; rw [if_pos (by omega), if_pos (by omega), if_pos (by omega), if_pos (by omega), e, same_eq _ _ (by omega) k (by omega)]; simp only [Option.bind_some, decide_true, if_true]
    rw [wrap_next (n := a.length) hjl (by omega)]
    exact ih k (j + 1) (by omega) (by omega) (by omega)
theorem sameL_self (a : List (List Int)) (ha : ∀ y ∈ a, y.length ≤ 6) (hn : a.length ≤ 60) (k : Nat) (hk : 200 < k) : laws_sameLists.f k a a = some true := by
  unfold laws_sameLists.f; rw [if_pos rfl]
  exact sameL_loop a ha hn a.length k 0 (by omega) (by omega) (by omega)
/-- whether an act is ahead of another, by the vectors -/
theorem ahead_vec {p : Int} {l : List S57} (g : Good p l) {a b : Nat} (ha : a < l.length) (hb : b < l.length) {u v : List Int} (hu : VecOK p l a u) (hv : VecOK p l b v) : moreL u v = false ↔ InS l b a := by
  rw [below_cut g v hv.len (fun q hq => by have h1 := hv.len; have := hv.pos (q : Int) (by omega) (by omega); unfold rd at this; rw [Int.toNat_natCast] at this; exact this.1) ha hu]
  constructor
  · intro h
    have h1 := h a (.inl rfl)
    unfold inCut at h1
    rw [decide_eq_true_eq] at h1
    have hp := g.proc a ha
    exact (hv.mem a ha hp.1 (by omega)).2 h1
  · intro h k hk
    have h2 := inS_trans h hk
    have hkl : k < l.length := by have := inS_le hk; omega
    have hp := g.proc k hkl
    unfold inCut
    rw [decide_eq_true_eq]
    exact (hv.mem k hkl hp.1 (by omega)).1 h2
theorem aheadOf_some (p : Int) (l : List S57) (hg : goodB p l = true) (V : List (List Int)) (hV : ∀ k, 101 ≤ k → impl_vectors.f k p l = some V) (hVl : V.length = l.length) (hVok : ∀ m, m < l.length → VecOK p l m (V.getD m [])) (a b : Nat) (ha : a < l.length) (hb : b < l.length) (k : Nat) (hk : 200 ≤ k) :
    impl_AheadOf.f k p l a b = some (decide (a ≠ b) && !moreL (V.getD a []) (V.getD b []), true) := by
  have g := good_of p l hg
  have h60 := g.len
  have hp6 := g.p6
  have e : ∀ j : Nat, rd_L5 V (j : Int) = V.getD j [] := fun j => by unfold rd_L5; rw [Int.toNat_natCast]
  have hla := (hVok a ha).len
  have hlb := (hVok b hb).len
  obtain ⟨k, rfl⟩ : ∃ m, k = m + 1 := ⟨k - 1, by omega⟩
  unfold impl_AheadOf.f
  rw [impl_good p l (by omega) _ (by omega), hg, in_eq, in_eq]
  simp only [Option.bind_some, if_true]
  have hw : wrap64 ((l.length : Int) - 1) = (l.length : Int) - 1 := wrap_small (by omega) (by omega)
  rw [hw, decide_eq_true (show 0 ≤ (a : Int) ∧ (a : Int) ≤ (l.length : Int) - 1 by omega), decide_eq_true (show 0 ≤ (b : Int) ∧ (b : Int) ≤ (l.length : Int) - 1 by omega)]
  simp only [if_true, Bool.not_true, impl_AheadOf.j0, Bool.false_eq_true, if_false]
  rw [hV k (by omega)]; simp only [Option.bind_some]
  by_cases c : a = b
  · subst c
    rw [if_pos rfl]; simp
  · rw [if_neg (by omega)]
    rw [if_pos (by omega), if_pos (by omega), if_pos (by omega), if_pos (by omega), e, e, below_eq _ _ (by omega) (by omega) k (by omega)]
    simp [c]
theorem clocks_in {p : Int} {l : List S57} (hg : goodB p l = true) {V : List (List Int)} (hV : ∀ k, 101 ≤ k → impl_vectors.f k p l = some V) (hVl : V.length = l.length) (hVok : ∀ m, m < l.length → VecOK p l m (V.getD m [])) {n : List Int} (hn : Lam l l.length n) (b : Nat) (hb : b < l.length)
    (h : Ev (fun k => laws_FnClocks.l0 k p l V n ((b + 1 : Nat) : Int)) true) (d : Nat) : ∀ a : Nat, a ≤ 60 → 60 - a = d → Ev (fun k => laws_FnClocks.l1 k p l V n b a) true := by
  have g := good_of p l hg
  have h60 := g.len
  have hp6 := g.p6
  have hnl := hn.len
  have stop : ∀ a : Nat, ¬ (a < l.length ∧ a < 20) → Ev (fun k => laws_FnClocks.l1 k p l V n b a) true := fun a ha => by
    refine Ev.step (f := fun k => laws_FnClocks.j4 k p l V n b a false) (fun k => ?_) (Ev.step (fun k => ?_) h)
    · simp only [laws_FnClocks.l1]
      by_cases c : (a : Int) < l.length
      · rw [if_pos c, decide_eq_false (by omega)]
      · rw [if_neg c]
    · simp only [laws_FnClocks.j4]; rw [if_neg (by decide), wrap_next hb (by omega)]
  induction d with
  | zero => intro a ha hd; exact stop a (by omega)
  | succ d ih =>
    intro a ha hd
    by_cases c : a < l.length ∧ a < 20
    case neg => exact stop a c
    have hal := c.1
    have ec : ∀ j : Nat, rd_L5 V (j : Int) = V.getD j [] := fun j => by unfold rd_L5; rw [Int.toNat_natCast]
    have hla := (hVok a hal).len
    have hlb := (hVok b hb).len
    have hab := ahead_vec g hal hb (hVok a hal) (hVok b hb)
    have hba := ahead_vec g hb hal (hVok b hb) (hVok a hal)
    have hmore : moreL (V.getD b []) (V.getD a []) = lessL (V.getD a []) (V.getD b []) := more_less _ _
    obtain ⟨K, hK⟩ := ih (a + 1) (by omega) (by omega)
    refine ⟨K + 300, fun k hk => ?_⟩
    obtain ⟨k, rfl⟩ : ∃ m, k = m + 2 := ⟨k - 2, by omega⟩
    show laws_FnClocks.l1 (k + 2) p l V n b a = some true
    simp only [laws_FnClocks.l1]
    rw [if_pos (by omega), decide_eq_true (show (a : Int) < 20 by omega)]
    simp only [laws_FnClocks.j4, if_true]
    rw [aheadOf_some p l hg V hV hVl hVok a b hal hb k (by omega)]; simp only [Option.bind_some]
    rw [if_pos (by omega), if_pos (by omega), if_pos (by omega), if_pos (by omega), ec, ec, impl_CompareVec_eq _ _ k (by omega)]; simp only [Option.bind_some, if_true]
    have hcmp : cmpOf (V.getD a []) (V.getD b []) = (told (lessL (V.getD a []) (V.getD b [])) (moreL (V.getD a []) (V.getD b [])), true) := by unfold cmpOf; rw [if_pos (by omega)]
    rw [hcmp]; simp only [if_true]
    have hnext : laws_FnClocks.l1 k p l V n b (wrap64 ((a : Int) + 1)) = some true := by rw [wrap_next hal (by omega)]; exact hK k (by omega)
    rw [hnext]
    have hxx : ((a : Int) == (b : Int)) = decide (a = b) := by rw [Bool.eq_iff_iff, beq_iff_eq, decide_eq_true_eq]; omega
    rw [hxx]
    -- the four ways that two vectors can lie
    cases hm : moreL (V.getD a []) (V.getD b []) with
    | false =>
      have h1 := hab.1 hm
      cases hl : lessL (V.getD a []) (V.getD b []) with
      | false =>
        have h2 := hba.1 (by rw [hmore]; exact hl)
        have : a = b := by have := inS_le h1; have := inS_le h2; omega
        subst this
        simp [told]
      | true =>
        have hne : a ≠ b := fun e => by
          subst e
          rw [← hmore] at hl
          rw [hl] at hm; cases hm
        have hah : Ahead l b a := by
          rcases h1 with h1 | h1
          · exact absurd h1 hne
          · exact h1
        have hlam := hn.more b hb a hah
        have e1 : rd n (a : Int) = n.getD a 0 := rd_at n a
        have e2 : rd n (b : Int) = n.getD b 0 := rd_at n b
        rw [if_neg (by simp [told, hne])]
        rw [if_pos (by simp [hne]), if_pos (by omega), if_pos (by omega), if_neg (by omega), if_neg (by simp [told, hne])]
    | true =>
      have hne : a ≠ b := fun e => by
        subst e
        have := hab.2 (.inl rfl)
        rw [this] at hm; cases hm
      cases hl : lessL (V.getD a []) (V.getD b []) <;> simp [told, hne]
theorem clocks_out {p : Int} {l : List S57} (hg : goodB p l = true) {V : List (List Int)} (hV : ∀ k, 101 ≤ k → impl_vectors.f k p l = some V) (hVl : V.length = l.length) (hVok : ∀ m, m < l.length → VecOK p l m (V.getD m [])) {n : List Int} (hn : Lam l l.length n) (d : Nat) : ∀ b : Nat, b ≤ 60 → 60 - b = d → Ev (fun k => laws_FnClocks.l0 k p l V n b) true := by
  have h60 := (good_of p l hg).len
  have stop : ∀ b : Nat, ¬ (b < l.length ∧ b < 20) → Ev (fun k => laws_FnClocks.l0 k p l V n b) true := fun b hb => by
    refine Ev.step (f := fun k => laws_FnClocks.j2 k p l V n b false) (fun k => ?_) (Ev.step (f := fun _ => some true) (fun k => ?_) (Ev.now _))
    · simp only [laws_FnClocks.l0]
      by_cases c : (b : Int) < l.length
      · rw [if_pos c, decide_eq_false (by omega)]
      · rw [if_neg c]
    · simp only [laws_FnClocks.j2]; rw [if_neg (by decide)]
  induction d with
  | zero => intro b hb hd; exact stop b (by omega)
  | succ d ih =>
    intro b hb hd
    by_cases c : b < l.length ∧ b < 20
    case neg => exact stop b c
    refine Ev.step (f := fun k => laws_FnClocks.j2 k p l V n b true) (fun k => ?_) (Ev.step (fun k => ?_) (clocks_in hg hV hVl hVok hn b c.1 (ih (b + 1) (by omega) (by omega)) 60 0 (by omega) rfl))
    · simp only [laws_FnClocks.l0]; rw [if_pos (by omega), decide_eq_true (by omega)]
    · simp only [laws_FnClocks.j2]; rw [if_pos trivial]; rfl
/-- THE PURE STATEMENT of the law. -/
def FnClocks_Pure : Prop := ∀ (l0 : (List Int)), (l0.length ≤ 9223372036854775807 ∧ ∀ y ∈ l0, (Lit.int .u8 y).wf = true) → ∃ k, laws_FnClocks.f k l0 = some true

theorem FnClocks : FnClocks_Pure := by
  intro c hc
  by_cases h1 : (c.length : Int) > 1048576
  · exact ⟨0, by unfold laws_FnClocks.f; rw [if_pos h1]⟩
  have hb := bytesIn_of hc.2
  obtain ⟨p, s1, t1, hp, hp1, hp7, h2, h3⟩ := procs_b hb 0 0 (by omega) (by omega)
  obtain ⟨l, s2, t2, ⟨K0, hK0⟩, _, hll, _, _⟩ := acts_b hb hp1 hp7 s1 t1 (by omega) (by omega)
  replace hK0 : ∀ k, K0 ≤ k → spec_l1Cur_acts.f k c s1 t1 p = some (l, s2, t2) := hK0
  obtain ⟨r, K1, hr2, hrt, hrf, hr60, hr6, hr⟩ := vecs_info p l (by omega)
  obtain ⟨q, ⟨K2, hq1⟩, ⟨K3, hq2⟩, hq60, hqt, hq3⟩ := lam_both p l (by omega)
  replace hq1 : ∀ k, K2 ≤ k → spec_LamportOf.f k p l = some q := hq1
  replace hq2 : ∀ k, K3 ≤ k → impl_LamportOf.f k p l = some q := hq2
  have tail : ∃ K, ∀ k, K ≤ k → laws_FnClocks.j0 k p l r.1 r.2 q.1 false = some true := by
    cases hg : goodB p l with
    | false =>
      rw [hg] at hr2
      refine ⟨1, fun k hk => ?_⟩
      obtain ⟨k, rfl⟩ : ∃ m, k = m + 1 := ⟨k - 1, by omega⟩
      simp only [laws_FnClocks.j0]; rw [if_neg (by decide), hr2, if_neg (by decide), hrf hr2]; rfl
    | true =>
      rw [hg] at hr2
      obtain ⟨hVl, hVok⟩ := hrt hr2
      obtain ⟨V, hV, _, _⟩ := vecs_ok (good_of p l hg) 101 (by omega)
      have hV' : ∀ k, 101 ≤ k → impl_vectors.f k p l = some V := fun k hk => at_rounds (g := fun q => impl_vectors.f q p l) (fun q => impl_vectors.mono _ _ q) hk hV
      have e : V = r.1 := by
        have h4 := (hr (K1 + 1000) (by omega)).2
        unfold impl_VectorsOf.f at h4
        rw [impl_good p l (by omega) _ (by omega), hg, hV' _ (by omega)] at h4
        simp only [Option.bind_some, if_true] at h4
        rw [← Option.some.inj h4]
      rw [e] at hV'
      obtain ⟨K, hK⟩ := clocks_out hg hV' hVl hVok (hqt (by rw [hq3, hg])).2 60 0 (by omega) rfl
      refine ⟨K + 1, fun k hk => ?_⟩
      obtain ⟨k, rfl⟩ : ∃ m, k = m + 1 := ⟨k - 1, by omega⟩
      simp only [laws_FnClocks.j0]; rw [if_neg (by decide), if_pos hr2]
      exact hK k (by omega)
  obtain ⟨K4, hK4⟩ := tail
  obtain ⟨m, hm⟩ : ∃ m, m = K0 + K1 + K2 + K3 + K4 + 1000 := ⟨_, rfl⟩
  refine ⟨m, ?_⟩
  unfold laws_FnClocks.f spec_DrawVectorsOf.f spec_DrawGoodActs.f
  rw [if_neg h1, hp]; simp only [Option.bind_some]
  rw [hK0 m (by omega)]; simp only [Option.bind_some]
  rw [(hr m (by omega)).2, (hr m (by omega)).1]; simp only [Option.bind_some]
  rw [hq2 m (by omega), hq1 m (by omega)]; simp only [Option.bind_some, bne_self_eq_false, Bool.false_eq_true, if_false]
  rw [sameL_self _ hr6 hr60 m (by omega)]; simp only [Option.bind_some, if_true]
  rw [same_eq _ _ (by omega) m (by omega)]; simp only [Option.bind_some, decide_true, if_true]
  rw [impl_good p l (by omega) _ (by omega)]; simp only [Option.bind_some]
  rw [← hr2, bne_self_eq_false]
  exact hK4 m (by omega)

end Go.Proofs.Ytmhhjmadpnkelaa.Pure
