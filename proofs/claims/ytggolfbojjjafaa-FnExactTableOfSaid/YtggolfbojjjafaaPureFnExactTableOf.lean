/- The program's table of a form is the reference's: the law answers true. No conditions but the reach of a text. -/
import Derived.Test.YtggolfbojjjafaaPFnExactTableOfx3
namespace Go.Proofs.Ytggolfbojjjafaa.Pure
open Go.RowKit Go.Proofs.Ytggolfbojjjafaa.PFnExactTableOf Go.Proofs.YtggolfbojjjafaaW.PrintWords Go.Proofs.YtggolfbojjjafaaW.PrintLast
set_option linter.unusedVariables false
set_option linter.unusedSimpArgs false

theorem wrap_small {x : Int} (h0 : -9223372036854775808 ≤ x) (h1 : x ≤ 9223372036854775807) : wrap64 x = x := by
  unfold wrap64
  omega
theorem toList_nil (s : ByteArray) : s.toList = [] ↔ s.size = 0 := by rw [← List.length_eq_zero_iff, ByteArray.toList_eq, data_length]
theorem bt_lt (s : ByteArray) (i : Int) : 0 ≤ bt s i ∧ bt s i ≤ 255 := by
  unfold bt
  split
  · have := UInt8.toNat_lt (s[i.toNat]'(by assumption)); omega
  · omega
/-- what is left of a text from place n on -/
def lft (s : ByteArray) (n : Nat) : ByteArray := s.extract n s.size
theorem lft_size (s : ByteArray) (n : Nat) : (lft s n).size = s.size - n := by unfold lft; rw [ByteArray.size_extract]; omega
theorem lft_at (s : ByteArray) (n : Nat) (h : n < s.size) : bt (lft s n) 0 = bt s n := by
  have hs := lft_size s n
  unfold bt
  rw [dif_pos (show (0 : Int).toNat < (lft s n).size by rw [hs]; simp; omega), dif_pos (show (n : Int).toNat < s.size by simpa using h)]
  congr 2
  unfold lft
  simp [ByteArray.getElem_extract]
theorem lft_next (s : ByteArray) (n : Nat) (h : n < s.size) : (lft s n).extract 1 (lft s n).size = lft s (n + 1) := by
  rw [lft_size]
  unfold lft
  rw [ByteArray.extract_extract]
  congr 1
  omega
theorem index6 (c : Int) (h0 : 0 ≤ c) (h1 : c ≤ 255) : Go.Lib.indexByte (⟨#[97, 98, 99, 100, 101, 102]⟩ : ByteArray).data.toList c.toNat.toUInt8 = if 97 ≤ c ∧ c ≤ 102 then c - 97 else -1 := by
  have key : ∀ n : Fin 256, Go.Lib.indexByte [97, 98, 99, 100, 101, 102] (UInt8.ofNat n.val) = if 97 ≤ (n.val : Int) ∧ (n.val : Int) ≤ 102 then (n.val : Int) - 97 else -1 := by decide +kernel
  have := key ⟨c.toNat, by omega⟩
  simp only [Int.toNat_of_nonneg h0] at this
  exact this
theorem u64_same (x : Int) (h0 : 0 ≤ x) (h1 : x ≤ 1000) : IntKind.u64.wrap x = x := by
  rw [IntKind.wrap_u64]; omega
theorem var_same (x : Int) (h0 : 0 ≤ x) (h1 : x ≤ 5) : ∀ (k : Nat) (a j : Int), 0 ≤ j → j ≤ 64 → spec_l7Var.l0 k x a j = impl_varTruth.l0 k x a j
  | 0, _, _, _, _ => rfl
  | k + 1, a, j, hj0, hj1 => by
    simp only [spec_l7Var.l0, impl_varTruth.l0]
    rw [u64_same x h0 (by omega), u64_same j hj0 (by omega)]
    by_cases h : j < 64
    · rw [wrap_small (x := j + 1) (by omega) (by omega), var_same x h0 h1 k _ (j + 1) (by omega) (by omega), var_same x h0 h1 k _ (j + 1) (by omega) (by omega)]
    · rw [if_neg h, if_neg h]
theorem var_some (x : Int) (h0 : 0 ≤ x) (d : Nat) : ∀ (a j : Int), 0 ≤ j → (64 - j).toNat = d → ∃ v, ∀ k, d < k → impl_varTruth.l0 k x a j = some v := by
  induction d with
  | zero =>
    intro a j hj hd
    refine ⟨a, fun k hk => ?_⟩
    obtain ⟨k, rfl⟩ : ∃ m, k = m + 1 := ⟨k - 1, by omega⟩
    simp only [impl_varTruth.l0]; rw [if_neg (by omega)]
  | succ d ih =>
    intro a j hj hd
    have hw : wrap64 (j + 1) = j + 1 := wrap_small (by omega) (by omega)
    by_cases c : (Go.bits .and .i64 (shr .i64 j x) 1) = 1
    · obtain ⟨v, hv⟩ := ih (Go.bits .or .u64 a (shl .u64 1 j)) (j + 1) (by omega) (by omega)
      refine ⟨v, fun k hk => ?_⟩
      obtain ⟨k, rfl⟩ : ∃ m, k = m + 1 := ⟨k - 1, by omega⟩
      simp only [impl_varTruth.l0]; rw [if_pos (by omega), if_pos h0, if_pos c, if_pos hj, hw]; exact hv k (by omega)
    · obtain ⟨v, hv⟩ := ih a (j + 1) (by omega) (by omega)
      refine ⟨v, fun k hk => ?_⟩
      obtain ⟨k, rfl⟩ : ∃ m, k = m + 1 := ⟨k - 1, by omega⟩
      simp only [impl_varTruth.l0]; rw [if_pos (by omega), if_pos h0, if_neg c, hw]; exact hv k (by omega)
theorem var_both (x : Int) (h0 : 0 ≤ x) (h1 : x ≤ 5) : ∃ v, ∀ k, 64 < k → impl_varTruth.f k x = some v ∧ spec_l7Var.f k x = some v := by
  obtain ⟨v, hv⟩ := var_some x h0 64 0 0 (by omega) rfl
  refine ⟨v, fun k hk => ⟨hv k hk, ?_⟩⟩
  unfold spec_l7Var.f
  rw [var_same x h0 h1 k 0 0 (by omega) (by omega)]; exact hv k hk
theorem inext_end (s : ByteArray) (b : Bool) (h : s.size = 0) : impl_formReader_next.f s b = some (0, s, true) := by
  unfold impl_formReader_next.f; rw [if_pos ((toList_nil s).2 h)]
theorem inext_at (s : ByteArray) (n : Nat) (h : n < s.size) (b : Bool) : impl_formReader_next.f (lft s n) b = some (bt s n, lft s (n + 1), b) := by
  have hs := lft_size s n
  unfold impl_formReader_next.f
  rw [if_neg (fun c => by have := (toList_nil _).1 c; omega), if_pos (by omega), if_pos (by omega), lft_at s n h, lft_next s n h]
theorem inext_bad (s : ByteArray) : ∃ c L, impl_formReader_next.f s true = some (c, L, true) := by
  unfold impl_formReader_next.f
  by_cases c : s.toList = ([] : List UInt8)
  · rw [if_pos c]; exact ⟨_, _, rfl⟩
  · have : s.size ≠ 0 := fun h => c ((toList_nil s).2 h)
    rw [if_neg c, if_pos (by omega), if_pos (by omega)]; exact ⟨_, _, rfl⟩
theorem iform_bad (s : ByteArray) (k : Nat) (hk : 0 < k) : ∃ L, impl_formReader_form.f k s true = some (0, L, true) := by
  obtain ⟨k, rfl⟩ : ∃ m, k = m + 1 := ⟨k - 1, by omega⟩
  obtain ⟨c, L, h⟩ := inext_bad s
  refine ⟨L, ?_⟩
  unfold impl_formReader_form.f
  rw [h]; rfl
theorem snext (s : ByteArray) (n : Nat) (b : Bool) : spec_l7R_next.f s n b = some (if n < s.size then bt s n else 0, s, (n : Int), b) := by
  unfold spec_l7R_next.f
  by_cases h : n < s.size
  · rw [if_pos (by omega), if_pos (by omega), if_pos h]
  · rw [if_neg (by omega), if_neg h]
theorem wrapn (n : Nat) (h : n ≤ 100000) : wrap64 ((n : Int) + 1) = ((n + 1 : Nat) : Int) := by rw [wrap_small (by omega) (by omega)]; rfl
theorem sform_bad (s : ByteArray) (n : Nat) (hn : n ≤ 10000) (k : Nat) (hk : 0 < k) : spec_l7R_form.f k s n true = some (0, s, ((n + 1 : Nat) : Int), true) := by
  obtain ⟨k, rfl⟩ : ∃ m, k = m + 1 := ⟨k - 1, by omega⟩
  unfold spec_l7R_form.f
  rw [snext]; simp only [Option.bind_some, if_true]; rw [wrapn n (by omega)]
theorem sform_end (s : ByteArray) (n : Nat) (hn : n ≤ 10000) (h : s.size ≤ n) (k : Nat) (hk : 1 < k) : spec_l7R_form.f k s n false = some (0, s, ((n + 1 : Nat) : Int), true) := by
  obtain ⟨k, rfl⟩ : ∃ m, k = m + 2 := ⟨k - 2, by omega⟩
  unfold spec_l7R_form.f
  rw [snext]; simp only [Option.bind_some]; rw [wrapn n (by omega), if_neg (show ¬ n < s.size by omega), if_neg (by decide), if_neg (by decide), if_neg (by decide), if_neg (by decide)]
  simp only [spec_l7R_form.j0]
  rw [if_neg (by decide), if_neg (by decide), if_neg (by decide)]
theorem swant (s : ByteArray) (n : Nat) (hn : n ≤ 10000) (b : Bool) : spec_l7R_want.f s n b 41 = some (s, ((n + 1 : Nat) : Int), if n < s.size ∧ bt s n = 41 then b else true) := by
  unfold spec_l7R_want.f
  rw [snext]; simp only [Option.bind_some]; rw [wrapn n (by omega)]
  by_cases h : n < s.size
  · rw [if_pos h]
    by_cases c : bt s n = 41
    · rw [if_pos c, if_pos ⟨h, c⟩]
    · rw [if_neg c, if_neg (fun x => c x.2)]
  · rw [if_neg h, if_neg (by decide), if_neg (fun x => h x.1)]
/-- the operator's answer -/
def opOf (c x y : Int) : Int := if c = 38 then Go.bits .and .u64 x y else if c = 124 then Go.bits .or .u64 x y else if c = 94 then Go.bits .xor .u64 x y else 0
def opOk (c : Int) : Bool := decide (c = 38 ∨ c = 124 ∨ c = 94)
theorem ij0 (k : Nat) (hk : 0 < k) (x c y : Int) (L : ByteArray) (b : Bool) : impl_formReader_form.j0 k x c y L b = some (opOf c x y, L, if opOk c = true then b else true) := by
  obtain ⟨k, rfl⟩ : ∃ m, k = m + 1 := ⟨k - 1, by omega⟩
  simp only [impl_formReader_form.j0]
  unfold opOf opOk
  by_cases c1 : c = 38
  · rw [if_pos c1, if_pos c1, if_pos (decide_eq_true (.inl c1))]
  rw [if_neg c1, if_neg c1]
  by_cases c2 : c = 124
  · rw [if_pos c2, if_pos c2, if_pos (decide_eq_true (.inr (.inl c2)))]
  rw [if_neg c2, if_neg c2]
  by_cases c3 : c = 94
  · rw [if_pos c3, if_pos c3, if_pos (decide_eq_true (.inr (.inr c3)))]
  · rw [if_neg c3, if_neg c3, if_neg (by simp [c1, c2, c3])]
theorem sop (c x y : Int) (s : ByteArray) (a : Int) (b : Bool) : (if c = 38 then (some (Go.bits .and .u64 x y, s, a, b)) else (if c = 124 then (some (Go.bits .or .u64 x y, s, a, b)) else (if c = 94 then (some (Go.bits .xor .u64 x y, s, a, b)) else (some (0, s, a, true)))) : Option (Int × ByteArray × Int × Bool)) = some (opOf c x y, s, a, if opOk c = true then b else true) := by
  unfold opOf opOk
  by_cases c1 : c = 38
  · rw [if_pos c1, if_pos c1, if_pos (decide_eq_true (.inl c1))]
  rw [if_neg c1, if_neg c1]
  by_cases c2 : c = 124
  · rw [if_pos c2, if_pos c2, if_pos (decide_eq_true (.inr (.inl c2)))]
  rw [if_neg c2, if_neg c2]
  by_cases c3 : c = 94
  · rw [if_pos c3, if_pos c3, if_pos (decide_eq_true (.inr (.inr c3)))]
  · rw [if_neg c3, if_neg c3, if_neg (by simp [c1, c2, c3])]
/-- how both read a form: to a place, or badly -/
def Reads (s : ByteArray) (d n : Nat) : Prop :=
  (∃ (t : Int) (m : Nat), n < m ∧ m ≤ s.size ∧ ∀ k, 2 * d + 100 ≤ k → impl_formReader_form.f k (lft s n) false = some (t, lft s m, false) ∧ spec_l7R_form.f k s n false = some (t, s, (m : Int), false)) ∨
  (∀ k, 2 * d + 100 ≤ k → ∃ (ti : Int) (L : ByteArray) (ts : Int) (a : Nat), a ≤ s.size + 4 * d + 4 ∧ impl_formReader_form.f k (lft s n) false = some (ti, L, true) ∧ spec_l7R_form.f k s n false = some (ts, s, (a : Int), true))
/-- the first byte: what both do with it -/
theorem iform_at (s : ByteArray) (n : Nat) (h : n < s.size) (k : Nat) : impl_formReader_form.f (k + 1) (lft s n) false = if bt s n = 48 then some (0, lft s (n + 1), false) else if bt s n = 49 then some (18446744073709551615, lft s (n + 1), false) else if 97 ≤ bt s n ∧ bt s n ≤ 102 then (impl_varTruth.f k (bt s n - 97)).bind fun t => some (t, lft s (n + 1), false) else if bt s n = 33 then (impl_formReader_form.f k (lft s (n + 1)) false).bind fun z => some (Go.bits .xor .u64 18446744073709551615 z.1, z.2.1, z.2.2) else if bt s n = 40 then ((impl_formReader_form.f k (lft s (n + 1)) false).bind fun x => ((impl_formReader_next.f x.2.1 x.2.2).bind fun o => ((impl_formReader_form.f k o.2.1 o.2.2).bind fun y => (if y.2.2 = true then (impl_formReader_form.j0 k x.1 o.1 y.1 y.2.1 true) else ((impl_formReader_next.f y.2.1 y.2.2).bind fun z => (impl_formReader_form.j0 k x.1 o.1 y.1 z.2.1 (z.1 != 41))))))) else some (0, lft s (n + 1), true) := by
  have hb := bt_lt s n
  conv => lhs; unfold impl_formReader_form.f
  rw [inext_at s n h]; simp only [Option.bind_some, Bool.false_eq_true, if_false, strings_IndexByte.f]
  rw [index6 _ hb.1 hb.2]
  by_cases c1 : bt s n = 48
  · rw [if_pos c1, if_pos c1]
  rw [if_neg c1, if_neg c1]
  by_cases c2 : bt s n = 49
  · rw [if_pos c2, if_pos c2]
  rw [if_neg c2, if_neg c2]
  by_cases c3 : 97 ≤ bt s n ∧ bt s n ≤ 102
  · rw [if_pos c3, if_pos c3, if_pos (by omega)]
  · rw [if_neg c3, if_neg c3, if_neg (by omega)]
theorem sform_at (s : ByteArray) (n : Nat) (h : n < s.size) (hn : n ≤ 1000) (k : Nat) : spec_l7R_form.f (k + 2) s n false = if bt s n = 48 then some (0, s, ((n + 1 : Nat) : Int), false) else if bt s n = 49 then some (18446744073709551615, s, ((n + 1 : Nat) : Int), false) else if 97 ≤ bt s n ∧ bt s n ≤ 102 then (spec_l7Var.f k (bt s n - 97)).bind fun t => some (t, s, ((n + 1 : Nat) : Int), false) else if bt s n = 33 then (spec_l7R_form.f k s ((n + 1 : Nat) : Int) false).bind fun z => some (Go.bits .xor .u64 18446744073709551615 z.1, z.2.1, z.2.2.1, z.2.2.2) else if bt s n = 40 then ((spec_l7R_form.f k s ((n + 1 : Nat) : Int) false).bind fun x => ((spec_l7R_next.f x.2.1 x.2.2.1 x.2.2.2).bind fun o => ((spec_l7R_form.f k o.2.1 (wrap64 (o.2.2.1 + 1)) o.2.2.2).bind fun y => ((spec_l7R_want.f y.2.1 y.2.2.1 y.2.2.2 41).bind fun z => some (opOf o.1 x.1 y.1, z.1, z.2.1, if opOk o.1 = true then z.2.2 else true))))) else some (0, s, ((n + 1 : Nat) : Int), true) := by
  have hb := bt_lt s n
  conv => lhs; unfold spec_l7R_form.f
  rw [snext, if_pos h]; simp only [Option.bind_some, Bool.false_eq_true, if_false]
  rw [wrapn n (by omega)]
  by_cases c1 : bt s n = 48
  · rw [if_pos c1, if_pos c1]
  rw [if_neg c1, if_neg c1]
  by_cases c2 : bt s n = 49
  · rw [if_pos c2, if_pos c2]
  rw [if_neg c2, if_neg c2]
  by_cases c3 : 97 ≤ bt s n ∧ bt s n ≤ 102
  · rw [if_pos c3, if_pos (by omega), decide_eq_true c3.2]
    simp only [spec_l7R_form.j0, if_true]
    rw [show (bt s n - 97) % 256 = bt s n - 97 by omega]
  · rw [if_neg c3]
    have hj : ∀ z : Bool, z = false → spec_l7R_form.j0 (k + 1) (bt s n) z s ((n + 1 : Nat) : Int) false = if bt s n = 33 then (spec_l7R_form.f k s ((n + 1 : Nat) : Int) false).bind fun z => some (Go.bits .xor .u64 18446744073709551615 z.1, z.2.1, z.2.2.1, z.2.2.2) else if bt s n = 40 then ((spec_l7R_form.f k s ((n + 1 : Nat) : Int) false).bind fun x => ((spec_l7R_next.f x.2.1 x.2.2.1 x.2.2.2).bind fun o => ((spec_l7R_form.f k o.2.1 (wrap64 (o.2.2.1 + 1)) o.2.2.2).bind fun y => ((spec_l7R_want.f y.2.1 y.2.2.1 y.2.2.2 41).bind fun z => some (opOf o.1 x.1 y.1, z.1, z.2.1, if opOk o.1 = true then z.2.2 else true))))) else some (0, s, ((n + 1 : Nat) : Int), true) := by
      rintro z rfl
      simp only [spec_l7R_form.j0, Bool.false_eq_true, if_false, sop]
    by_cases c4 : bt s n ≥ 97
    · rw [if_pos c4]; exact hj _ (decide_eq_false (by omega))
    · rw [if_neg c4]; exact hj _ rfl
theorem form_both (s : ByteArray) (hn : s.size ≤ 60) (d : Nat) : d ≤ 60 → ∀ n : Nat, n ≤ s.size → s.size - n ≤ d → Reads s d n := by
  have atEnd : ∀ d n : Nat, n ≤ s.size → ¬ n < s.size → Reads s d n := fun d n h0 h1 => .inr fun k hk => by
    obtain ⟨k, rfl⟩ : ∃ m, k = m + 1 := ⟨k - 1, by omega⟩
    refine ⟨0, lft s n, 0, n + 1, by omega, ?_, sform_end s n (by omega) (by omega) _ (by omega)⟩
    unfold impl_formReader_form.f
    rw [inext_end _ _ (by rw [lft_size]; omega)]; rfl
  induction d with
  | zero => intro _ n h0 h1; exact atEnd 0 n h0 (by omega)
  | succ d ih =>
    intro hd n h0 h1
    by_cases h : n < s.size
    case neg => exact atEnd _ n h0 h
    have hb := bt_lt s n
    have hi := iform_at s n h
    have hs := sform_at s n h (by omega)
    by_cases c1 : bt s n = 48
    · refine .inl ⟨0, n + 1, by omega, by omega, fun k hk => ?_⟩
      obtain ⟨k, rfl⟩ : ∃ m, k = m + 2 := ⟨k - 2, by omega⟩
      rw [hi, hs, if_pos c1, if_pos c1]; exact ⟨rfl, rfl⟩
    by_cases c2 : bt s n = 49
    · refine .inl ⟨18446744073709551615, n + 1, by omega, by omega, fun k hk => ?_⟩
      obtain ⟨k, rfl⟩ : ∃ m, k = m + 2 := ⟨k - 2, by omega⟩
      rw [hi, hs, if_neg c1, if_neg c1, if_pos c2, if_pos c2]; exact ⟨rfl, rfl⟩
    by_cases c3 : 97 ≤ bt s n ∧ bt s n ≤ 102
    · obtain ⟨v, hv⟩ := var_both (bt s n - 97) (by omega) (by omega)
      refine .inl ⟨v, n + 1, by omega, by omega, fun k hk => ?_⟩
      obtain ⟨k, rfl⟩ : ∃ m, k = m + 2 := ⟨k - 2, by omega⟩
      rw [hi, hs, if_neg c1, if_neg c1, if_neg c2, if_neg c2, if_pos c3, if_pos c3, (hv (k + 1) (by omega)).1, (hv k (by omega)).2]; exact ⟨rfl, rfl⟩
    by_cases c4 : bt s n = 33
    · rcases ih (by omega) (n + 1) (by omega) (by omega) with ⟨t, m, h2, h3, h4⟩ | h4
      · refine .inl ⟨Go.bits .xor .u64 18446744073709551615 t, m, by omega, h3, fun k hk => ?_⟩
        obtain ⟨k, rfl⟩ : ∃ m, k = m + 2 := ⟨k - 2, by omega⟩
        rw [hi, hs, if_neg c1, if_neg c1, if_neg c2, if_neg c2, if_neg c3, if_neg c3, if_pos c4, if_pos c4, (h4 (k + 1) (by omega)).1, (h4 k (by omega)).2]; exact ⟨rfl, rfl⟩
      · refine .inr fun k hk => ?_
        obtain ⟨k, rfl⟩ : ∃ m, k = m + 2 := ⟨k - 2, by omega⟩
        obtain ⟨ti, L, _, _, _, e1, _⟩ := h4 (k + 1) (by omega)
        obtain ⟨_, _, ts, a, ha, _, e2⟩ := h4 k (by omega)
        refine ⟨Go.bits .xor .u64 18446744073709551615 ti, L, Go.bits .xor .u64 18446744073709551615 ts, a, by omega, ?_, ?_⟩
        · rw [hi, if_neg c1, if_neg c2, if_neg c3, if_pos c4, e1]; rfl
        · rw [hs, if_neg c1, if_neg c2, if_neg c3, if_pos c4, e2]; rfl
    by_cases c5 : bt s n = 40
    · have hi5 : ∀ k, impl_formReader_form.f (k + 1) (lft s n) false = ((impl_formReader_form.f k (lft s (n + 1)) false).bind fun x => ((impl_formReader_next.f x.2.1 x.2.2).bind fun o => ((impl_formReader_form.f k o.2.1 o.2.2).bind fun y => (if y.2.2 = true then (impl_formReader_form.j0 k x.1 o.1 y.1 y.2.1 true) else ((impl_formReader_next.f y.2.1 y.2.2).bind fun z => (impl_formReader_form.j0 k x.1 o.1 y.1 z.2.1 (z.1 != 41))))))) := fun k => by
        rw [hi, if_neg c1, if_neg c2, if_neg c3, if_neg c4, if_pos c5]
      have hs5 : ∀ k, spec_l7R_form.f (k + 2) s n false = ((spec_l7R_form.f k s ((n + 1 : Nat) : Int) false).bind fun x => ((spec_l7R_next.f x.2.1 x.2.2.1 x.2.2.2).bind fun o => ((spec_l7R_form.f k o.2.1 (wrap64 (o.2.2.1 + 1)) o.2.2.2).bind fun y => ((spec_l7R_want.f y.2.1 y.2.2.1 y.2.2.2 41).bind fun z => some (opOf o.1 x.1 y.1, z.1, z.2.1, if opOk o.1 = true then z.2.2 else true))))) := fun k => by
        rw [hs, if_neg c1, if_neg c2, if_neg c3, if_neg c4, if_pos c5]
      clear hi hs
      -- once the program's reader is bad it stays so; the reference's too
      have ibad : ∀ k, 3 ≤ k → ∀ (x : Int) (L : ByteArray) (o : Int) , ∃ t L', ((impl_formReader_form.f k L true).bind fun y => (if y.2.2 = true then (impl_formReader_form.j0 k x o y.1 y.2.1 true) else ((impl_formReader_next.f y.2.1 y.2.2).bind fun z => (impl_formReader_form.j0 k x o y.1 z.2.1 (z.1 != 41))))) = some (t, L', true) := fun k hk x L o => by
        obtain ⟨L', e⟩ := iform_bad L k (by omega)
        rw [e]; simp only [Option.bind_some, if_true]; rw [ij0 _ (by omega)]
        exact ⟨_, _, by rw [ite_self]⟩
      have sbad : ∀ k, 3 ≤ k → ∀ (x o : Int) (a : Nat), a ≤ 9000 → ∃ t, ((spec_l7R_form.f k s (a : Int) true).bind fun y => ((spec_l7R_want.f y.2.1 y.2.2.1 y.2.2.2 41).bind fun z => some (opOf o x y.1, z.1, z.2.1, if opOk o = true then z.2.2 else true))) = some (t, s, ((a + 2 : Nat) : Int), true) := fun k hk x o a ha => by
        rw [sform_bad s a (by omega) k (by omega)]; simp only [Option.bind_some]
        rw [swant s (a + 1) (by omega)]; simp only [Option.bind_some]
        exact ⟨_, by rw [ite_self, ite_self]⟩
      rcases ih (by omega) (n + 1) (by omega) (by omega) with ⟨t, m, h2, h3, h4⟩ | h4
      · by_cases hm : m < s.size
        · -- an operator, and the second form
          have hbm := bt_lt s m
          rcases ih (by omega) (m + 1) (by omega) (by omega) with ⟨u, q, g2, g3, g4⟩ | g4
          · by_cases hq : q < s.size
            · by_cases cq : bt s q = 41
              · cases hop : opOk (bt s m) with
                | true =>
                  refine .inl ⟨opOf (bt s m) t u, q + 1, by omega, by omega, fun k hk => ?_⟩
                  obtain ⟨k, rfl⟩ : ∃ m, k = m + 2 := ⟨k - 2, by omega⟩
                  rw [hi5, hs5, (h4 (k + 1) (by omega)).1, (h4 k (by omega)).2]; simp only [Option.bind_some]
                  rw [inext_at s m hm, snext, if_pos hm]; simp only [Option.bind_some]
                  rw [wrapn m (by omega), (g4 (k + 1) (by omega)).1, (g4 k (by omega)).2]; simp only [Option.bind_some, Bool.false_eq_true, if_false]
                  rw [inext_at s q hq, swant s q (by omega), if_pos ⟨hq, cq⟩]; simp only [Option.bind_some]
                  rw [ij0 _ (by omega), hop, cq]; exact ⟨rfl, rfl⟩
                | false =>
                  refine .inr fun k hk => ?_
                  obtain ⟨k, rfl⟩ : ∃ m, k = m + 2 := ⟨k - 2, by omega⟩
                  refine ⟨opOf (bt s m) t u, lft s (q + 1), opOf (bt s m) t u, q + 1, by omega, ?_, ?_⟩
                  · rw [hi5, (h4 (k + 1) (by omega)).1]; simp only [Option.bind_some]
                    rw [inext_at s m hm]; simp only [Option.bind_some]
                    rw [(g4 (k + 1) (by omega)).1]; simp only [Option.bind_some, Bool.false_eq_true, if_false]
                    rw [inext_at s q hq]; simp only [Option.bind_some]
                    rw [ij0 _ (by omega), hop]; rfl
                  · rw [hs5, (h4 k (by omega)).2]; simp only [Option.bind_some]
                    rw [snext, if_pos hm]; simp only [Option.bind_some]
                    rw [wrapn m (by omega), (g4 k (by omega)).2]; simp only [Option.bind_some]
                    rw [swant s q (by omega)]; simp only [Option.bind_some]
                    rw [hop]; rfl
              · refine .inr fun k hk => ?_
                obtain ⟨k, rfl⟩ : ∃ m, k = m + 2 := ⟨k - 2, by omega⟩
                refine ⟨opOf (bt s m) t u, lft s (q + 1), opOf (bt s m) t u, q + 1, by omega, ?_, ?_⟩
                · rw [hi5, (h4 (k + 1) (by omega)).1]; simp only [Option.bind_some]
                  rw [inext_at s m hm]; simp only [Option.bind_some]
                  rw [(g4 (k + 1) (by omega)).1]; simp only [Option.bind_some, Bool.false_eq_true, if_false]
                  rw [inext_at s q hq]; simp only [Option.bind_some]
                  rw [ij0 _ (by omega), show (bt s q != 41) = true from bne_iff_ne.2 cq, ite_self]
                · rw [hs5, (h4 k (by omega)).2]; simp only [Option.bind_some]
                  rw [snext, if_pos hm]; simp only [Option.bind_some]
                  rw [wrapn m (by omega), (g4 k (by omega)).2]; simp only [Option.bind_some]
                  rw [swant s q (by omega), if_neg (fun z => cq z.2)]; simp only [Option.bind_some]
                  rw [ite_self]
            · refine .inr fun k hk => ?_
              obtain ⟨k, rfl⟩ : ∃ m, k = m + 2 := ⟨k - 2, by omega⟩
              refine ⟨opOf (bt s m) t u, lft s q, opOf (bt s m) t u, q + 1, by omega, ?_, ?_⟩
              · rw [hi5, (h4 (k + 1) (by omega)).1]; simp only [Option.bind_some]
                rw [inext_at s m hm]; simp only [Option.bind_some]
                rw [(g4 (k + 1) (by omega)).1]; simp only [Option.bind_some, Bool.false_eq_true, if_false]
                rw [inext_end _ _ (by rw [lft_size]; omega)]; simp only [Option.bind_some]
                rw [ij0 _ (by omega), show ((0 : Int) != 41) = true from rfl, ite_self]
              · rw [hs5, (h4 k (by omega)).2]; simp only [Option.bind_some]
                rw [snext, if_pos hm]; simp only [Option.bind_some]
                rw [wrapn m (by omega), (g4 k (by omega)).2]; simp only [Option.bind_some]
                rw [swant s q (by omega), if_neg (fun z => hq z.1)]; simp only [Option.bind_some]
                rw [ite_self]
          · refine .inr fun k hk => ?_
            obtain ⟨k, rfl⟩ : ∃ m, k = m + 2 := ⟨k - 2, by omega⟩
            obtain ⟨ti, L, _, _, _, e1, _⟩ := g4 (k + 1) (by omega)
            obtain ⟨_, _, ts, a, ha, _, e2⟩ := g4 k (by omega)
            refine ⟨opOf (bt s m) t ti, L, opOf (bt s m) t ts, a + 1, by omega, ?_, ?_⟩
            · rw [hi5, (h4 (k + 1) (by omega)).1]; simp only [Option.bind_some]
              rw [inext_at s m hm]; simp only [Option.bind_some]
              rw [e1]; simp only [Option.bind_some, if_true]
              rw [ij0 _ (by omega), ite_self]
            · rw [hs5, (h4 k (by omega)).2]; simp only [Option.bind_some]
              rw [snext, if_pos hm]; simp only [Option.bind_some]
              rw [wrapn m (by omega), e2]; simp only [Option.bind_some]
              rw [swant s a (by omega), ite_self]; simp only [Option.bind_some]
              rw [ite_self]
        · refine .inr fun k hk => ?_
          obtain ⟨k, rfl⟩ : ∃ m, k = m + 2 := ⟨k - 2, by omega⟩
          obtain ⟨ti, L, e1⟩ := ibad (k + 1) (by omega) t (lft s m) 0
          refine ⟨ti, L, opOf 0 t 0, m + 3, by omega, ?_, ?_⟩
          · rw [hi5, (h4 (k + 1) (by omega)).1]; simp only [Option.bind_some]
            rw [inext_end _ _ (by rw [lft_size]; omega)]; simp only [Option.bind_some]
            exact e1
          · rw [hs5, (h4 k (by omega)).2]; simp only [Option.bind_some]
            rw [snext, if_neg hm]; simp only [Option.bind_some]
            rw [wrapn m (by omega), sform_end s (m + 1) (by omega) (by omega) k (by omega)]; simp only [Option.bind_some]
            rw [swant s (m + 2) (by omega), ite_self]; simp only [Option.bind_some]
            rw [ite_self]
      · refine .inr fun k hk => ?_
        obtain ⟨k, rfl⟩ : ∃ m, k = m + 2 := ⟨k - 2, by omega⟩
        obtain ⟨ti, L, _, _, _, e1, _⟩ := h4 (k + 1) (by omega)
        obtain ⟨_, _, ts, a, ha, _, e2⟩ := h4 k (by omega)
        obtain ⟨c, L2, e3⟩ := inext_bad L
        obtain ⟨t2, L3, e4⟩ := ibad (k + 1) (by omega) ti L2 c
        obtain ⟨t5, e5⟩ := sbad k (by omega) ts (if a < s.size then bt s a else 0) (a + 1) (by omega)
        refine ⟨t2, L3, t5, a + 3, by omega, ?_, ?_⟩
        · rw [hi5, e1]; simp only [Option.bind_some]
          rw [e3]; simp only [Option.bind_some]
          exact e4
        · rw [hs5, e2]; simp only [Option.bind_some]
          rw [snext]; simp only [Option.bind_some]
          rw [wrapn a (by omega)]
          exact e5
    · refine .inr fun k hk => ?_
      obtain ⟨k, rfl⟩ : ∃ m, k = m + 2 := ⟨k - 2, by omega⟩
      refine ⟨0, lft s (n + 1), 0, n + 1, by omega, ?_, ?_⟩
      · rw [hi, if_neg c1, if_neg c2, if_neg c3, if_neg c4, if_neg c5]
      · rw [hs, if_neg c1, if_neg c2, if_neg c3, if_neg c4, if_neg c5]
/-- both tell the same of a text -/
theorem table_both (s : ByteArray) (hn : s.size ≤ 140737488351232) : ∃ r : Int × Bool, ∀ k, 300 ≤ k → (∃ i, impl_readForm.f k s = some (i, r.2) ∧ (r.2 = true → i = r.1)) ∧ ∃ i, spec_l7Table.f k s = some (i, r.2) ∧ (r.2 = true → i = r.1) := by
  by_cases h60 : (s.size : Int) > 60
  · refine ⟨(0, false), fun k hk => ⟨⟨0, ?_, fun h => by cases h⟩, ⟨0, ?_, fun h => by cases h⟩⟩⟩
    · unfold impl_readForm.f; rw [if_pos h60]
    · unfold spec_l7Table.f; rw [if_pos h60]
  have h0 : lft s 0 = s := by unfold lft; simp
  rcases form_both s (by omega) 60 (by omega) 0 (by omega) (by omega) with ⟨t, m, h1, h2, h3⟩ | h3
  · refine ⟨(t, decide (m = s.size)), fun k hk => ⟨⟨t, ?_, fun _ => rfl⟩, ⟨t, ?_, fun _ => rfl⟩⟩⟩
    · have e := (h3 k (by omega)).1
      rw [h0] at e
      unfold impl_readForm.f; rw [if_neg h60, e]; simp only [Option.bind_some, Bool.false_eq_true, if_false]
      congr 2
      rw [Bool.eq_iff_iff, beq_iff_eq, decide_eq_true_eq, toList_nil, lft_size]; omega
    · have e := (h3 k (by omega)).2
      unfold spec_l7Table.f; rw [if_neg h60]; rw [show ((0 : Nat) : Int) = 0 from rfl] at e; rw [e]; simp only [Option.bind_some, Bool.false_eq_true, if_false]
      congr 2
      rw [Bool.eq_iff_iff, beq_iff_eq, decide_eq_true_eq]; omega
  · refine ⟨(0, false), fun k hk => ?_⟩
    obtain ⟨ti, L, ts, a, ha, e1, e2⟩ := h3 k (by omega)
    rw [h0] at e1
    rw [show ((0 : Nat) : Int) = 0 from rfl] at e2
    refine ⟨⟨ti, ?_, fun h => by cases h⟩, ⟨ts, ?_, fun h => by cases h⟩⟩
    · unfold impl_readForm.f; rw [if_neg h60, e1]; rfl
    · unfold spec_l7Table.f; rw [if_neg h60, e2]; rfl

def tabB (t : Int) (j : Nat) : Int := (48 + (Go.bits .and .u64 (shr .u64 t (j : Int)) 1)) % 256
def tabRow (t : Int) : Nat → List Int
  | 0 => []
  | j + 1 => tabRow t j ++ [tabB t j]
theorem tabRow_length (t : Int) (j : Nat) : (tabRow t j).length = j := by
  induction j with
  | zero => rfl
  | succ j ih => simp [tabRow, ih]
theorem impl_table_loop (t : Int) (d : Nat) : ∀ (k j : Nat), j ≤ 64 → 64 - j = d → d < k → impl_TableOf.l0 k t (tabRow t j) j = some (strOfNums (tabRow t 64), true) := by
  induction d with
  | zero =>
    intro k j hj hd hk
    obtain ⟨k, rfl⟩ : ∃ m, k = m + 1 := ⟨k - 1, by omega⟩
    obtain rfl : j = 64 := by omega
    simp only [impl_TableOf.l0]; rw [if_neg (by omega)]
  | succ d ih =>
    intro k j hj hd hk
    obtain ⟨k, rfl⟩ : ∃ m, k = m + 1 := ⟨k - 1, by omega⟩
    simp only [impl_TableOf.l0]; rw [if_pos (by omega), if_pos (by omega), if_pos (by rw [tabRow_length]; omega), wrapn j (by omega)]
    exact ih k (j + 1) (by omega) (by omega) (by omega)
theorem spec_table_loop (t : Int) (d : Nat) : ∀ (k j : Nat), j ≤ 64 → 64 - j = d → d < k → spec_TableOf.l0 k t (tabRow t j ++ List.replicate (64 - j) 0) 64 j = some (strOfNums (tabRow t 64), true) := by
  induction d with
  | zero =>
    intro k j hj hd hk
    obtain ⟨k, rfl⟩ : ∃ m, k = m + 1 := ⟨k - 1, by omega⟩
    obtain rfl : j = 64 := by omega
    simp only [spec_TableOf.l0]; rw [if_neg (by omega)]; simp
  | succ d ih =>
    intro k j hj hd hk
    obtain ⟨k, rfl⟩ : ∃ m, k = m + 1 := ⟨k - 1, by omega⟩
    have hl := tabRow_length t j
    simp only [spec_TableOf.l0]; rw [if_pos (by omega), u64_same (j : Int) (by omega) (by omega), if_pos (by omega), if_pos (by omega), if_pos (by simp; omega), wrapn j (by omega), Int.toNat_natCast]
    have e : (tabRow t j ++ List.replicate (64 - j) 0).set j ((48 + ((Go.bits .and .u64 (shr .u64 t (j : Int)) 1) % 256)) % 256) = tabRow t (j + 1) ++ List.replicate (64 - (j + 1)) 0 := by
      rw [show 64 - j = (64 - (j + 1)) + 1 by omega, List.replicate_succ, List.set_append_right _ _ (by omega), hl, Nat.sub_self, List.set_cons_zero]
      simp only [tabRow, List.append_assoc, List.singleton_append]
      congr 2
      unfold tabB
      omega
    rw [e]
    exact ih k (j + 1) (by omega) (by omega) (by omega)
/-- THE PURE STATEMENT of the law. -/
def FnExactTableOf_Pure : Prop := ∀ (a0 : ByteArray), a0.size ≤ 140737488351232 → ∃ k, laws_FnExactTableOf.f k a0 = some true

theorem FnExactTableOf : FnExactTableOf_Pure := by
  intro s hn
  refine ⟨300, ?_⟩
  unfold laws_FnExactTableOf.f
  by_cases h : (s.size : Int) > 1048576
  · rw [if_pos h]
  rw [if_neg h]
  obtain ⟨r, hr⟩ := table_both s hn
  obtain ⟨⟨i, e1, g1⟩, ⟨j, e2, g2⟩⟩ := hr 300 (by omega)
  unfold spec_TableOf.f impl_TableOf.f
  rw [e1, e2]; simp only [Option.bind_some]
  cases c : r.2 with
  | true =>
    rw [g1 c, g2 c]
    simp only [if_true, List.length_replicate]
    have h1 := impl_table_loop r.1 64 300 0 (by omega) rfl (by omega)
    have h2 := spec_table_loop r.1 64 300 0 (by omega) rfl (by omega)
    obtain ⟨T, hT⟩ : ∃ T, T = tabRow r.1 64 := ⟨_, rfl⟩
    rw [← hT, show ((0 : Nat) : Int) = 0 from rfl, show tabRow r.1 0 = [] from rfl] at h1 h2
    rw [List.nil_append] at h2
    clear hT
    rw [if_pos (by omega), show ((64 : Nat) : Int) = 64 from rfl, h2]; simp only [Option.bind_some]
    rw [h1]; simp only [Option.bind_some, if_true, bne_self_eq_false]; rfl
  | false => simp

end Go.Proofs.Ytggolfbojjjafaa.Pure
