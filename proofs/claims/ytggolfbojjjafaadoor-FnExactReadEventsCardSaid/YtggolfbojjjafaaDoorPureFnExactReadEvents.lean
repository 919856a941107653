/- The program reads events as the reference does: the law answers true. No conditions but the reach of a text. -/
import Derived.Test.YtggolfbojjjafaaDoorPFnExactReadEventsx7
namespace Go.Proofs.YtggolfbojjjafaaDoor.Pure
open Go.RowKit Go.Proofs.YtggolfbojjjafaaDoor.PFnExactReadEvents Go.Proofs.YtggolfbojjjafaaDoorW.PrintWords Go.Proofs.YtggolfbojjjafaaDoorW.PrintLast
set_option linter.unusedVariables false
set_option linter.unusedSimpArgs false

theorem wrap_next {j n : Nat} (h : j < n) (hn : n ≤ 140737488351232) : wrap64 ((j : Int) + 1) = ((j + 1 : Nat) : Int) := by
  unfold wrap64
  omega

/-- a byte of a good name -/
def okb (b : UInt8) : Bool := (decide (97 ≤ b.toNat) && decide (b.toNat ≤ 122)) || (decide (48 ≤ b.toNat) && decide (b.toNat ≤ 57))
theorem bt_drop (s : ByteArray) (n : Nat) (h : n < s.size) : ∃ b : UInt8, s.data.toList.drop n = b :: s.data.toList.drop (n + 1) ∧ bt s n = (b.toNat : Int) := by
  have h2 : n < s.data.toList.length := by rw [Array.length_toList]; exact h
  refine ⟨s.data.toList[n], List.drop_eq_getElem_cons h2, ?_⟩
  unfold bt
  rw [dif_pos (by simpa using h)]
  simp [ByteArray.getElem_eq_getElem_data]
theorem specName (s : ByteArray) (hs : s.size ≤ 9223372036854775806) : ∀ (d n : Nat), s.size - n = d → n ≤ s.size → ∀ k, d < k → spec_l1Name.l0 k s n = some ((s.data.toList.drop n).all okb && decide ((s.size : Int) ≤ 12)) := by
  intro d
  induction d with
  | zero =>
    intro n hd hn k hk
    obtain ⟨k, rfl⟩ : ∃ m, k = m + 1 := ⟨k - 1, by omega⟩
    simp only [spec_l1Name.l0]
    rw [if_neg (by omega), List.drop_of_length_le (by rw [Array.length_toList]; show s.size ≤ n; omega)]
    simp
  | succ d ih =>
    intro n hd hn k hk
    obtain ⟨k, rfl⟩ : ∃ m, k = m + 1 := ⟨k - 1, by omega⟩
    obtain ⟨b, hb, hbt⟩ := bt_drop s n (by omega)
    have hw : wrap64 ((n : Int) + 1) = ((n + 1 : Nat) : Int) := by unfold wrap64; omega
    have hi := ih (n + 1) (by omega) (by omega) k (by omega)
    simp only [spec_l1Name.l0]
    rw [if_pos (by omega), if_pos (by omega), hw, hi, hbt, hb, List.all_cons]
    by_cases c1 : (b.toNat : Int) ≥ 97
    · by_cases c2 : (b.toNat : Int) ≤ 122
      · rw [if_pos c1, if_pos c2]
        have : okb b = true := by unfold okb; rw [decide_eq_true (by omega : 97 ≤ b.toNat), decide_eq_true (by omega : b.toNat ≤ 122)]; rfl
        rw [this, Bool.true_and]
      · rw [if_pos c1, if_neg c2]
        have : okb b = false := by unfold okb; rw [decide_eq_false (by omega : ¬ b.toNat ≤ 122), decide_eq_false (by omega : ¬ b.toNat ≤ 57)]; simp
        rw [this, if_pos (by omega), if_neg (by omega)]; simp
    · rw [if_neg c1]
      by_cases c3 : (b.toNat : Int) ≥ 48
      · by_cases c4 : (b.toNat : Int) ≤ 57
        · rw [if_pos c3, if_pos c4]
          have : okb b = true := by unfold okb; rw [decide_eq_true (by omega : 48 ≤ b.toNat), decide_eq_true (by omega : b.toNat ≤ 57)]; simp
          rw [this, Bool.true_and]
        · rw [if_pos c3, if_neg c4]
          have : okb b = false := by unfold okb; rw [decide_eq_false (by omega : ¬ 97 ≤ b.toNat), decide_eq_false (by omega : ¬ b.toNat ≤ 57)]; simp
          rw [this]; simp
      · rw [if_neg c3]
        have : okb b = false := by unfold okb; rw [decide_eq_false (by omega : ¬ 97 ≤ b.toNat), decide_eq_false (by omega : ¬ 48 ≤ b.toNat)]; simp
        rw [this]; simp
theorem dropWhile_nil_iff {α : Type} (p : α → Bool) : ∀ l : List α, l.dropWhile p = [] ↔ l.all p = true
  | [] => by simp
  | x :: l => by
    rw [List.dropWhile_cons, List.all_cons]
    cases h : p x with
    | true => rw [if_pos rfl, Bool.true_and]; exact dropWhile_nil_iff p l
    | false => simp
theorem dropWhile_has {α : Type} (p : α → Bool) : ∀ (l : List α) x, x ∈ l → p x = false → x ∈ l.dropWhile p
  | [], _, h, _ => by cases h
  | y :: l, x, h, hx => by
    rw [List.dropWhile_cons]
    cases hy : p y with
    | true =>
      rw [if_pos rfl]
      rcases List.mem_cons.1 h with rfl | h
      · rw [hx] at hy; cases hy
      · exact dropWhile_has p l x h hx
    | false => rw [if_neg (by simp)]; exact h
theorem trim_nil (l cs : List UInt8) : Lib.trimS l cs = [] ↔ l.all (cs.contains ·) = true := by
  constructor
  · intro h
    rw [List.all_eq_true]
    intro x hx
    cases hc : cs.contains x with
    | true => rfl
    | false =>
      exfalso
      have h1 : x ∈ Lib.trimRightS l cs := by
        unfold Lib.trimRightS
        rw [List.mem_reverse]
        exact dropWhile_has _ _ x (List.mem_reverse.2 hx) hc
      have h2 : x ∈ Lib.trimS l cs := dropWhile_has _ _ x h1 hc
      rw [h] at h2
      cases h2
  · intro h
    have h1 : Lib.trimRightS l cs = [] := by
      unfold Lib.trimRightS
      rw [List.reverse_eq_nil_iff, dropWhile_nil_iff, List.all_reverse]
      exact h
    unfold Lib.trimS
    rw [h1]
    rfl
theorem okb_cut : ∀ b : UInt8, ([97, 98, 99, 100, 101, 102, 103, 104, 105, 106, 107, 108, 109, 110, 111, 112, 113, 114, 115, 116, 117, 118, 119, 120, 121, 122, 48, 49, 50, 51, 52, 53, 54, 55, 56, 57] : List UInt8).contains b = okb b := by
  have h : ∀ n : Fin 256, ([97, 98, 99, 100, 101, 102, 103, 104, 105, 106, 107, 108, 109, 110, 111, 112, 113, 114, 115, 116, 117, 118, 119, 120, 121, 122, 48, 49, 50, 51, 52, 53, 54, 55, 56, 57] : List UInt8).contains (UInt8.ofNat n.val) = okb (UInt8.ofNat n.val) := by decide +kernel
  intro b
  have h2 := h ⟨b.toNat, b.toNat_lt⟩
  rwa [show UInt8.ofNat (⟨b.toNat, b.toNat_lt⟩ : Fin 256).val = b from UInt8.ofNat_toNat] at h2
theorem implName (s : ByteArray) (hs : s.size ≤ 9223372036854775807) : impl_goodName.f s = some (s.data.toList.all okb && decide ((s.size : Int) ≤ 12)) := by
  unfold impl_goodName.f
  by_cases c : (s.size : Int) ≤ 12
  · rw [if_pos c, decide_eq_true c, Bool.and_true]
    unfold strings_Trim.f
    rw [if_pos ⟨hs, by decide, by decide⟩, Option.bind_some]
    congr 1
    rw [Lib.toList_data]
    show (Lib.trimS s.data.toList [97, 98, 99, 100, 101, 102, 103, 104, 105, 106, 107, 108, 109, 110, 111, 112, 113, 114, 115, 116, 117, 118, 119, 120, 121, 122, 48, 49, 50, 51, 52, 53, 54, 55, 56, 57] == []) = _
    have h := trim_nil s.data.toList [97, 98, 99, 100, 101, 102, 103, 104, 105, 106, 107, 108, 109, 110, 111, 112, 113, 114, 115, 116, 117, 118, 119, 120, 121, 122, 48, 49, 50, 51, 52, 53, 54, 55, 56, 57]
    simp only [okb_cut] at h
    rw [show (s.data.toList.all fun x => okb x) = s.data.toList.all okb from rfl] at h
    cases ha : s.data.toList.all okb with
    | true => rw [h.2 ha]; rfl
    | false =>
      rw [beq_eq_false_iff_ne]
      intro e
      rw [h.1 e] at ha
      cases ha
  · rw [if_neg c, decide_eq_false c, Bool.and_false]
/-- a good event -/
def goodEv (i v k : Int) (s : ByteArray) : Bool := decide (1 ≤ i ∧ i ≤ 1000) && decide (0 ≤ v ∧ v ≤ 1000000) && decide (1 ≤ k ∧ k ≤ 6) && (s.data.toList.all okb && decide ((s.size : Int) ≤ 12))
theorem l1In_eq (a b c : Int) : spec_l1In.f a b c = some (decide (b ≤ a ∧ a ≤ c)) := by
  unfold spec_l1In.f
  by_cases h : a ≥ b
  · rw [if_pos h]; congr 1; simp [show b ≤ a from h]
  · rw [if_neg h]; congr 1; simp; omega
theorem in_eq (a b c : Int) : impl_in.f a b c = some (decide (b ≤ a ∧ a ≤ c)) := by
  unfold impl_in.f
  by_cases h : a ≥ b
  · rw [if_pos h]; congr 1; simp [show b ≤ a from h]
  · rw [if_neg h]; congr 1; simp; omega
theorem specGoodEv (i v j : Int) (s : ByteArray) (hs : s.size ≤ 9223372036854775806) (k : Nat) (hk : s.size < k) : spec_GoodEvent.f k i v j s = some (goodEv i v j s) := by
  have h := specName s hs s.size 0 (by omega) (by omega) k hk
  have h2 : spec_l1Name.f k s = some (s.data.toList.all okb && decide ((s.size : Int) ≤ 12)) := h
  unfold spec_GoodEvent.f goodEv
  rw [l1In_eq, l1In_eq, l1In_eq, h2]
  simp only [Option.bind_some]
  cases decide (1 ≤ i ∧ i ≤ 1000) <;> cases decide (0 ≤ v ∧ v ≤ 1000000) <;> cases decide (1 ≤ j ∧ j ≤ 6) <;> simp
theorem implGoodEv (i v j : Int) (s : ByteArray) (hs : s.size ≤ 9223372036854775807) : impl_GoodEvent.f i v j s = some (goodEv i v j s) := by
  unfold impl_GoodEvent.f impl_isVersion.f impl_goodKind.f goodEv
  rw [in_eq, in_eq, in_eq, implName s hs]
  simp only [Option.bind_some]
  cases decide (1 ≤ i ∧ i ≤ 1000) <;> cases decide (0 ≤ v ∧ v ≤ 1000000) <;> cases decide (1 ≤ j ∧ j ≤ 6) <;> simp

/-- bytes as a text -/
def bs (l : List UInt8) : ByteArray := ⟨l.toArray⟩
theorem bs_append (a b : List UInt8) : bs a ++ bs b = bs (a ++ b) := by
  apply ByteArray.ext
  rw [ByteArray.data_append]
  simp [bs]
theorem bs_size (a : List UInt8) : (bs a).size = a.length := by simp [bs, ByteArray.size]
theorem bs_data (s : ByteArray) : bs s.data.toList = s := by
  apply ByteArray.ext
  simp [bs]
theorem bs_list (a : List UInt8) : (bs a).data.toList = a := by simp [bs]
theorem one_num (n : Nat) (h : n < 10) : strOfNums [((48 + (n : Int)) % 256)] = bs [UInt8.ofNat (48 + n)] := by
  rw [show ((48 + (n : Int)) % 256) = ((48 + n : Nat) : Int) by omega]
  rfl
theorem nDigits_le (k u : Nat) (h : u < 10 ^ (k + 1)) : Lib.nDigits u ≤ k + 1 := by
  induction k generalizing u with
  | zero => rw [Lib.nDigits_small (by simpa using h)]; omega
  | succ k ih =>
    by_cases c : u < 10
    · rw [Lib.nDigits_small c]; omega
    · rw [Lib.nDigits_big c]
      have := ih (u / 10) (by rw [Nat.pow_succ] at h; omega)
      omega
theorem l1Num_eq : ∀ (k n : Nat), Lib.nDigits n ≤ k → n ≤ 1000000000 → spec_l1Num.f k n = some (bs (Lib.decDigits n)) := by
  intro k
  induction k with
  | zero => intro n h; have := Lib.nDigits_pos n; omega
  | succ k ih =>
    intro n h hn
    unfold spec_l1Num.f
    by_cases c : n < 10
    · rw [if_pos (by omega), Lib.decDigits, dif_pos c, show wrap64 (48 + (n : Int)) = 48 + (n : Int) by unfold wrap64; omega, one_num n c]
    · rw [if_neg (by omega)]
      have e1 : wrap64 (Int.tdiv (n : Int) 10) = ((n / 10 : Nat) : Int) := by
        rw [show Int.tdiv (n : Int) 10 = ((n / 10 : Nat) : Int) from rfl]
        unfold wrap64; omega
      have e2 : wrap64 (48 + Int.tmod (n : Int) 10) = 48 + ((n % 10 : Nat) : Int) := by
        rw [show Int.tmod (n : Int) 10 = ((n % 10 : Nat) : Int) from rfl]
        unfold wrap64; omega
      rw [Lib.nDigits_big c] at h
      rw [e1, e2, ih (n / 10) (by omega) (by omega)]
      simp only [Option.bind_some]
      rw [one_num (n % 10) (by omega), bs_append, bs_size, bs_size]
      rw [Lib.decDigits_length]
      have hd := nDigits_le 9 (n / 10) (by omega)
      rw [if_pos (by simp; omega)]
      conv => rhs; rw [Lib.decDigits, dif_neg c]
/-- the text of an event -/
def evText (i v j : Nat) (s : List UInt8) : List UInt8 := Lib.decDigits j ++ [46] ++ Lib.decDigits i ++ [46] ++ Lib.decDigits v ++ [46] ++ s ++ [46]
theorem specBytes (i v j : Nat) (s : ByteArray) (hi : i ≤ 1000000) (hv : v ≤ 1000000) (hj : j ≤ 1000000) (hs : s.size ≤ 1000) (k : Nat) (hk : 10 ≤ k) : spec_l1Bytes.f k i v j s = some (bs (evText i v j s.data.toList)) := by
  have di := nDigits_le 9 i (by omega)
  have dv := nDigits_le 9 v (by omega)
  have dj := nDigits_le 9 j (by omega)
  unfold spec_l1Bytes.f
  rw [l1Num_eq k j (by omega) (by omega), l1Num_eq k i (by omega) (by omega), l1Num_eq k v (by omega) (by omega)]
  simp only [Option.bind_some]
  rw [show (⟨#[46]⟩ : ByteArray) = bs [46] from rfl]
  have hs' : (bs s.data.toList).size ≤ 1000 := by rw [bs_data]; exact hs
  rw [bs_size] at hs'
  rw [← bs_data s]
  simp only [bs_append, bs_size, List.length_append, Lib.decDigits_length, List.length_cons, List.length_nil]
  rw [bs_list]
  rw [if_pos (by omega), if_pos (by omega), if_pos (by omega), if_pos (by omega), if_pos (by omega), if_pos (by omega), if_pos (by omega)]
  rfl
theorem goodEv_facts {i v j : Int} {s : ByteArray} (h : goodEv i v j s = true) : ∃ a b c : Nat, i = a ∧ v = b ∧ j = c ∧ 1 ≤ a ∧ a ≤ 1000 ∧ b ≤ 1000000 ∧ 1 ≤ c ∧ c ≤ 6 ∧ s.size ≤ 12 ∧ s.data.toList.all okb = true := by
  unfold goodEv at h
  simp only [Bool.and_eq_true, decide_eq_true_eq] at h
  obtain ⟨⟨⟨⟨h1, h2⟩, h3, h4⟩, h5, h6⟩, h7, h8⟩ := h
  exact ⟨i.toNat, v.toNat, j.toNat, by omega, by omega, by omega, by omega, by omega, by omega, by omega, by omega, by omega, h7⟩

theorem nDigits_six (n : Nat) (h : n ≤ 1000000) : Lib.nDigits n ≤ 7 := nDigits_le 6 n (by omega)
theorem evText_length (i v j : Nat) (s : List UInt8) (hi : i ≤ 1000000) (hv : v ≤ 1000000) (hj : j ≤ 1000000) : (evText i v j s).length ≤ 25 + s.length := by
  have h1 := nDigits_six i hi
  have h2 := nDigits_six v hv
  have h3 := nDigits_six j hj
  unfold evText
  simp only [List.length_append, Lib.decDigits_length, List.length_cons, List.length_nil]
  omega

theorem wrap_small {x : Int} (h0 : -9223372036854775808 ≤ x) (h1 : x ≤ 9223372036854775807) : wrap64 x = x := by
  unfold wrap64
  omega

theorem tmod_pos {x m : Int} (h : 0 ≤ x) : Int.tmod x m = x % m := Int.tmod_eq_emod_of_nonneg h

theorem sum_both (s : ByteArray) (hn : s.size ≤ 140737488351232) (d : Nat) : ∀ (k : Nat) (a b i : Int), 0 ≤ i → i ≤ s.size → (s.size : Int) - i = d → 0 ≤ a → a ≤ 254 → 0 ≤ b → b ≤ 254 → d < k →
    ∃ r, spec_SumOf.l0 k s a b i = some r ∧ impl_SumOf.l0 k s a b s.size i = some r ∧ 0 ≤ r ∧ r ≤ 65278 := by
  induction d with
  | zero =>
    intro k a b i h0 h1 hd ha0 ha1 hb0 hb1 hk
    obtain ⟨k, rfl⟩ : ∃ m, k = m + 1 := ⟨k - 1, by omega⟩
    refine ⟨256 * b + a, ?_, ?_, by omega, by omega⟩
    · simp only [spec_SumOf.l0]; rw [if_neg (by omega), wrap_small (x := 256 * b) (by omega) (by omega), wrap_small (by omega) (by omega)]
    · simp only [impl_SumOf.l0]; rw [if_neg (by omega), wrap_small (x := 256 * b) (by omega) (by omega), wrap_small (by omega) (by omega)]
  | succ d ih =>
    intro k a b i h0 h1 hd ha0 ha1 hb0 hb1 hk
    obtain ⟨k, rfl⟩ : ∃ m, k = m + 1 := ⟨k - 1, by omega⟩
    have hlt : i < (s.size : Int) := by omega
    have hr := bt_range s i
    have e1 : wrap64 (bt s i) = bt s i := wrap_small (by omega) (by omega)
    have e2 : wrap64 (a + bt s i) = a + bt s i := wrap_small (by omega) (by omega)
    have e3 : Int.tmod (a + bt s i) 255 = (a + bt s i) % 255 := tmod_pos (by omega)
    have e4 : wrap64 (b + (a + bt s i) % 255) = b + (a + bt s i) % 255 := wrap_small (by omega) (by omega)
    have e5 : Int.tmod (b + (a + bt s i) % 255) 255 = (b + (a + bt s i) % 255) % 255 := tmod_pos (by omega)
    have e6 : wrap64 (i + 1) = i + 1 := wrap_small (by omega) (by omega)
    obtain ⟨r, hs, hi, hr0, hr1⟩ := ih k ((a + bt s i) % 255) ((b + (a + bt s i) % 255) % 255) (i + 1) (by omega) (by omega) (by omega) (by omega) (by omega) (by omega) (by omega) (by omega)
    refine ⟨r, ?_, ?_, hr0, hr1⟩
    · simp only [spec_SumOf.l0]; rw [if_pos hlt, if_pos h0, e1, e2, e3, e4, e5, e6]; exact hs
    · simp only [impl_SumOf.l0]; rw [if_pos hlt, if_pos h0, if_pos hlt, e1, e2, e3, e4, e5, e6]; exact hi

theorem sum_some (s : ByteArray) (hn : s.size ≤ 140737488351232) (k : Nat) (hk : s.size < k) :
    ∃ r, spec_SumOf.f k s = some r ∧ impl_SumOf.f k s = some r ∧ 0 ≤ r ∧ r ≤ 65278 :=
  sum_both s hn s.size k 0 0 0 (by omega) (by omega) (by omega) (by omega) (by omega) (by omega) (by omega) hk

theorem strOfNums_size (l : List Int) : (strOfNums l).size = l.length := by
  simp [strOfNums, ByteArray.size]

theorem frame_some (s : ByteArray) (hn : s.size ≤ 140737488351232) (k : Nat) (hk : s.size < k) :
    ∃ r, spec_l1Frame.f k s = some r ∧ impl_frame.f k s = some r := by
  obtain ⟨r, hs, hi, hr0, hr1⟩ := sum_some s hn k hk
  have e1 : Int.tdiv r 256 = r / 256 := Int.tdiv_eq_ediv_of_nonneg hr0
  have e2 : Int.tmod r 256 = r % 256 := tmod_pos hr0
  have e3 : wrap64 (r / 256) = r / 256 := wrap_small (by omega) (by omega)
  have e4 : r % 256 % 256 = r % 256 := by omega
  refine ⟨(strOfNums [(s.size : Int) % 256] ++ s) ++ strOfNums [r / 256 % 256, r % 256], ?_, ?_⟩
  · unfold spec_l1Frame.f
    rw [hs]; simp only [Option.bind_some]
    rw [if_pos (by rw [strOfNums_size]; simp; omega), if_pos (by rw [strOfNums_size]; simp [ByteArray.size_append, strOfNums_size]; omega)]
  · unfold impl_frame.f
    rw [hi]; simp only [Option.bind_some]
    rw [e1, e2, e3, e4, if_pos (by rw [strOfNums_size]; simp; omega), if_pos (by rw [strOfNums_size]; simp [ByteArray.size_append, strOfNums_size]; omega)]

theorem take_both (s : ByteArray) (hn : s.size ≤ 140737488351232) (k : Nat) (hk : s.size + 2 ≤ k) : ∃ r, spec_TakeFrame.f k s = some r ∧ impl_TakeFrame.f k s = some r ∧ r.1.size ≤ s.size ∧ 0 ≤ r.2.1 ∧ r.2.1 ≤ (s.size : Int) := by
  obtain ⟨k, rfl⟩ : ∃ m, k = m + 1 := ⟨k - 1, by omega⟩
  have hb := bt_range s 0
  have e1 : wrap64 (bt s 0) = bt s 0 := wrap_small (by omega) (by omega)
  have e2 : wrap64 (bt s 0 + 3) = bt s 0 + 3 := wrap_small (by omega) (by omega)
  have e3 : wrap64 (bt s 0 + 3 - 2) = 1 + bt s 0 := by rw [wrap_small (by omega) (by omega)]; omega
  have e4 : wrap64 (1 + bt s 0) = 1 + bt s 0 := wrap_small (by omega) (by omega)
  have hl : s.toList = [] ↔ s.size = 0 := by
    rw [← List.length_eq_zero_iff, ByteArray.toList_eq, data_length]
  by_cases h0 : s.size = 0
  · refine ⟨(⟨#[]⟩, 0, false), ?_, ?_, Nat.zero_le _, Int.le_refl _, by show (0 : Int) ≤ s.size; omega⟩
    · unfold spec_TakeFrame.f
      rw [if_pos (by omega)]; simp [spec_TakeFrame.j0]
    · unfold impl_TakeFrame.f
      rw [if_pos (hl.2 h0)]; simp [impl_TakeFrame.j0]
  by_cases h1 : bt s 0 > 60
  · refine ⟨(⟨#[]⟩, 0, false), ?_, ?_, Nat.zero_le _, Int.le_refl _, by show (0 : Int) ≤ s.size; omega⟩
    · unfold spec_TakeFrame.f
      rw [if_neg (by omega), if_pos (by omega), if_pos h1]; simp [spec_TakeFrame.j0]
    · unfold impl_TakeFrame.f
      rw [if_neg (fun h => h0 (hl.1 h)), if_pos (by omega), e1, if_pos h1]; simp [impl_TakeFrame.j0]
  by_cases h2 : (s.size : Int) < bt s 0 + 3
  · refine ⟨(⟨#[]⟩, 0, false), ?_, ?_, Nat.zero_le _, Int.le_refl _, by show (0 : Int) ≤ s.size; omega⟩
    · unfold spec_TakeFrame.f
      rw [if_neg (by omega), if_pos (by omega), if_neg h1, e1, e2]; simp [spec_TakeFrame.j0, h2]
    · unfold impl_TakeFrame.f
      rw [if_neg (fun h => h0 (hl.1 h)), if_pos (by omega), e1, if_neg h1, e2]; simp [impl_TakeFrame.j0, h2]
  obtain ⟨t, hs, hi⟩ := frame_some (s.extract 1 (1 + bt s 0).toNat) (by rw [ByteArray.size_extract]; omega) k (by rw [ByteArray.size_extract]; omega)
  refine ⟨if t.toList = (s.extract 0 (bt s 0 + 3).toNat).toList then (s.extract 1 (1 + bt s 0).toNat, bt s 0 + 3, true) else (⟨#[]⟩, 0, false), ?_, ?_, ?_, ?_, ?_⟩
  · unfold spec_TakeFrame.f
    rw [if_neg (by omega), if_pos (by omega), if_neg h1, e1, e2]
    simp only [spec_TakeFrame.j0, h2, decide_false, Bool.false_eq_true, if_false]
    rw [if_pos (by omega), e1, e2, e3, if_pos (by omega), if_pos (by omega), hs]; simp only [Option.bind_some]
    rw [if_pos (by omega), if_pos (by omega)]
    split <;> rfl
  · unfold impl_TakeFrame.f
    rw [if_neg (fun h => h0 (hl.1 h)), if_pos (by omega), e1, if_neg h1, e2]
    simp only [impl_TakeFrame.j0, h2, decide_false, Bool.false_eq_true, if_false]
    rw [if_pos (by omega), e1, e2, e4, if_pos (by omega), if_pos (by omega), hi]; simp only [Option.bind_some]
    rw [if_pos (by omega), if_pos (by omega)]
    split <;> rfl
  · split
    · show (s.extract 1 (1 + bt s 0).toNat).size ≤ s.size
      rw [ByteArray.size_extract]; omega
    · show (0 : Nat) ≤ s.size
      omega
  · split
    · show 0 ≤ bt s 0 + 3
      omega
    · simp
  · split
    · show bt s 0 + 3 ≤ (s.size : Int)
      omega
    · simp

/-- a text cut at its first point -/
def cutL : List UInt8 → List UInt8 × List UInt8 × Bool
  | [] => ([], [], false)
  | b :: l => if b = 46 then ([], l, true) else (b :: (cutL l).1, (cutL l).2.1, (cutL l).2.2)
theorem cutL_true : ∀ {l : List UInt8}, (cutL l).2.2 = true → l = (cutL l).1 ++ 46 :: (cutL l).2.1
  | [], h => by simp [cutL] at h
  | b :: l, h => by
    by_cases c : b = 46
    · subst c; simp [cutL]
    · simp only [cutL, if_neg c] at h ⊢
      rw [List.cons_append, ← cutL_true h]
theorem cutL_false : ∀ {l : List UInt8}, (cutL l).2.2 = false → (cutL l).1 = l ∧ (cutL l).2.1 = []
  | [], _ => ⟨rfl, rfl⟩
  | b :: l, h => by
    by_cases c : b = 46
    · subst c; simp [cutL] at h
    · simp only [cutL, if_neg c] at h ⊢
      rw [(cutL_false h).1, (cutL_false h).2]; exact ⟨rfl, rfl⟩
theorem cutL_at : ∀ {a : List UInt8} (b : List UInt8), 46 ∉ a → cutL (a ++ 46 :: b) = (a, b, true)
  | [], b, _ => by simp [cutL]
  | x :: a, b, h => by
    have hx : x ≠ 46 := fun e => h (by rw [e]; exact List.mem_cons_self)
    rw [List.cons_append, cutL, if_neg hx, cutL_at b (fun hm => h (List.mem_cons_of_mem _ hm))]
theorem cutL_size (l : List UInt8) : (cutL l).1.length ≤ l.length ∧ (cutL l).2.1.length ≤ l.length := by
  cases h : (cutL l).2.2 with
  | true =>
    have e := congrArg List.length (cutL_true h)
    rw [List.length_append, List.length_cons] at e
    omega
  | false => rw [(cutL_false h).1, (cutL_false h).2]; simp
theorem bs_extract (l : List UInt8) (a b : Nat) : (bs l).extract a b = bs ((l.drop a).take (b - a)) := by
  apply ByteArray.ext
  rw [ByteArray.data_extract]
  simp [bs]
theorem bt_bs (l : List UInt8) (n : Nat) (h : n < l.length) : ∃ b : UInt8, l.drop n = b :: l.drop (n + 1) ∧ l.take (n + 1) = l.take n ++ [b] ∧ bt (bs l) n = (b.toNat : Int) := by
  obtain ⟨b, h1, h2⟩ := bt_drop (bs l) n (by rw [bs_size]; exact h)
  rw [bs_list] at h1
  refine ⟨b, h1, ?_, h2⟩
  rw [List.take_succ_eq_append_getElem h]
  congr 2
  rw [List.drop_eq_getElem_cons h] at h1
  exact (List.cons.inj h1).1
theorem l1Cut_loop (l : List UInt8) (hl : l.length ≤ 140737488351232) (d : Nat) : ∀ (k n : Nat), n ≤ l.length → l.length - n = d → d < k →
    spec_l1Cut.l0 k (bs l) 46 n = some (bs (l.take n ++ (cutL (l.drop n)).1), bs (cutL (l.drop n)).2.1, (cutL (l.drop n)).2.2) := by
  induction d with
  | zero =>
    intro k n hn hd hk
    obtain ⟨k, rfl⟩ : ∃ m, k = m + 1 := ⟨k - 1, by omega⟩
    simp only [spec_l1Cut.l0]
    rw [if_neg (by rw [bs_size]; omega), List.drop_of_length_le (by omega), List.take_of_length_le (by omega)]
    simp [cutL, bs]
  | succ d ih =>
    intro k n hn hd hk
    obtain ⟨k, rfl⟩ : ∃ m, k = m + 1 := ⟨k - 1, by omega⟩
    obtain ⟨b, h1, h2, h3⟩ := bt_bs l n (by omega)
    have hw := wrap_next (j := n) (n := l.length) (by omega) hl
    simp only [spec_l1Cut.l0]
    rw [if_pos (by rw [bs_size]; omega), if_pos (by omega), h3, hw]
    by_cases c : b = 46
    · subst c
      rw [if_pos (show (((46 : UInt8).toNat : Nat) : Int) = 46 from rfl), if_pos (by rw [bs_size]; omega), if_pos (by omega), if_pos (by rw [bs_size]; omega), h1, cutL, if_pos rfl]
      rw [bs_extract, bs_extract, bs_size, Int.toNat_natCast, Int.toNat_natCast]
      simp only [List.drop_zero, Nat.sub_zero, List.append_nil]
      rw [List.take_of_length_le (l := l.drop (n + 1)) (by rw [List.length_drop]; omega)]
    · rw [if_neg (fun e => c (UInt8.toNat_inj.1 (by rw [show (46 : UInt8).toNat = 46 from rfl]; omega))), ih k (n + 1) (by omega) (by omega) (by omega), h2, h1, cutL, if_neg c]
      simp
theorem l1Cut_eq (l : List UInt8) (hl : l.length ≤ 140737488351232) (k : Nat) (hk : l.length < k) : spec_l1Cut.f k (bs l) 46 = some (bs (cutL l).1, bs (cutL l).2.1, (cutL l).2.2) := by
  have h := l1Cut_loop l hl l.length k 0 (by omega) (by omega) hk
  unfold spec_l1Cut.f
  simpa using h
/-- a text split at its points, at most m times -/
def splitL : Nat → List UInt8 → List (List UInt8)
  | 0, l => [l]
  | m + 1, l => if (cutL l).2.2 = true then (cutL l).1 :: splitL m (cutL l).2.1 else [l]
/-- put together again -/
def unsplit : List (List UInt8) → List UInt8
  | [] => []
  | [x] => x
  | x :: y :: r => x ++ 46 :: unsplit (y :: r)
theorem splitL_cons : ∀ (m : Nat) (l : List UInt8), ∃ x r, splitL m l = x :: r
  | 0, l => ⟨l, [], rfl⟩
  | m + 1, l => by
    rw [splitL]
    split
    · exact ⟨_, _, rfl⟩
    · exact ⟨_, _, rfl⟩
theorem unsplit_splitL : ∀ (m : Nat) (l : List UInt8), unsplit (splitL m l) = l
  | 0, l => rfl
  | m + 1, l => by
    rw [splitL]
    split
    · rename_i h
      obtain ⟨x, r, e⟩ := splitL_cons m (cutL l).2.1
      have ih := unsplit_splitL m (cutL l).2.1
      rw [e] at ih ⊢
      rw [unsplit, ih, ← cutL_true h]
    · rfl
theorem indexByte_cut : ∀ (l : List UInt8), Lib.indexByte l 46 = if (cutL l).2.2 = true then ((cutL l).1.length : Int) else -1
  | [] => by simp [Lib.indexByte, cutL]
  | b :: l => by
    rw [Lib.indexByte]
    by_cases c : b = 46
    · subst c; simp [cutL]
    · rw [if_neg (by simpa using c), indexByte_cut l]
      simp only [cutL, if_neg c]
      cases h : (cutL l).2.2 with
      | true => first | (simp; done) | (simp; omega)
      | false => simp
theorem indexB_cut (l : List UInt8) : Lib.indexB (bs l) ⟨#[46]⟩ = if (cutL l).2.2 = true then ((cutL l).1.length : Int) else -1 := by
  rw [← indexByte_cut]
  show Lib.index (bs l).data.toList [46] = _
  rw [bs_list]
  exact Lib.index_one l 46
theorem splitB_eq : ∀ (m : Nat) (l : List UInt8), Lib.splitB ⟨#[46]⟩ 0 m (bs l) = (splitL m l).map bs
  | 0, l => rfl
  | m + 1, l => by
    cases h : (cutL l).2.2 with
    | false =>
      have hi := indexB_cut l
      rw [h] at hi
      rw [Lib.splitB_miss _ _ _ _ (by simpa using hi), splitL, h]
      rfl
    | true =>
      have hi := indexB_cut l
      rw [h, if_pos rfl] at hi
      rw [Lib.splitB_hit _ _ _ _ _ hi, splitL, if_pos h, List.map_cons, bs_extract, bs_extract, bs_size]
      have e := cutL_true h
      have hlen := congrArg List.length e
      rw [List.length_append, List.length_cons] at hlen
      congr 1
      · congr 1
        rw [List.drop_zero, Nat.add_zero, Nat.sub_zero]
        conv => lhs; arg 2; rw [e]
        simp
      · rw [← splitB_eq m]
        congr 2
        rw [List.take_of_length_le (by rw [List.length_drop]; omega)]
        conv => lhs; arg 2; rw [e]
        rw [show (⟨#[46]⟩ : ByteArray).size = 1 from rfl, ← List.drop_drop]
        simp

/-- the number that a text of digits tells, behind another one -/
def valF (a : Nat) (l : List UInt8) : Nat := l.foldl (fun a c => a * 10 + (c.toNat - 48)) a
/-- a digit -/
def isDg (b : UInt8) : Bool := decide (48 ≤ b.toNat) && decide (b.toNat ≤ 57)
theorem valF_cons (a : Nat) (b : UInt8) (l : List UInt8) : valF a (b :: l) = valF (a * 10 + (b.toNat - 48)) l := by unfold valF; rw [List.foldl_cons]
theorem dg_toNat (n : Nat) (h : n < 10) : (UInt8.ofNat (48 + n)).toNat = 48 + n := by
  have h2 : ∀ m : Fin 10, (UInt8.ofNat (48 + m.val)).toNat = 48 + m.val := by decide
  exact h2 ⟨n, h⟩
theorem step_wrap (a b : Nat) (h1 : 48 ≤ b) (h2 : b ≤ 57) (h : a * 10 + (b - 48) < 1000000000000000000) : wrap64 (wrap64 (10 * (a : Int)) + ((b : Int) - 48) % 256) = ((a * 10 + (b - 48) : Nat) : Int) := by
  rw [show ((b : Int) - 48) % 256 = (b : Int) - 48 by omega, show wrap64 (10 * (a : Int)) = 10 * (a : Int) by unfold wrap64; omega]
  unfold wrap64
  omega
theorem decDigits_dg (n : Nat) : (Lib.decDigits n).all isDg = true := by
  induction n using Nat.strongRecOn with
  | _ n ih =>
    by_cases c : n < 10
    · rw [Lib.decDigits_one c]
      simp only [List.all_cons, List.all_nil, Bool.and_true, isDg]
      rw [dg_toNat n c, decide_eq_true (by omega), decide_eq_true (by omega)]; rfl
    · rw [Lib.decDigits, dif_neg c, List.all_append, ih (n / 10) (by omega)]
      simp only [List.all_cons, List.all_nil, Bool.and_true, Bool.true_and, isDg]
      rw [dg_toNat _ (by omega), decide_eq_true (by omega), decide_eq_true (by omega)]; rfl
theorem decDigits_val (n : Nat) : valF 0 (Lib.decDigits n) = n := by
  induction n using Nat.strongRecOn with
  | _ n ih =>
    by_cases c : n < 10
    · rw [Lib.decDigits_one c]
      simp only [valF, List.foldl_cons, List.foldl_nil]
      rw [dg_toNat n c]; omega
    · rw [Lib.decDigits, dif_neg c, valF, List.foldl_append]
      have h := ih (n / 10) (by omega)
      unfold valF at h
      rw [h]
      simp only [List.foldl_cons, List.foldl_nil]
      rw [dg_toNat _ (by omega)]; omega
theorem decDigits_ne (n : Nat) : Lib.decDigits n ≠ [] := fun e => by
  have := congrArg List.length e
  rw [Lib.decDigits_length] at this
  have := Lib.nDigits_pos n
  simp at *
  omega
theorem decDigits_head (n : Nat) (h : 1 ≤ n) : ∃ b l, Lib.decDigits n = b :: l ∧ b.toNat ≠ 48 := by
  induction n using Nat.strongRecOn with
  | _ n ih =>
    by_cases c : n < 10
    · exact ⟨_, [], Lib.decDigits_one c, by rw [dg_toNat n c]; omega⟩
    · obtain ⟨b, l, e, hb⟩ := ih (n / 10) (by omega) (by omega)
      exact ⟨b, l ++ [UInt8.ofNat (48 + n % 10)], by rw [Lib.decDigits, dif_neg c, e]; rfl, hb⟩
theorem dot_notin_dg (l : List UInt8) (h : l.all isDg = true) : 46 ∉ l := fun hm => by
  have := List.all_eq_true.1 h 46 hm
  revert this; decide
theorem dot_notin_ok (l : List UInt8) (h : l.all okb = true) : 46 ∉ l := fun hm => by
  have := List.all_eq_true.1 h 46 hm
  revert this; decide
theorem pow_step {a d L : Nat} (hd : d ≤ 9) (h : (a + 1) * 10 ^ (L + 1) ≤ 1000000000000000000) : (a * 10 + d + 1) * 10 ^ L ≤ 1000000000000000000 := by
  have h1 : (a * 10 + d + 1) * 10 ^ L ≤ ((a + 1) * 10) * 10 ^ L := Nat.mul_le_mul_right _ (by omega)
  have h2 : ((a + 1) * 10) * 10 ^ L = (a + 1) * 10 ^ (L + 1) := by rw [Nat.pow_succ, Nat.mul_assoc, Nat.mul_comm 10]
  omega
theorem pow_low {a L : Nat} (h : (a + 1) * 10 ^ L ≤ 1000000000000000000) : a < 1000000000000000000 := by
  have : a + 1 ≤ (a + 1) * 10 ^ L := Nat.le_mul_of_pos_right _ (Nat.pow_pos (by decide))
  omega
theorem parseUint_dg : ∀ (l : List UInt8) (a : Nat), l.all isDg = true → (a + 1) * 10 ^ l.length ≤ 1000000000000000000 → Lib.parseUint10 a l = .ok (valF a l) ∧ valF a l < 1000000000000000000
  | [], a, _, h => ⟨rfl, pow_low h⟩
  | b :: l, a, hd, h => by
    rw [List.all_cons, Bool.and_eq_true] at hd
    obtain ⟨h1, h2⟩ := hd
    unfold isDg at h1
    simp only [Bool.and_eq_true, decide_eq_true_eq] at h1
    rw [List.length_cons] at h
    have hp := pow_step (d := b.toNat - 48) (by omega) h
    have hlow := pow_low h
    obtain ⟨e, e2⟩ := parseUint_dg l (a * 10 + (b.toNat - 48)) h2 hp
    have hl2 := pow_low hp
    rw [Lib.parseUint10, if_pos h1, if_neg ?_, if_neg (by omega), e, valF_cons]
    · exact ⟨rfl, e2⟩
    · have : (a + 1) * 10 ≤ (a + 1) * 10 ^ (l.length + 1) := Nat.mul_le_mul_left _ (by rw [Nat.pow_succ]; exact Nat.le_mul_of_pos_left _ (Nat.pow_pos (by decide)))
      omega
theorem atoi_dec (n : Nat) (hn : n ≤ 1000000) : Lib.atoiAll (Lib.decDigits n) = .ok (n : Int) := by
  have hd := decDigits_dg n
  have hL := nDigits_six n hn
  rw [← Lib.decDigits_length] at hL
  have hp : (0 + 1) * 10 ^ (Lib.decDigits n).length ≤ 1000000000000000000 := by
    have : 10 ^ (Lib.decDigits n).length ≤ 10 ^ 7 := Nat.pow_le_pow_right (by decide) hL
    omega
  obtain ⟨e, _⟩ := parseUint_dg _ 0 hd hp
  rw [decDigits_val] at e
  cases hc : Lib.decDigits n with
  | nil => exact absurd hc (decDigits_ne n)
  | cons b l =>
    rw [hc] at hd e
    rw [List.all_cons, Bool.and_eq_true] at hd
    have h1 := hd.1
    unfold isDg at h1
    simp only [Bool.and_eq_true, decide_eq_true_eq] at h1
    unfold Lib.atoiAll
    simp only
    rw [if_neg (by omega : ¬ (b.toNat = 43 ∨ b.toNat = 45)), show Lib.parseMag (b :: l) = .ok n from by unfold Lib.parseMag; rw [if_neg (by simp)]; exact e]
    simp only
    rw [if_neg (by omega), if_neg (by omega), if_neg (by omega)]
theorem l1Int_loop (l : List UInt8) (hl : l.length ≤ 9) (d : Nat) : ∀ (k n a : Nat), n ≤ l.length → l.length - n = d → d < k → (a + 1) * 10 ^ d ≤ 1000000000000000000 →
    spec_l1Int.l0 k (bs l) a n = some (if (l.drop n).all isDg = true then (valF a (l.drop n) : Int) else -1) := by
  induction d with
  | zero =>
    intro k n a hn hd hk hp
    obtain ⟨k, rfl⟩ : ∃ m, k = m + 1 := ⟨k - 1, by omega⟩
    simp only [spec_l1Int.l0]
    rw [if_neg (by rw [bs_size]; omega), List.drop_of_length_le (by omega)]
    rfl
  | succ d ih =>
    intro k n a hn hd hk hp
    obtain ⟨k, rfl⟩ : ∃ m, k = m + 1 := ⟨k - 1, by omega⟩
    obtain ⟨b, h1, _, h3⟩ := bt_bs l n (by omega)
    have hw := wrap_next (j := n) (n := l.length) (by omega) (by omega)
    simp only [spec_l1Int.l0]
    rw [if_pos (by rw [bs_size]; omega), if_pos (by omega), h3, hw, h1, List.all_cons]
    by_cases c1 : b.toNat < 48
    · rw [if_pos (by omega), if_neg]
      unfold isDg; rw [decide_eq_false (by omega : ¬ 48 ≤ b.toNat)]; simp
    · rw [if_neg (by omega)]
      by_cases c2 : b.toNat > 57
      · rw [if_pos (by omega), if_neg]
        unfold isDg; rw [decide_eq_false (by omega : ¬ b.toNat ≤ 57)]; simp
      · rw [if_neg (by omega)]
        have hlow := pow_low hp
        have hp2 := pow_step (d := b.toNat - 48) (by omega) hp
        have hlow2 := pow_low hp2
        rw [step_wrap a b.toNat (by omega) (by omega) hlow2, ih k (n + 1) _ (by omega) (by omega) (by omega) hp2]
        have : isDg b = true := by unfold isDg; rw [decide_eq_true (by omega), decide_eq_true (by omega)]; rfl
        rw [this, Bool.true_and, valF_cons]
theorem l1Int_some (l : List UInt8) (k : Nat) (hk : 12 ≤ k) : ∃ v, spec_l1Int.f k (bs l) = some v ∧ (l.all isDg = true → l.length ≤ 9 → l ≠ [] → (l.length > 1 → l.head? ≠ some 48) → v = valF 0 l) := by
  obtain ⟨k, rfl⟩ : ∃ m, k = m + 1 := ⟨k - 1, by omega⟩
  have e : spec_l1Int.f (k + 1) (bs l) = (if decide ((1 : Int) ≤ l.length ∧ (l.length : Int) ≤ 9) = true then (if 0 < (l.length : Int) then (if (bt (bs l) 0) = 48 then (spec_l1Int.j0 (k + 1) (bs l) (decide ((l.length : Int) > 1))) else (spec_l1Int.j0 (k + 1) (bs l) false)) else none) else (spec_l1Int.j0 (k + 1) (bs l) true)) := by
    unfold spec_l1Int.f
    rw [l1In_eq, bs_size]
    rfl
  rw [e]
  by_cases c : 1 ≤ l.length ∧ l.length ≤ 9
  · rw [if_pos (by rw [decide_eq_true_eq]; omega), if_pos (by omega)]
    have hloop := l1Int_loop l c.2 l.length k 0 0 (by omega) (by omega) (by omega) (by
      have : 10 ^ l.length ≤ 10 ^ 9 := Nat.pow_le_pow_right (by decide) c.2
      omega)
    rw [List.drop_zero] at hloop
    obtain ⟨b, h1, _, h3⟩ := bt_bs l 0 (by omega)
    rw [List.drop_zero] at h1
    have h3' : bt (bs l) 0 = (b.toNat : Int) := h3
    rw [h3']
    by_cases cb : b.toNat = 48
    · rw [if_pos (by omega)]
      simp only [spec_l1Int.j0]
      by_cases cl : l.length > 1
      · rw [decide_eq_true (by omega), if_pos rfl]
        refine ⟨_, rfl, fun _ _ _ h => absurd ?_ (h cl)⟩
        rw [h1]
        simp only [List.head?_cons, Option.some.injEq]
        exact UInt8.toNat_inj.1 cb
      · rw [decide_eq_false (by omega), if_neg (by simp)]
        exact ⟨_, hloop, fun hd _ _ _ => by rw [if_pos hd]⟩
    · rw [if_neg (by omega)]
      simp only [spec_l1Int.j0]
      rw [if_neg (by simp)]
      exact ⟨_, hloop, fun hd _ _ _ => by rw [if_pos hd]⟩
  · rw [if_neg (by rw [decide_eq_true_eq]; omega)]
    simp only [spec_l1Int.j0]
    rw [if_pos trivial]
    refine ⟨_, rfl, fun _ h1 h2 _ => absurd ⟨?_, h1⟩ c⟩
    cases l with
    | nil => exact absurd rfl h2
    | cons => simp
theorem l1Int_dec (n : Nat) (hn : n ≤ 1000000) (k : Nat) (hk : 12 ≤ k) : spec_l1Int.f k (bs (Lib.decDigits n)) = some (n : Int) := by
  obtain ⟨v, hv, h⟩ := l1Int_some (Lib.decDigits n) k hk
  have hL := nDigits_six n hn
  rw [← Lib.decDigits_length] at hL
  rw [hv, h (decDigits_dg n) (by omega) (decDigits_ne n) ?_, decDigits_val]
  intro hl
  by_cases c : n = 0
  · subst c; rw [Lib.decDigits_one (by omega)] at hl; simp at hl
  · obtain ⟨b, r, e, hb⟩ := decDigits_head n (by omega)
    rw [e]
    simp only [List.head?_cons, ne_eq, Option.some.injEq]
    intro e2
    rw [e2] at hb
    exact hb rfl
theorem number_dec (n : Nat) (hn : n ≤ 1000000) : impl_number.f (bs (Lib.decDigits n)) = some ((n : Int), true) := by
  have hL := nDigits_six n hn
  rw [← Lib.decDigits_length] at hL
  unfold impl_number.f numOf
  rw [if_pos (by rw [bs_size]; omega), bs_list, atoi_dec n hn]
  simp only
  rw [if_pos (by omega), Lib.itoa_nonneg, bs_size, decide_eq_true (by omega : (n : Int) ≥ 0), decide_eq_true (by omega : ((Lib.decDigits n).length : Int) ≤ 9)]
  simp [bs]
theorem atoi_bound (l : List UInt8) (n : Int) (h : Lib.atoiAll l = .ok n) : -9223372036854775808 ≤ n ∧ n ≤ 9223372036854775807 := by
  unfold Lib.atoiAll at h
  split at h
  · cases h
  · simp only at h
    split at h
    · cases h
    · cases h
    · split at h
      · cases h
      · split at h
        · cases h
        · injection h with h
          split at h <;> omega
theorem number_some (l : List UInt8) (hl : l.length ≤ 281474976710656) : ∃ v b, impl_number.f (bs l) = some (v, b) ∧ (b = true → ∃ n : Nat, v = n ∧ l = Lib.decDigits n) := by
  unfold impl_number.f
  rw [if_pos (by rw [bs_size]; exact hl), bs_list]
  cases ha : Lib.atoiAll l with
  | range => exact ⟨_, _, rfl, fun h => by simp [numOf, bs_list, ha] at h⟩
  | ok n =>
    simp only
    rw [if_pos (atoi_bound l n ha)]
    refine ⟨_, _, rfl, fun h => ?_⟩
    simp only [numOf, bs_list, ha, Bool.and_eq_true, decide_eq_true_eq, beq_iff_eq] at h ⊢
    obtain ⟨h0, h1, h2⟩ := h
    rw [Lib.toList_data, Lib.toList_data, bs_list] at h2
    refine ⟨n.toNat, by omega, ?_⟩
    rw [← h2, ← Lib.itoa_nonneg, show ((n.toNat : Nat) : Int) = n by omega]
  | _ => exact ⟨_, _, rfl, fun h => by simp [numOf, bs_list, ha] at h⟩

/-- what a failed reading tells -/
abbrev badEv : Int × Int × Int × ByteArray × Bool := (0, 0, 0, ⟨#[]⟩, false)
theorem evText_cut (i v j : Nat) (s : List UInt8) : evText i v j s = Lib.decDigits j ++ 46 :: (Lib.decDigits i ++ 46 :: (Lib.decDigits v ++ 46 :: (s ++ 46 :: []))) := by
  unfold evText; simp
theorem specRead_at (i v j : Nat) (s : List UInt8) (hg : goodEv i v j (bs s) = true) (k : Nat) (hk : 1000000 ≤ k) : spec_ReadEvent.f k (bs (evText i v j s)) = some ((i : Int), (v : Int), (j : Int), bs s, true) := by
  obtain ⟨i', v', j', e1, e2, e3, _, hi, hv, _, hj, hs, ho⟩ := goodEv_facts hg
  obtain rfl : i = i' := by omega
  obtain rfl : v = v' := by omega
  obtain rfl : j = j' := by omega
  rw [bs_size] at hs
  rw [bs_list] at ho
  have hL := evText_length i v j s (by omega) (by omega) (by omega)
  have hd := fun n => dot_notin_dg _ (decDigits_dg n)
  have hlen : ∀ n ≤ 1000000, (Lib.decDigits n).length ≤ 7 := fun n hn => by rw [Lib.decDigits_length]; exact nDigits_six n hn
  have li := hlen i (by omega); have lv := hlen v (by omega); have lj := hlen j (by omega)
  unfold spec_ReadEvent.f
  rw [evText_cut, l1Cut_eq _ (by simp only [List.length_append, List.length_cons, List.length_nil]; omega) k (by simp only [List.length_append, List.length_cons, List.length_nil]; omega), cutL_at _ (hd j), Option.bind_some]
  simp only
  rw [l1Cut_eq _ (by simp only [List.length_append, List.length_cons, List.length_nil]; omega) k (by simp only [List.length_append, List.length_cons, List.length_nil]; omega), cutL_at _ (hd i), Option.bind_some]
  simp only
  rw [l1Cut_eq _ (by simp only [List.length_append, List.length_cons, List.length_nil]; omega) k (by simp only [List.length_append, List.length_cons, List.length_nil]; omega), cutL_at _ (hd v), Option.bind_some]
  simp only
  rw [l1Cut_eq _ (by simp only [List.length_append, List.length_cons, List.length_nil]; omega) k (by simp only [List.length_append, List.length_cons, List.length_nil]; omega), cutL_at _ (dot_notin_ok s ho), Option.bind_some]
  simp only
  rw [l1Int_dec i (by omega) k (by omega), l1Int_dec v (by omega) k (by omega), l1Int_dec j (by omega) k (by omega)]
  simp only [Option.bind_some]
  rw [specGoodEv _ _ _ _ (by rw [bs_size]; omega) k (by rw [bs_size]; omega), hg]
  simp only [Option.bind_some, if_true]
  rw [specBytes i v j (bs s) (by omega) (by omega) (by omega) (by rw [bs_size]; omega) k (by omega), Option.bind_some, bs_list, evText_cut]
  simp
theorem specRead_some (l : List UInt8) (hl : l.length ≤ 1048576) (k : Nat) (hk : 4000000 ≤ k) : ∃ r, spec_ReadEvent.f k (bs l) = some r ∧ (r = badEv ∨ ∃ i v j s, goodEv (i : Nat) (v : Nat) (j : Nat) (bs s) = true ∧ l = evText i v j s) := by
  have z1 := cutL_size l
  have z2 := cutL_size (cutL l).2.1
  have z3 := cutL_size (cutL (cutL l).2.1).2.1
  have z4 := cutL_size (cutL (cutL (cutL l).2.1).2.1).2.1
  unfold spec_ReadEvent.f
  rw [l1Cut_eq _ (by omega) k (by omega), Option.bind_some]
  simp only
  rw [l1Cut_eq _ (by omega) k (by omega), Option.bind_some]
  simp only
  rw [l1Cut_eq _ (by omega) k (by omega), Option.bind_some]
  simp only
  rw [l1Cut_eq _ (by omega) k (by omega), Option.bind_some]
  simp only
  obtain ⟨a, ha, _⟩ := l1Int_some (cutL (cutL l).2.1).1 k (by omega)
  obtain ⟨b, hb, _⟩ := l1Int_some (cutL (cutL (cutL l).2.1).2.1).1 k (by omega)
  obtain ⟨c, hc, _⟩ := l1Int_some (cutL l).1 k (by omega)
  rw [ha, hb, hc]
  simp only [Option.bind_some]
  rw [specGoodEv _ _ _ _ (by rw [bs_size]; omega) k (by rw [bs_size]; omega), Option.bind_some]
  cases hg : goodEv a b c (bs (cutL (cutL (cutL (cutL l).2.1).2.1).2.1).1) with
  | false => exact ⟨badEv, rfl, .inl rfl⟩
  | true =>
    obtain ⟨i, v, j, rfl, rfl, rfl, _, hi, hv, _, hj, hs, ho⟩ := goodEv_facts hg
    rw [if_pos rfl, specBytes i v j _ (by omega) (by omega) (by omega) (by omega) k (by omega), Option.bind_some]
    by_cases e : (bs (evText i v j (bs (cutL (cutL (cutL (cutL l).2.1).2.1).2.1).1).data.toList)).toList = (bs l).toList
    · rw [if_pos e]
      refine ⟨_, rfl, .inr ⟨i, v, j, _, hg, ?_⟩⟩
      rw [Lib.toList_data, Lib.toList_data, bs_list, bs_list, bs_list] at e
      exact e.symm
    · rw [if_neg e]; exact ⟨badEv, rfl, .inl rfl⟩
theorem rdOf_map (l : List (List UInt8)) (n : Nat) (h : n < l.length) : rdOf ByteArray.empty (l.map bs) (n : Int) = bs l[n] := by
  unfold rdOf
  rw [Int.toNat_natCast, List.getD_eq_getElem?_getD, List.getElem?_map, List.getElem?_eq_getElem h]
  rfl
theorem splitN_eq (l : List UInt8) (hl : l.length ≤ 1048576) : strings_SplitN.f (bs l) ⟨#[46]⟩ 6 = some ((splitL (min 6 (l.length + 1) - 1) l).map bs) := by
  unfold strings_SplitN.f
  rw [if_pos ⟨by rw [bs_size]; omega, by decide, by decide, by decide⟩, splitB_eq, bs_size]
  rfl
theorem implRead_five (a b c d e : List UInt8) (ha : a.length ≤ 1048576) (hb : b.length ≤ 1048576) (hc : c.length ≤ 1048576) (hd : d.length ≤ 1048576) (k : Nat) :
    ∃ r, impl_ReadEvent.j0 (k + 1) ([a, b, c, d, e].map bs) ((rdOf ByteArray.empty ([a, b, c, d, e].map bs) 4).toList != ([] : List UInt8)) = some r ∧
      (r = badEv ∨ (e = [] ∧ ∃ i v j : Nat, a = Lib.decDigits j ∧ b = Lib.decDigits i ∧ c = Lib.decDigits v ∧ goodEv i v j (bs d) = true)) := by
  obtain ⟨x, x2, hx, hx2⟩ := number_some a (by omega)
  obtain ⟨y, y2, hy, hy2⟩ := number_some b (by omega)
  obtain ⟨z, z2, hz, hz2⟩ := number_some c (by omega)
  have e4 : rdOf ByteArray.empty ([a, b, c, d, e].map bs) 4 = bs e := rdOf_map [a, b, c, d, e] 4 (by simp)
  have e0 : rdOf ByteArray.empty ([a, b, c, d, e].map bs) 0 = bs a := rdOf_map [a, b, c, d, e] 0 (by simp)
  have e1 : rdOf ByteArray.empty ([a, b, c, d, e].map bs) 1 = bs b := rdOf_map [a, b, c, d, e] 1 (by simp)
  have e2 : rdOf ByteArray.empty ([a, b, c, d, e].map bs) 2 = bs c := rdOf_map [a, b, c, d, e] 2 (by simp)
  have e3 : rdOf ByteArray.empty ([a, b, c, d, e].map bs) 3 = bs d := rdOf_map [a, b, c, d, e] 3 (by simp)
  have el : (([a, b, c, d, e].map bs).length : Int) = 5 := by simp
  simp only [impl_ReadEvent.j0]
  rw [e4, e0, e1, e2, e3, el, Lib.toList_data, bs_list]
  by_cases he : e = []
  · subst he
    rw [if_neg (by simp), if_pos (by decide), hx, Option.bind_some, if_pos (by decide), hy, Option.bind_some, if_pos (by decide), hz, Option.bind_some, if_pos (by decide)]
    simp only
    cases x2 with
    | false => exact ⟨badEv, rfl, .inl rfl⟩
    | true =>
      cases y2 with
      | false => exact ⟨badEv, rfl, .inl rfl⟩
      | true =>
        cases z2 with
        | false => exact ⟨badEv, rfl, .inl rfl⟩
        | true =>
          obtain ⟨j, rfl, rfl⟩ := hx2 rfl
          obtain ⟨i, rfl, rfl⟩ := hy2 rfl
          obtain ⟨v, rfl, rfl⟩ := hz2 rfl
          simp only [if_true]
          rw [implGoodEv _ _ _ _ (by rw [bs_size]; omega), Option.bind_some]
          cases hg : goodEv i v j (bs d) with
          | false => exact ⟨badEv, rfl, .inl rfl⟩
          | true => rw [if_pos rfl]; exact ⟨_, rfl, .inr ⟨by first | rfl | trivial, i, v, j, rfl, rfl, rfl, hg⟩⟩
  · rw [if_pos (by simpa using he)]
    exact ⟨badEv, rfl, .inl rfl⟩
theorem implRead_at (i v j : Nat) (s : List UInt8) (hg : goodEv i v j (bs s) = true) (k : Nat) : impl_ReadEvent.f (k + 1) (bs (evText i v j s)) = some ((i : Int), (v : Int), (j : Int), bs s, true) := by
  obtain ⟨i', v', j', e1, e2, e3, _, hi, hv, _, hj, hs, ho⟩ := goodEv_facts hg
  obtain rfl : i = i' := by omega
  obtain rfl : v = v' := by omega
  obtain rfl : j = j' := by omega
  rw [bs_size] at hs
  rw [bs_list] at ho
  have hL := evText_length i v j s (by omega) (by omega) (by omega)
  have hd := fun n => dot_notin_dg _ (decDigits_dg n)
  have hp : ∀ n, 1 ≤ (Lib.decDigits n).length := fun n => by rw [Lib.decDigits_length]; exact Lib.nDigits_pos n
  have p1 := hp i; have p2 := hp v; have p3 := hp j
  unfold impl_ReadEvent.f
  rw [splitN_eq _ (by omega), Option.bind_some]
  have e : splitL (min 6 ((evText i v j s).length + 1) - 1) (evText i v j s) = [Lib.decDigits j, Lib.decDigits i, Lib.decDigits v, s, []] := by
    have hm : min 6 ((evText i v j s).length + 1) - 1 = 5 := by
      have : 5 ≤ (evText i v j s).length := by rw [evText_cut]; simp only [List.length_append, List.length_cons, List.length_nil]; omega
      omega
    rw [hm, evText_cut]
    simp only [splitL, cutL_at _ (hd j), cutL_at _ (hd i), cutL_at _ (hd v), cutL_at _ (dot_notin_ok s ho), if_true]
    simp [cutL]
  rw [e]
  have e4 : rdOf ByteArray.empty ([Lib.decDigits j, Lib.decDigits i, Lib.decDigits v, s, []].map bs) 4 = bs [] := rdOf_map _ 4 (by simp)
  have e0 : rdOf ByteArray.empty ([Lib.decDigits j, Lib.decDigits i, Lib.decDigits v, s, []].map bs) 0 = bs (Lib.decDigits j) := rdOf_map _ 0 (by simp)
  have e1 : rdOf ByteArray.empty ([Lib.decDigits j, Lib.decDigits i, Lib.decDigits v, s, []].map bs) 1 = bs (Lib.decDigits i) := rdOf_map _ 1 (by simp)
  have e2 : rdOf ByteArray.empty ([Lib.decDigits j, Lib.decDigits i, Lib.decDigits v, s, []].map bs) 2 = bs (Lib.decDigits v) := rdOf_map _ 2 (by simp)
  have e3 : rdOf ByteArray.empty ([Lib.decDigits j, Lib.decDigits i, Lib.decDigits v, s, []].map bs) 3 = bs s := rdOf_map _ 3 (by simp)
  have el : (([Lib.decDigits j, Lib.decDigits i, Lib.decDigits v, s, []].map bs).length : Int) = 5 := by simp
  rw [el, if_pos rfl, if_pos (by decide)]
  simp only [impl_ReadEvent.j0]
  rw [e4, e0, e1, e2, e3, el, Lib.toList_data, bs_list, if_neg (by simp), if_pos (by decide), number_dec j (by omega), Option.bind_some, if_pos (by decide), number_dec i (by omega), Option.bind_some, if_pos (by decide), number_dec v (by omega), Option.bind_some, if_pos (by decide)]
  simp only [if_true]
  rw [implGoodEv _ _ _ _ (by rw [bs_size]; omega), hg, Option.bind_some, if_pos rfl]
theorem splitL_size : ∀ (m : Nat) (l : List UInt8), ∀ x ∈ splitL m l, x.length ≤ l.length
  | 0, l => fun x hx => by rw [List.mem_singleton.1 hx]; exact Nat.le_refl _
  | m + 1, l => fun x hx => by
    have z := cutL_size l
    rw [splitL] at hx
    split at hx
    · rcases List.mem_cons.1 hx with rfl | hx
      · exact z.1
      · exact Nat.le_trans (splitL_size m _ x hx) z.2
    · rw [List.mem_singleton.1 hx]; exact Nat.le_refl _
theorem implRead_some (l : List UInt8) (hl : l.length ≤ 1048576) (k : Nat) : ∃ r, impl_ReadEvent.f (k + 1) (bs l) = some r ∧ (r = badEv ∨ ∃ i v j s, goodEv (i : Nat) (v : Nat) (j : Nat) (bs s) = true ∧ l = evText i v j s) := by
  unfold impl_ReadEvent.f
  rw [splitN_eq _ hl, Option.bind_some]
  have hU := unsplit_splitL (min 6 (l.length + 1) - 1) l
  have hz := splitL_size (min 6 (l.length + 1) - 1) l
  generalize splitL (min 6 (l.length + 1) - 1) l = xs at hU hz
  by_cases c : xs.length = 5
  · match xs, c, hU, hz with
    | [a, b, c, d, e], _, hU, hz =>
      rw [if_pos (by simp), if_pos (by simp)]
      obtain ⟨r, hr, h⟩ := implRead_five a b c d e (Nat.le_trans (hz a (by simp)) hl) (Nat.le_trans (hz b (by simp)) hl) (Nat.le_trans (hz c (by simp)) hl) (Nat.le_trans (hz d (by simp)) hl) k
      refine ⟨r, hr, h.imp_right fun h => ?_⟩
      obtain ⟨rfl, i, v, j, rfl, rfl, rfl, hg⟩ := h
      refine ⟨i, v, j, d, hg, ?_⟩
      rw [← hU, evText_cut]
      rfl
  · rw [if_neg (by rw [List.length_map]; omega)]
    simp only [impl_ReadEvent.j0]
    rw [if_pos trivial]
    exact ⟨badEv, rfl, .inl rfl⟩
theorem read_both (s : ByteArray) (hs : s.size ≤ 1048576) (k : Nat) (hk : 4000000 ≤ k) : ∃ r, spec_ReadEvent.f k s = some r ∧ impl_ReadEvent.f k s = some r := by
  rw [← bs_data s]
  have hl : s.data.toList.length ≤ 1048576 := by rw [Array.length_toList]; exact hs
  generalize s.data.toList = l at hl
  obtain ⟨k, rfl⟩ : ∃ m, k = m + 1 := ⟨k - 1, by omega⟩
  by_cases c : ∃ i v j s, goodEv (i : Nat) (v : Nat) (j : Nat) (bs s) = true ∧ l = evText i v j s
  · obtain ⟨i, v, j, t, hg, rfl⟩ := c
    exact ⟨_, specRead_at i v j t hg (k + 1) (by omega), implRead_at i v j t hg k⟩
  · obtain ⟨r, hr, h⟩ := specRead_some l hl (k + 1) hk
    obtain ⟨q, hq, g⟩ := implRead_some l hl k
    obtain rfl := h.resolve_right c
    obtain rfl := g.resolve_right c
    exact ⟨_, hr, hq⟩

theorem rdX_at (l : List S26) (j : Nat) : rd_T26 l (j : Int) = l.getD j z26 := by unfold rd_T26; rw [Int.toNat_natCast]
theorem eqEventS_loop (a : List S26) (hn : a.length ≤ 140737488351232) (d : Nat) : ∀ (k j : Nat), j ≤ a.length → a.length - j = d → d < k →
    laws_eqEventS.l0 k a a j = some true := by
  induction d with
  | zero =>
    intro k j hj hd hk
    obtain ⟨k, rfl⟩ : ∃ m, k = m + 1 := ⟨k - 1, by omega⟩
    simp only [laws_eqEventS.l0]; rw [if_neg (by omega)]
  | succ d ih =>
    intro k j hj hd hk
    obtain ⟨k, rfl⟩ : ∃ m, k = m + 1 := ⟨k - 1, by omega⟩
    simp only [laws_eqEventS.l0, laws_eqEvent.f]; rw [if_pos (by omega), if_pos (by omega), if_pos (by omega)]
    simp only [if_true, Option.bind_some]; rw [wrap_next (n := a.length) (by omega) hn]
    exact ih k (j + 1) (by omega) (by omega) (by omega)
theorem eqEventS_self (a : List S26) (hn : a.length ≤ 140737488351232) (k : Nat) (hk : a.length < k) : laws_eqEventS.f k a a = some true := by
  unfold laws_eqEventS.f
  rw [if_pos rfl]
  exact eqEventS_loop a hn a.length k 0 (by omega) (by omega) hk

theorem re_loop (s : ByteArray) (hs : s.size ≤ 1048576) (d : Nat) : ∀ (k p : Nat) (l : List S26), l.length ≤ 60 → 60 - l.length = d → d + 5000000 < k → p ≤ s.size →
    ∃ r, spec_ReadEvents.l0 k s l p = some r ∧ impl_ReadEvents.l0 k s l p = some r ∧ r.1.length ≤ 60 := by
  induction d with
  | zero =>
    intro k p l hl hd hk hp
    obtain ⟨k, rfl⟩ : ∃ m, k = m + 1 := ⟨k - 1, by omega⟩
    simp only [spec_ReadEvents.l0, impl_ReadEvents.l0]
    rw [if_neg (by omega), if_neg (by omega)]
    exact ⟨_, rfl, rfl, hl⟩
  | succ d ih =>
    intro k p l hl hd hk hp
    obtain ⟨k, rfl⟩ : ∃ m, k = m + 1 := ⟨k - 1, by omega⟩
    simp only [spec_ReadEvents.l0, impl_ReadEvents.l0]
    rw [if_pos (by omega), if_pos (by omega), if_pos (by omega), if_pos (by omega), if_pos (by omega), if_pos (by omega), Int.toNat_natCast]
    have hz : (s.extract p s.size).size = s.size - p := by rw [ByteArray.size_extract]; omega
    obtain ⟨⟨t, n, ok⟩, h1, h2, h3, h4, h5⟩ := take_both (s.extract p s.size) (by omega) k (by omega)
    simp only at h3 h4 h5
    obtain ⟨⟨e0, e1, e2, e3, is⟩, g1, g2⟩ := read_both t (by omega) k (by omega)
    rw [h1, Option.bind_some, h2, Option.bind_some]
    simp only
    rw [g1, Option.bind_some, g2, Option.bind_some]
    simp only
    cases ok with
    | false => rw [if_neg (by simp), if_neg (by simp)]; exact ⟨_, rfl, rfl, hl⟩
    | true =>
      rw [if_pos rfl, if_pos rfl]
      cases is with
      | false => rw [if_neg (by simp), if_neg (by simp)]; exact ⟨_, rfl, rfl, hl⟩
      | true =>
        rw [if_pos rfl, if_pos rfl, if_pos (by omega), if_pos (by omega)]
        obtain ⟨m, rfl⟩ : ∃ m : Nat, n = m := ⟨n.toNat, by omega⟩
        rw [show wrap64 ((p : Int) + (m : Int)) = ((p + m : Nat) : Int) by unfold wrap64; omega]
        exact ih k (p + m) _ (by rw [List.length_append]; simp; omega) (by rw [List.length_append]; simp; omega) (by omega) (by omega)
theorem markText_loop (d : Nat) : ∀ (n : Nat) (x : ByteArray), n < 10 ^ d → n ≤ 1000000000 → x.size + d ≤ 1000 → ∃ t, laws_markText.l0 (d + 1) n x = some t := by
  induction d with
  | zero =>
    intro n x hn _ hx
    simp only [laws_markText.l0]
    rw [if_neg (by simp at hn; omega), if_pos (by omega)]
    exact ⟨_, rfl⟩
  | succ d ih =>
    intro n x hn hm hx
    rw [laws_markText.l0]
    by_cases c : (n : Int) > 0
    · rw [if_pos c, Option.bind_some, if_pos (by rw [strOfNums_size]; simp; omega)]
      rw [show wrap64 (Int.tdiv (n : Int) 10) = ((n / 10 : Nat) : Int) from by
        rw [show Int.tdiv (n : Int) 10 = ((n / 10 : Nat) : Int) from rfl]
        unfold wrap64; omega]
      exact ih (n / 10) _ (by rw [Nat.pow_succ] at hn; omega) (by omega) (by rw [ByteArray.size_append, strOfNums_size]; simp; omega)
    · rw [if_neg c, if_pos (by omega)]
      exact ⟨_, rfl⟩
/-- the text of a mark -/
def mt (n : Nat) : ByteArray := (laws_markText.f 20 n).getD ⟨#[]⟩
theorem mt_eq (n : Nat) (hn : n ≤ 1000000) (k : Nat) (hk : 20 ≤ k) : laws_markText.f k n = some (mt n) := by
  have h0 : laws_markText.f 20 n = some (mt n) := by
    unfold mt laws_markText.f
    by_cases c : (n : Int) ≤ 0
    · rw [if_pos c]; rfl
    · rw [if_neg c]
      obtain ⟨t, ht⟩ := markText_loop 19 n ⟨#[]⟩ (by have : 10 ^ 7 ≤ 10 ^ 19 := Nat.pow_le_pow_right (by decide) (by decide); omega) (by omega) (by simp [ByteArray.size])
      rw [ht]; rfl
  obtain ⟨d, rfl⟩ : ∃ d, k = 20 + d := ⟨k - 20, by omega⟩
  clear hk
  induction d with
  | zero => exact h0
  | succ d ih => exact laws_markText.mono n (20 + d) _ ih
/-- an event that is marked -/
def mkEv (i : Nat) : S26 := ⟨((1 + 4 * i : Nat) : Int), ((2 + 4 * i : Nat) : Int), ((3 + 4 * i : Nat) : Int), mt (4 + 4 * i)⟩
theorem rdX_set (x : List S26) (j : Nat) (v : S26) (h : j < x.length) : rd_T26 (x.set j v) (j : Int) = v := by
  rw [rdX_at, List.getD_eq_getElem?_getD, List.getElem?_set_self h]; rfl
theorem mark_step (k : Nat) (x : List S26) (x1 : Int) (j : Nat) (hj : j < x.length) : laws_markEventS.l0 (k + 1) x x1 j =
    (laws_markText.f k (wrap64 (wrap64 (wrap64 (x1 + 1) + 1) + 1))).bind fun t => laws_markEventS.l0 k (x.set j ⟨x1, wrap64 (x1 + 1), wrap64 (wrap64 (x1 + 1) + 1), t⟩) (wrap64 (wrap64 (wrap64 (wrap64 (x1 + 1) + 1) + 1) + 1)) (wrap64 ((j : Int) + 1)) := by
  simp only [laws_markEventS.l0]
  rw [if_pos (by omega), if_pos (by omega), Int.toNat_natCast]
  obtain ⟨A, hA⟩ : ∃ A, A = x.set j (⟨x1, (rd_T26 x j).f1, (rd_T26 x j).f2, (rd_T26 x j).f3⟩ : S26) := ⟨_, rfl⟩
  have rA : rd_T26 A j = ⟨x1, (rd_T26 x j).f1, (rd_T26 x j).f2, (rd_T26 x j).f3⟩ := by rw [hA]; exact rdX_set x j _ hj
  rw [← hA, Option.bind_some, rA]
  obtain ⟨B, hB⟩ : ∃ B, B = A.set j (⟨x1, wrap64 (x1 + 1), (rd_T26 x j).f2, (rd_T26 x j).f3⟩ : S26) := ⟨_, rfl⟩
  have rB : rd_T26 B j = ⟨x1, wrap64 (x1 + 1), (rd_T26 x j).f2, (rd_T26 x j).f3⟩ := by rw [hB]; exact rdX_set A j _ (by rw [hA, List.length_set]; exact hj)
  rw [← hB, Option.bind_some, rB]
  obtain ⟨C, hC⟩ : ∃ C, C = B.set j (⟨x1, wrap64 (x1 + 1), wrap64 (wrap64 (x1 + 1) + 1), (rd_T26 x j).f3⟩ : S26) := ⟨_, rfl⟩
  have rC : rd_T26 C j = ⟨x1, wrap64 (x1 + 1), wrap64 (wrap64 (x1 + 1) + 1), (rd_T26 x j).f3⟩ := by rw [hC]; exact rdX_set B j _ (by rw [hB, List.length_set, hA, List.length_set]; exact hj)
  rw [← hC, Option.bind_some, rC]
  have hS : ∀ v : S26, C.set j v = x.set j v := fun v => by rw [hC, hB, hA, List.set_set, List.set_set, List.set_set]
  simp only [hS]
theorem mark_loop (L : Nat) (hL : L ≤ 60) (d : Nat) : ∀ (k j : Nat) (x : List S26), x.length = L → j ≤ L → L - j = d → d + 30 < k → (∀ i < j, x.getD i z26 = mkEv i) →
    ∃ m, laws_markEventS.l0 k x ((1 + 4 * j : Nat) : Int) j = some (((1 + 4 * L : Nat) : Int), m) ∧ m.length = L ∧ ∀ i < L, m.getD i z26 = mkEv i := by
  induction d with
  | zero =>
    intro k j x hx hj hd hk hm
    obtain ⟨k, rfl⟩ : ∃ m, k = m + 1 := ⟨k - 1, by omega⟩
    obtain rfl : j = L := by omega
    simp only [laws_markEventS.l0]
    rw [if_neg (by omega)]
    exact ⟨_, rfl, hx, hm⟩
  | succ d ih =>
    intro k j x hx hj hd hk hm
    obtain ⟨k, rfl⟩ : ∃ m, k = m + 1 := ⟨k - 1, by omega⟩
    have p1 : j < L := by omega
    have p2 : 20 ≤ k := by omega
    have p3 : 4 + 4 * j ≤ 1000000 := by omega
    have p4 : L - (j + 1) = d := by omega
    have p5 : d + 30 < k := by omega
    have p6 : (j : Int) < (L : Int) := by omega
    have p7 : (0 : Int) ≤ (j : Int) := by omega
    have w1 : wrap64 (((1 + 4 * j : Nat) : Int) + 1) = ((2 + 4 * j : Nat) : Int) := by unfold wrap64; omega
    have w2 : wrap64 (((2 + 4 * j : Nat) : Int) + 1) = ((3 + 4 * j : Nat) : Int) := by unfold wrap64; omega
    have w3 : wrap64 (((3 + 4 * j : Nat) : Int) + 1) = ((4 + 4 * j : Nat) : Int) := by unfold wrap64; omega
    have w4 : wrap64 (((4 + 4 * j : Nat) : Int) + 1) = ((1 + 4 * (j + 1) : Nat) : Int) := by unfold wrap64; omega
    have w5 : wrap64 ((j : Int) + 1) = ((j + 1 : Nat) : Int) := by unfold wrap64; omega
    rw [mark_step k x _ j (by rw [hx]; exact p1), w1, w2, w3, w4, w5, mt_eq (4 + 4 * j) p3 k p2, Option.bind_some]
    clear w1 w2 w3 w4 w5
    refine ih k (j + 1) _ (by rw [List.length_set]; exact hx) (by omega) (by omega) (by omega) (fun i hi => ?_)
    by_cases e : i = j
    · subst e
      rw [List.getD_eq_getElem?_getD, List.getElem?_set_self (by omega), Option.getD_some]; unfold mkEv; with_reducible rfl
    · rw [List.getD_eq_getElem?_getD, List.getElem?_set_ne (by omega), ← List.getD_eq_getElem?_getD]
      exact hm i (by omega)
theorem held_loop (m : List S26) (L : Nat) (hL : L ≤ 60) (hml : m.length = L) (hm : ∀ i < L, m.getD i z26 = mkEv i) (d : Nat) : ∀ (k j : Nat), j ≤ L → L - j = d → d + 30 < k →
    laws_heldEventS.l0 k m ((1 + 4 * j : Nat) : Int) j = some (((1 + 4 * L : Nat) : Int)) := by
  induction d with
  | zero =>
    intro k j hj hd hk
    obtain ⟨k, rfl⟩ : ∃ m, k = m + 1 := ⟨k - 1, by omega⟩
    obtain rfl : j = L := by omega
    simp only [laws_heldEventS.l0]
    rw [if_neg (by omega)]
  | succ d ih =>
    intro k j hj hd hk
    obtain ⟨k, rfl⟩ : ∃ m, k = m + 1 := ⟨k - 1, by omega⟩
    have p1 : j < L := by omega
    have p2 : 20 ≤ k := by omega
    have p3 : 4 + 4 * j ≤ 1000000 := by omega
    have p4 : L - (j + 1) = d := by omega
    have p5 : d + 30 < k := by omega
    have p6 : (j : Int) < (L : Int) := by omega
    have p7 : (0 : Int) ≤ (j : Int) := by omega
    have w1 : wrap64 (((1 + 4 * j : Nat) : Int) + 1) = ((2 + 4 * j : Nat) : Int) := by unfold wrap64; omega
    have w2 : wrap64 (((2 + 4 * j : Nat) : Int) + 1) = ((3 + 4 * j : Nat) : Int) := by unfold wrap64; omega
    have w3 : wrap64 (((3 + 4 * j : Nat) : Int) + 1) = ((4 + 4 * j : Nat) : Int) := by unfold wrap64; omega
    have w4 : wrap64 (((4 + 4 * j : Nat) : Int) + 1) = ((1 + 4 * (j + 1) : Nat) : Int) := by unfold wrap64; omega
    have w5 : wrap64 ((j : Int) + 1) = ((j + 1 : Nat) : Int) := by unfold wrap64; omega
    have e := hm j p1
    simp only [laws_heldEventS.l0]
    rw [if_pos (by rw [hml]; exact p6), if_pos p7, rdX_at, e, w1, w2, w3, w4, w5, mt_eq (4 + 4 * j) p3 k p2]
    unfold mkEv
    rw [if_pos rfl, if_pos rfl, if_pos rfl, Option.bind_some, if_pos rfl]
    exact ih k (j + 1) p1 p4 p5
theorem mark_f (x : List S26) (hx : x.length ≤ 60) (k : Nat) (hk : 100 < k) : ∃ m, laws_markEventS.f k x 1 = some (((1 + 4 * x.length : Nat) : Int), m) ∧ m.length = x.length ∧ ∀ i < x.length, m.getD i z26 = mkEv i := by
  obtain ⟨m, h, h2⟩ := mark_loop x.length hx x.length k 0 x rfl (by omega) (by omega) (by omega) (fun i hi => by omega)
  refine ⟨m, ?_, h2⟩
  unfold laws_markEventS.f
  exact h
theorem held_f (m : List S26) (L : Nat) (hL : L ≤ 60) (hml : m.length = L) (hm : ∀ i < L, m.getD i z26 = mkEv i) (k : Nat) (hk : 100 < k) : laws_heldEventS.f k m 1 = some (((1 + 4 * L : Nat) : Int)) := by
  have h := held_loop m L hL hml hm L k 0 (by omega) (by omega) (by omega)
  unfold laws_heldEventS.f
  exact h
theorem re_both (s : ByteArray) (hs : s.size ≤ 1048576) (k : Nat) (hk : 5500000 ≤ k) : ∃ r, spec_ReadEvents.f k s = some r ∧ impl_ReadEvents.f k s = some r ∧ r.1.length ≤ 60 := by
  unfold spec_ReadEvents.f impl_ReadEvents.f
  exact re_loop s hs 60 k 0 [] (by simp) (by simp) (by omega) (by omega)
/-- THE PURE STATEMENT of the law. -/
def FnExactReadEvents_Pure : Prop := ∀ (a0 : ByteArray), a0.size ≤ 140737488351232 → ∃ k, laws_FnExactReadEvents.f k a0 = some true

theorem FnExactReadEvents : FnExactReadEvents_Pure := by
  intro s hs
  obtain ⟨K, hK⟩ : ∃ K : Nat, 5600000 ≤ K := ⟨_, Nat.le_refl _⟩
  refine ⟨K + 2, ?_⟩
  unfold laws_FnExactReadEvents.f
  by_cases c : (s.size : Int) > 1048576
  · rw [if_pos c]
  · rw [if_neg c]
    obtain ⟨r, h1, h2, h3⟩ := re_both s (by omega) (K + 2) (by omega)
    obtain ⟨r', h1', h2', h3'⟩ := re_both s (by omega) (K + 1) (by omega)
    have e : r' = r := by
      have := spec_ReadEvents.mono s (K + 1) _ h1'
      rw [h1] at this
      exact (Option.some.inj this).symm
    subst e
    rw [h1, Option.bind_some, h2, Option.bind_some, eqEventS_self _ (by omega) _ (by omega), Option.bind_some, if_pos rfl]
    simp only [laws_FnExactReadEvents.j0]
    obtain ⟨m, m1, m2, m3⟩ := mark_f r'.1 h3 (K + 1) (by omega)
    have m4 := held_f m r'.1.length h3 m2 m3 (K + 1) (by omega)
    have m5 := held_f m r'.1.length h3 m2 m3 K (by omega)
    rw [if_neg (by simp), m1, Option.bind_some]
    simp only
    rw [m4, Option.bind_some, if_neg (by omega), if_pos rfl, h2', Option.bind_some, eqEventS_self _ (by omega) _ (by omega), Option.bind_some, if_pos rfl]
    simp only [laws_FnExactReadEvents.j1]
    rw [if_neg (by simp), m5, Option.bind_some, if_neg (by omega), if_pos rfl]

end Go.Proofs.YtggolfbojjjafaaDoor.Pure
