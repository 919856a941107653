/- The program's bytes of events are the reference's: the law answers true. No conditions but the reach of a slice. -/
import Derived.Test.YtggolfbojjjafaaDoorPFnExactEventsBytesx4
namespace Go.Proofs.YtggolfbojjjafaaDoor.Pure
open Go.RowKit Go.Proofs.YtggolfbojjjafaaDoor.PFnExactEventsBytes Go.Proofs.YtggolfbojjjafaaDoorW.PrintWords Go.Proofs.YtggolfbojjjafaaDoorW.PrintLast
set_option linter.unusedVariables false
set_option linter.unusedSimpArgs false

theorem wrap_next {j n : Nat} (h : j < n) (hn : n ≤ 140737488351232) : wrap64 ((j : Int) + 1) = ((j + 1 : Nat) : Int) := by
  unfold wrap64
  omega

/-- a byte of a good name -/
def okb (b : UInt8) : Bool := (decide (97 ≤ b.toNat) && decide (b.toNat ≤ 122)) || (decide (48 ≤ b.toNat) && decide (b.toNat ≤ 57))
theorem bt_drop (s : ByteArray) (n : Nat) (h : n < s.size) : ∃ b : UInt8, s.data.toList.drop n = b :: s.data.toList.drop (n + 1) ∧ bt s n = (b.toNat : Int) := by
  have h2 : n < s.data.toList.length := by rw [Array.length_toList]; exact h
  refine ⟨s.data.toList[n], List.drop_eq_getElem_cons h2, ?_⟩
  unfold bt
  rw [dif_pos (by simpa using h)]
  simp [ByteArray.getElem_eq_getElem_data]
theorem specName (s : ByteArray) (hs : s.size ≤ 9223372036854775806) : ∀ (d n : Nat), s.size - n = d → n ≤ s.size → ∀ k, d < k → spec_l1Name.l0 k s n = some ((s.data.toList.drop n).all okb && decide ((s.size : Int) ≤ 12)) := by
  intro d
  induction d with
  | zero =>
    intro n hd hn k hk
    obtain ⟨k, rfl⟩ : ∃ m, k = m + 1 := ⟨k - 1, by omega⟩
    simp only [spec_l1Name.l0]
    rw [if_neg (by omega), List.drop_of_length_le (by rw [Array.length_toList]; show s.size ≤ n; omega)]
    simp
  | succ d ih =>
    intro n hd hn k hk
    obtain ⟨k, rfl⟩ : ∃ m, k = m + 1 := ⟨k - 1, by omega⟩
    obtain ⟨b, hb, hbt⟩ := bt_drop s n (by omega)
    have hw : wrap64 ((n : Int) + 1) = ((n + 1 : Nat) : Int) := by unfold wrap64; omega
    have hi := ih (n + 1) (by omega) (by omega) k (by omega)
    simp only [spec_l1Name.l0]
    rw [if_pos (by omega), if_pos (by omega), hw, hi, hbt, hb, List.all_cons]
    by_cases c1 : (b.toNat : Int) ≥ 97
    · by_cases c2 : (b.toNat : Int) ≤ 122
      · rw [if_pos c1, if_pos c2]
        have : okb b = true := by unfold okb; rw [decide_eq_true (by omega : 97 ≤ b.toNat), decide_eq_true (by omega : b.toNat ≤ 122)]; rfl
        rw [this, Bool.true_and]
      · rw [if_pos c1, if_neg c2]
        have : okb b = false := by unfold okb; rw [decide_eq_false (by omega : ¬ b.toNat ≤ 122), decide_eq_false (by omega : ¬ b.toNat ≤ 57)]; simp
        rw [this, if_pos (by omega), if_neg (by omega)]; simp
    · rw [if_neg c1]
      by_cases c3 : (b.toNat : Int) ≥ 48
      · by_cases c4 : (b.toNat : Int) ≤ 57
        · rw [if_pos c3, if_pos c4]
          have : okb b = true := by unfold okb; rw [decide_eq_true (by omega : 48 ≤ b.toNat), decide_eq_true (by omega : b.toNat ≤ 57)]; simp
          rw [this, Bool.true_and]
        · rw [if_pos c3, if_neg c4]
          have : okb b = false := by unfold okb; rw [decide_eq_false (by omega : ¬ 97 ≤ b.toNat), decide_eq_false (by omega : ¬ b.toNat ≤ 57)]; simp
          rw [this]; simp
      · rw [if_neg c3]
        have : okb b = false := by unfold okb; rw [decide_eq_false (by omega : ¬ 97 ≤ b.toNat), decide_eq_false (by omega : ¬ 48 ≤ b.toNat)]; simp
        rw [this]; simp
theorem dropWhile_nil_iff {α : Type} (p : α → Bool) : ∀ l : List α, l.dropWhile p = [] ↔ l.all p = true
  | [] => by simp
  | x :: l => by
    rw [List.dropWhile_cons, List.all_cons]
    cases h : p x with
    | true => rw [if_pos rfl, Bool.true_and]; exact dropWhile_nil_iff p l
    | false => simp
theorem dropWhile_has {α : Type} (p : α → Bool) : ∀ (l : List α) x, x ∈ l → p x = false → x ∈ l.dropWhile p
  | [], _, h, _ => by cases h
  | y :: l, x, h, hx => by
    rw [List.dropWhile_cons]
    cases hy : p y with
    | true =>
      rw [if_pos rfl]
      rcases List.mem_cons.1 h with rfl | h
      · rw [hx] at hy; cases hy
      · exact dropWhile_has p l x h hx
    | false => rw [if_neg (by simp)]; exact h
theorem trim_nil (l cs : List UInt8) : Lib.trimS l cs = [] ↔ l.all (cs.contains ·) = true := by
  constructor
  · intro h
    rw [List.all_eq_true]
    intro x hx
    cases hc : cs.contains x with
    | true => rfl
    | false =>
      exfalso
      have h1 : x ∈ Lib.trimRightS l cs := by
        unfold Lib.trimRightS
        rw [List.mem_reverse]
        exact dropWhile_has _ _ x (List.mem_reverse.2 hx) hc
      have h2 : x ∈ Lib.trimS l cs := dropWhile_has _ _ x h1 hc
      rw [h] at h2
      cases h2
  · intro h
    have h1 : Lib.trimRightS l cs = [] := by
      unfold Lib.trimRightS
      rw [List.reverse_eq_nil_iff, dropWhile_nil_iff, List.all_reverse]
      exact h
    unfold Lib.trimS
    rw [h1]
    rfl
theorem okb_cut : ∀ b : UInt8, ([97, 98, 99, 100, 101, 102, 103, 104, 105, 106, 107, 108, 109, 110, 111, 112, 113, 114, 115, 116, 117, 118, 119, 120, 121, 122, 48, 49, 50, 51, 52, 53, 54, 55, 56, 57] : List UInt8).contains b = okb b := by
  have h : ∀ n : Fin 256, ([97, 98, 99, 100, 101, 102, 103, 104, 105, 106, 107, 108, 109, 110, 111, 112, 113, 114, 115, 116, 117, 118, 119, 120, 121, 122, 48, 49, 50, 51, 52, 53, 54, 55, 56, 57] : List UInt8).contains (UInt8.ofNat n.val) = okb (UInt8.ofNat n.val) := by decide +kernel
  intro b
  have h2 := h ⟨b.toNat, b.toNat_lt⟩
  rwa [show UInt8.ofNat (⟨b.toNat, b.toNat_lt⟩ : Fin 256).val = b from UInt8.ofNat_toNat] at h2
theorem implName (s : ByteArray) (hs : s.size ≤ 9223372036854775807) : impl_goodName.f s = some (s.data.toList.all okb && decide ((s.size : Int) ≤ 12)) := by
  unfold impl_goodName.f
  by_cases c : (s.size : Int) ≤ 12
  · rw [if_pos c, decide_eq_true c, Bool.and_true]
    unfold strings_Trim.f
    rw [if_pos ⟨hs, by decide, by decide⟩, Option.bind_some]
    congr 1
    rw [Lib.toList_data]
    show (Lib.trimS s.data.toList [97, 98, 99, 100, 101, 102, 103, 104, 105, 106, 107, 108, 109, 110, 111, 112, 113, 114, 115, 116, 117, 118, 119, 120, 121, 122, 48, 49, 50, 51, 52, 53, 54, 55, 56, 57] == []) = _
    have h := trim_nil s.data.toList [97, 98, 99, 100, 101, 102, 103, 104, 105, 106, 107, 108, 109, 110, 111, 112, 113, 114, 115, 116, 117, 118, 119, 120, 121, 122, 48, 49, 50, 51, 52, 53, 54, 55, 56, 57]
    simp only [okb_cut] at h
    rw [show (s.data.toList.all fun x => okb x) = s.data.toList.all okb from rfl] at h
    cases ha : s.data.toList.all okb with
    | true => rw [h.2 ha]; rfl
    | false =>
      rw [beq_eq_false_iff_ne]
      intro e
      rw [h.1 e] at ha
      cases ha
  · rw [if_neg c, decide_eq_false c, Bool.and_false]
/-- a good event -/
def goodEv (i v k : Int) (s : ByteArray) : Bool := decide (1 ≤ i ∧ i ≤ 1000) && decide (0 ≤ v ∧ v ≤ 1000000) && decide (1 ≤ k ∧ k ≤ 6) && (s.data.toList.all okb && decide ((s.size : Int) ≤ 12))
theorem l1In_eq (a b c : Int) : spec_l1In.f a b c = some (decide (b ≤ a ∧ a ≤ c)) := by
  unfold spec_l1In.f
  by_cases h : a ≥ b
  · rw [if_pos h]; congr 1; simp [show b ≤ a from h]
  · rw [if_neg h]; congr 1; simp; omega
theorem in_eq (a b c : Int) : impl_in.f a b c = some (decide (b ≤ a ∧ a ≤ c)) := by
  unfold impl_in.f
  by_cases h : a ≥ b
  · rw [if_pos h]; congr 1; simp [show b ≤ a from h]
  · rw [if_neg h]; congr 1; simp; omega
theorem specGoodEv (i v j : Int) (s : ByteArray) (hs : s.size ≤ 9223372036854775806) (k : Nat) (hk : s.size < k) : spec_GoodEvent.f k i v j s = some (goodEv i v j s) := by
  have h := specName s hs s.size 0 (by omega) (by omega) k hk
  have h2 : spec_l1Name.f k s = some (s.data.toList.all okb && decide ((s.size : Int) ≤ 12)) := h
  unfold spec_GoodEvent.f goodEv
  rw [l1In_eq, l1In_eq, l1In_eq, h2]
  simp only [Option.bind_some]
  cases decide (1 ≤ i ∧ i ≤ 1000) <;> cases decide (0 ≤ v ∧ v ≤ 1000000) <;> cases decide (1 ≤ j ∧ j ≤ 6) <;> simp
theorem implGoodEv (i v j : Int) (s : ByteArray) (hs : s.size ≤ 9223372036854775807) : impl_GoodEvent.f i v j s = some (goodEv i v j s) := by
  unfold impl_GoodEvent.f impl_isVersion.f impl_goodKind.f goodEv
  rw [in_eq, in_eq, in_eq, implName s hs]
  simp only [Option.bind_some]
  cases decide (1 ≤ i ∧ i ≤ 1000) <;> cases decide (0 ≤ v ∧ v ≤ 1000000) <;> cases decide (1 ≤ j ∧ j ≤ 6) <;> simp

/-- bytes as a text -/
def bs (l : List UInt8) : ByteArray := ⟨l.toArray⟩
theorem bs_append (a b : List UInt8) : bs a ++ bs b = bs (a ++ b) := by
  apply ByteArray.ext
  rw [ByteArray.data_append]
  simp [bs]
theorem bs_size (a : List UInt8) : (bs a).size = a.length := by simp [bs, ByteArray.size]
theorem bs_data (s : ByteArray) : bs s.data.toList = s := by
  apply ByteArray.ext
  simp [bs]
theorem bs_list (a : List UInt8) : (bs a).data.toList = a := by simp [bs]
theorem one_num (n : Nat) (h : n < 10) : strOfNums [((48 + (n : Int)) % 256)] = bs [UInt8.ofNat (48 + n)] := by
  rw [show ((48 + (n : Int)) % 256) = ((48 + n : Nat) : Int) by omega]
  rfl
theorem nDigits_le (k u : Nat) (h : u < 10 ^ (k + 1)) : Lib.nDigits u ≤ k + 1 := by
  induction k generalizing u with
  | zero => rw [Lib.nDigits_small (by simpa using h)]; omega
  | succ k ih =>
    by_cases c : u < 10
    · rw [Lib.nDigits_small c]; omega
    · rw [Lib.nDigits_big c]
      have := ih (u / 10) (by rw [Nat.pow_succ] at h; omega)
      omega
theorem l1Num_eq : ∀ (k n : Nat), Lib.nDigits n ≤ k → n ≤ 1000000000 → spec_l1Num.f k n = some (bs (Lib.decDigits n)) := by
  intro k
  induction k with
  | zero => intro n h; have := Lib.nDigits_pos n; omega
  | succ k ih =>
    intro n h hn
    unfold spec_l1Num.f
    by_cases c : n < 10
    · rw [if_pos (by omega), Lib.decDigits, dif_pos c, show wrap64 (48 + (n : Int)) = 48 + (n : Int) by unfold wrap64; omega, one_num n c]
    · rw [if_neg (by omega)]
      have e1 : wrap64 (Int.tdiv (n : Int) 10) = ((n / 10 : Nat) : Int) := by
        rw [show Int.tdiv (n : Int) 10 = ((n / 10 : Nat) : Int) from rfl]
        unfold wrap64; omega
      have e2 : wrap64 (48 + Int.tmod (n : Int) 10) = 48 + ((n % 10 : Nat) : Int) := by
        rw [show Int.tmod (n : Int) 10 = ((n % 10 : Nat) : Int) from rfl]
        unfold wrap64; omega
      rw [Lib.nDigits_big c] at h
      rw [e1, e2, ih (n / 10) (by omega) (by omega)]
      simp only [Option.bind_some]
      rw [one_num (n % 10) (by omega), bs_append, bs_size, bs_size]
      rw [Lib.decDigits_length]
      have hd := nDigits_le 9 (n / 10) (by omega)
      rw [if_pos (by simp; omega)]
      conv => rhs; rw [Lib.decDigits, dif_neg c]
theorem join5 (a b c d : List UInt8) : Lib.join [a, b, c, d, []] [46] = a ++ [46] ++ b ++ [46] ++ c ++ [46] ++ d ++ [46] := by
  simp [Lib.join, List.intercalate, List.intersperse]
/-- the text of an event -/
def evText (i v j : Nat) (s : List UInt8) : List UInt8 := Lib.decDigits j ++ [46] ++ Lib.decDigits i ++ [46] ++ Lib.decDigits v ++ [46] ++ s ++ [46]
theorem implText (i v j : Nat) (s : ByteArray) (hi : i ≤ 1000000) (hv : v ≤ 1000000) (hj : j ≤ 1000000) (hs : s.size ≤ 1000) : impl_eventText.f i v j s = some (bs (evText i v j s.data.toList)) := by
  unfold impl_eventText.f
  rw [if_pos (by omega), join5, Lib.itoa_nonneg, Lib.itoa_nonneg, Lib.itoa_nonneg]
  rfl
theorem specBytes (i v j : Nat) (s : ByteArray) (hi : i ≤ 1000000) (hv : v ≤ 1000000) (hj : j ≤ 1000000) (hs : s.size ≤ 1000) (k : Nat) (hk : 10 ≤ k) : spec_l1Bytes.f k i v j s = some (bs (evText i v j s.data.toList)) := by
  have di := nDigits_le 9 i (by omega)
  have dv := nDigits_le 9 v (by omega)
  have dj := nDigits_le 9 j (by omega)
  unfold spec_l1Bytes.f
  rw [l1Num_eq k j (by omega) (by omega), l1Num_eq k i (by omega) (by omega), l1Num_eq k v (by omega) (by omega)]
  simp only [Option.bind_some]
  rw [show (⟨#[46]⟩ : ByteArray) = bs [46] from rfl]
  have hs' : (bs s.data.toList).size ≤ 1000 := by rw [bs_data]; exact hs
  rw [bs_size] at hs'
  rw [← bs_data s]
  simp only [bs_append, bs_size, List.length_append, Lib.decDigits_length, List.length_cons, List.length_nil]
  rw [bs_list]
  rw [if_pos (by omega), if_pos (by omega), if_pos (by omega), if_pos (by omega), if_pos (by omega), if_pos (by omega), if_pos (by omega)]
  rfl
theorem goodEv_facts {i v j : Int} {s : ByteArray} (h : goodEv i v j s = true) : ∃ a b c : Nat, i = a ∧ v = b ∧ j = c ∧ 1 ≤ a ∧ a ≤ 1000 ∧ b ≤ 1000000 ∧ 1 ≤ c ∧ c ≤ 6 ∧ s.size ≤ 12 ∧ s.data.toList.all okb = true := by
  unfold goodEv at h
  simp only [Bool.and_eq_true, decide_eq_true_eq] at h
  obtain ⟨⟨⟨⟨h1, h2⟩, h3, h4⟩, h5, h6⟩, h7, h8⟩ := h
  exact ⟨i.toNat, v.toNat, j.toNat, by omega, by omega, by omega, by omega, by omega, by omega, by omega, by omega, by omega, h7⟩

theorem wrap_small {x : Int} (h0 : -9223372036854775808 ≤ x) (h1 : x ≤ 9223372036854775807) : wrap64 x = x := by
  unfold wrap64
  omega

theorem tmod_pos {x m : Int} (h : 0 ≤ x) : Int.tmod x m = x % m := Int.tmod_eq_emod_of_nonneg h

theorem sum_both (s : ByteArray) (hn : s.size ≤ 140737488351232) (d : Nat) : ∀ (k : Nat) (a b i : Int), 0 ≤ i → i ≤ s.size → (s.size : Int) - i = d → 0 ≤ a → a ≤ 254 → 0 ≤ b → b ≤ 254 → d < k →
    ∃ r, spec_SumOf.l0 k s a b i = some r ∧ impl_SumOf.l0 k s a b s.size i = some r ∧ 0 ≤ r ∧ r ≤ 65278 := by
  induction d with
  | zero =>
    intro k a b i h0 h1 hd ha0 ha1 hb0 hb1 hk
    obtain ⟨k, rfl⟩ : ∃ m, k = m + 1 := ⟨k - 1, by omega⟩
    refine ⟨256 * b + a, ?_, ?_, by omega, by omega⟩
    · simp only [spec_SumOf.l0]; rw [if_neg (by omega), wrap_small (x := 256 * b) (by omega) (by omega), wrap_small (by omega) (by omega)]
    · simp only [impl_SumOf.l0]; rw [if_neg (by omega), wrap_small (x := 256 * b) (by omega) (by omega), wrap_small (by omega) (by omega)]
  | succ d ih =>
    intro k a b i h0 h1 hd ha0 ha1 hb0 hb1 hk
    obtain ⟨k, rfl⟩ : ∃ m, k = m + 1 := ⟨k - 1, by omega⟩
    have hlt : i < (s.size : Int) := by omega
    have hr := bt_range s i
    have e1 : wrap64 (bt s i) = bt s i := wrap_small (by omega) (by omega)
    have e2 : wrap64 (a + bt s i) = a + bt s i := wrap_small (by omega) (by omega)
    have e3 : Int.tmod (a + bt s i) 255 = (a + bt s i) % 255 := tmod_pos (by omega)
    have e4 : wrap64 (b + (a + bt s i) % 255) = b + (a + bt s i) % 255 := wrap_small (by omega) (by omega)
    have e5 : Int.tmod (b + (a + bt s i) % 255) 255 = (b + (a + bt s i) % 255) % 255 := tmod_pos (by omega)
    have e6 : wrap64 (i + 1) = i + 1 := wrap_small (by omega) (by omega)
    obtain ⟨r, hs, hi, hr0, hr1⟩ := ih k ((a + bt s i) % 255) ((b + (a + bt s i) % 255) % 255) (i + 1) (by omega) (by omega) (by omega) (by omega) (by omega) (by omega) (by omega) (by omega)
    refine ⟨r, ?_, ?_, hr0, hr1⟩
    · simp only [spec_SumOf.l0]; rw [if_pos hlt, if_pos h0, e1, e2, e3, e4, e5, e6]; exact hs
    · simp only [impl_SumOf.l0]; rw [if_pos hlt, if_pos h0, if_pos hlt, e1, e2, e3, e4, e5, e6]; exact hi

theorem sum_some (s : ByteArray) (hn : s.size ≤ 140737488351232) (k : Nat) (hk : s.size < k) :
    ∃ r, spec_SumOf.f k s = some r ∧ impl_SumOf.f k s = some r ∧ 0 ≤ r ∧ r ≤ 65278 :=
  sum_both s hn s.size k 0 0 0 (by omega) (by omega) (by omega) (by omega) (by omega) (by omega) (by omega) hk

theorem strOfNums_size (l : List Int) : (strOfNums l).size = l.length := by
  simp [strOfNums, ByteArray.size]

theorem frame_some (s : ByteArray) (hn : s.size ≤ 140737488351232) (k : Nat) (hk : s.size < k) :
    ∃ r, spec_l1Frame.f k s = some r ∧ impl_frame.f k s = some r := by
  obtain ⟨r, hs, hi, hr0, hr1⟩ := sum_some s hn k hk
  have e1 : Int.tdiv r 256 = r / 256 := Int.tdiv_eq_ediv_of_nonneg hr0
  have e2 : Int.tmod r 256 = r % 256 := tmod_pos hr0
  have e3 : wrap64 (r / 256) = r / 256 := wrap_small (by omega) (by omega)
  have e4 : r % 256 % 256 = r % 256 := by omega
  refine ⟨(strOfNums [(s.size : Int) % 256] ++ s) ++ strOfNums [r / 256 % 256, r % 256], ?_, ?_⟩
  · unfold spec_l1Frame.f
    rw [hs]; simp only [Option.bind_some]
    rw [if_pos (by rw [strOfNums_size]; simp; omega), if_pos (by rw [strOfNums_size]; simp [ByteArray.size_append, strOfNums_size]; omega)]
  · unfold impl_frame.f
    rw [hi]; simp only [Option.bind_some]
    rw [e1, e2, e3, e4, if_pos (by rw [strOfNums_size]; simp; omega), if_pos (by rw [strOfNums_size]; simp [ByteArray.size_append, strOfNums_size]; omega)]

theorem frame_both (s : ByteArray) (hn : s.size ≤ 140737488351232) (k : Nat) (hk : s.size < k) :
    ∃ r, spec_l1Frame.f k s = some r ∧ impl_frame.f k s = some r ∧ r.size = s.size + 3 := by
  obtain ⟨r, hs, hi, hr0, hr1⟩ := sum_some s hn k hk
  have e1 : Int.tdiv r 256 = r / 256 := Int.tdiv_eq_ediv_of_nonneg hr0
  have e2 : Int.tmod r 256 = r % 256 := tmod_pos hr0
  have e3 : wrap64 (r / 256) = r / 256 := wrap_small (by omega) (by omega)
  have e4 : r % 256 % 256 = r % 256 := by omega
  refine ⟨(strOfNums [(s.size : Int) % 256] ++ s) ++ strOfNums [r / 256 % 256, r % 256], ?_, ?_, ?_⟩
  · unfold spec_l1Frame.f
    rw [hs]; simp only [Option.bind_some]
    rw [if_pos (by rw [strOfNums_size]; simp; omega), if_pos (by rw [strOfNums_size]; simp [ByteArray.size_append, strOfNums_size]; omega)]
  · unfold impl_frame.f
    rw [hi]; simp only [Option.bind_some]
    rw [e1, e2, e3, e4, if_pos (by rw [strOfNums_size]; simp; omega), if_pos (by rw [strOfNums_size]; simp [ByteArray.size_append, strOfNums_size]; omega)]
  · simp [ByteArray.size_append, strOfNums_size]; omega
theorem nDigits_six (n : Nat) (h : n ≤ 1000000) : Lib.nDigits n ≤ 7 := nDigits_le 6 n (by omega)
theorem evText_length (i v j : Nat) (s : List UInt8) (hi : i ≤ 1000000) (hv : v ≤ 1000000) (hj : j ≤ 1000000) : (evText i v j s).length ≤ 25 + s.length := by
  have h1 := nDigits_six i hi
  have h2 := nDigits_six v hv
  have h3 := nDigits_six j hj
  unfold evText
  simp only [List.length_append, Lib.decDigits_length, List.length_cons, List.length_nil]
  omega

theorem rdX_at (l : List S26) (j : Nat) : rd_T26 l (j : Int) = l.getD j z26 := by unfold rd_T26; rw [Int.toNat_natCast]
theorem rdY_at (l : List S23) (j : Nat) : rd_T23 l (j : Int) = l.getD j z23 := by unfold rd_T23; rw [Int.toNat_natCast]
/-- an event as the program has it -/
def evOf (x : S23) : S26 := ⟨x.f0, x.f1, x.f2, x.f3⟩
/-- the events as the program has them -/
def evs (l : List S23) : List S26 := l.map evOf
theorem evs_length (l : List S23) : (evs l).length = l.length := by unfold evs; rw [List.length_map]
theorem getD_evs (l : List S23) (j : Nat) (h : j < l.length) : (evs l).getD j z26 = evOf (l.getD j z23) := by
  unfold evs; rw [List.getD_eq_getElem?_getD, List.getElem?_map, List.getElem?_eq_getElem h, List.getD_eq_getElem?_getD, List.getElem?_eq_getElem h]; rfl
theorem takeS_at {α : Type} (z : α) (l : List α) (j : Nat) (h : j < l.length) : l.take (j + 1) = l.take j ++ [l.getD j z] := by
  rw [List.take_succ_eq_append_getElem h, List.getD_eq_getElem?_getD, List.getElem?_eq_getElem h]; rfl
theorem dropS_at {α : Type} (z : α) (l : List α) (j : Nat) (h : j < l.length) : l.drop j = l.getD j z :: l.drop (j + 1) := by
  rw [List.drop_eq_getElem_cons h, List.getD_eq_getElem?_getD, List.getElem?_eq_getElem h]; rfl
theorem memS_at {α : Type} (z : α) (l : List α) (j : Nat) (h : j < l.length) : l.getD j z ∈ l := by
  rw [List.getD_eq_getElem?_getD, List.getElem?_eq_getElem h]; exact List.getElem_mem h
theorem toEventS_loop (l : List S23) (hn : l.length ≤ 140737488351232) (d : Nat) : ∀ (k j : Nat) (x : List S26), x.length = l.length → x.take j = (evs l).take j → j ≤ l.length → l.length - j = d → d < k →
    laws_toEventS.l0 k l x j = some (evs l) := by
  induction d with
  | zero =>
    intro k j x hx ht hj hd hk
    obtain ⟨k, rfl⟩ : ∃ m, k = m + 1 := ⟨k - 1, by omega⟩
    simp only [laws_toEventS.l0]; rw [if_neg (by omega)]
    rw [List.take_of_length_le (by omega), List.take_of_length_le (by rw [evs_length]; omega)] at ht; rw [ht]
  | succ d ih =>
    intro k j x hx ht hj hd hk
    obtain ⟨k, rfl⟩ : ∃ m, k = m + 1 := ⟨k - 1, by omega⟩
    simp only [laws_toEventS.l0, laws_toEvent.f, Option.bind_some]; rw [if_pos (by omega), if_pos (by omega), if_pos (by omega), wrap_next (n := l.length) (by omega) hn, rdY_at, Int.toNat_natCast]
    refine ih k (j + 1) _ (by rw [List.length_set]; exact hx) ?_ (by omega) (by omega) (by omega)
    rw [takeS_at z26 (evs l) j (by rw [evs_length]; omega), List.take_succ_eq_append_getElem (by rw [List.length_set]; omega), List.getElem_set_self, List.take_set_of_le (by omega), ht, getD_evs l j (by omega)]; rfl
theorem toEventS_eq (l : List S23) (hn : l.length ≤ 1048576) (k : Nat) (hk : l.length < k) : laws_toEventS.f k l = some (evs l) := by
  unfold laws_toEventS.f
  rw [if_pos (by omega), Int.toNat_natCast, if_pos (by omega)]
  exact toEventS_loop l (by omega) l.length k 0 _ (by simp) (by simp) (by omega) (by omega) hk
theorem eqEventS_loop (a : List S26) (hn : a.length ≤ 140737488351232) (d : Nat) : ∀ (k j : Nat), j ≤ a.length → a.length - j = d → d < k →
    laws_eqEventS.l0 k a a j = some true := by
  induction d with
  | zero =>
    intro k j hj hd hk
    obtain ⟨k, rfl⟩ : ∃ m, k = m + 1 := ⟨k - 1, by omega⟩
    simp only [laws_eqEventS.l0]; rw [if_neg (by omega)]
  | succ d ih =>
    intro k j hj hd hk
    obtain ⟨k, rfl⟩ : ∃ m, k = m + 1 := ⟨k - 1, by omega⟩
    simp only [laws_eqEventS.l0, laws_eqEvent.f]; rw [if_pos (by omega), if_pos (by omega), if_pos (by omega)]
    simp only [if_true, Option.bind_some]; rw [wrap_next (n := a.length) (by omega) hn]
    exact ih k (j + 1) (by omega) (by omega) (by omega)
theorem eqEventS_self (a : List S26) (hn : a.length ≤ 140737488351232) (k : Nat) (hk : a.length < k) : laws_eqEventS.f k a a = some true := by
  unfold laws_eqEventS.f
  rw [if_pos rfl]
  exact eqEventS_loop a hn a.length k 0 (by omega) (by omega) hk
theorem szEventS_loop (l : List S23) (hn : l.length ≤ 140737488351232) (hl : ∀ x ∈ l, x.f3.size ≤ 9223372036854775807) (d : Nat) : ∀ (k j : Nat) (left : Int), j ≤ l.length → l.length - j = d → d < k → 0 ≤ left → left ≤ 1048576 →
    ∃ r, laws_szEventS.l0 k l left j = some r ∧ (r < 0 ∨ ∀ x ∈ l.drop j, x.f3.size ≤ 1048576) := by
  induction d with
  | zero =>
    intro k j left hj hd hk h0 h1
    obtain ⟨k, rfl⟩ : ∃ m, k = m + 1 := ⟨k - 1, by omega⟩
    refine ⟨left, ?_, .inr ?_⟩
    · simp only [laws_szEventS.l0]; rw [if_neg (by omega)]
    · rw [List.drop_of_length_le (by omega)]; intro x hx; cases hx
  | succ d ih =>
    intro k j left hj hd hk h0 h1
    obtain ⟨k, rfl⟩ : ∃ m, k = m + 1 := ⟨k - 1, by omega⟩
    have hm := hl _ (memS_at z23 l j (by omega))
    have hw : wrap64 (left - ((l.getD j z23).f3.size : Int)) = left - ((l.getD j z23).f3.size : Int) := wrap_small (by omega) (by omega)
    simp only [laws_szEventS.l0, laws_szEvent.f]; rw [if_pos (by omega), if_pos (by omega), rdY_at, hw]
    by_cases c : left - ((l.getD j z23).f3.size : Int) < 0
    · rw [if_pos c]; exact ⟨-1, rfl, .inl (by omega)⟩
    · rw [if_neg c, Option.bind_some, if_neg c, wrap_next (n := l.length) (by omega) hn]
      obtain ⟨r, hr, h⟩ := ih k (j + 1) (left - ((l.getD j z23).f3.size : Int)) (by omega) (by omega) (by omega) (by omega) (by omega)
      refine ⟨r, hr, h.imp_right fun h => ?_⟩
      rw [dropS_at z23 l j (by omega)]
      intro x hx
      rcases List.mem_cons.1 hx with rfl | hx
      · omega
      · exact h x hx
theorem szEventS_eq (l : List S23) (hn : l.length ≤ 9223372036854775807) (hl : ∀ x ∈ l, x.f3.size ≤ 9223372036854775807) (k : Nat) (hk : 1048576 < k) :
    ∃ r, laws_szEventS.f k l 1048576 = some r ∧ (r < 0 ∨ (l.length ≤ 1048576 ∧ ∀ x ∈ l, x.f3.size ≤ 1048576)) := by
  unfold laws_szEventS.f
  rw [wrap_small (by omega) (by omega)]
  by_cases c : (1048576 : Int) - (l.length : Int) < 0
  · rw [if_pos c]; exact ⟨-1, rfl, .inl (by omega)⟩
  · rw [if_neg c]
    obtain ⟨r, hr, h⟩ := szEventS_loop l (by omega) hl l.length k 0 (1048576 - (l.length : Int)) (by omega) (by omega) (by omega) (by omega) (by omega)
    exact ⟨r, hr, h.imp_right fun h => ⟨by omega, by simpa using h⟩⟩

theorem ebOne (x : S26) (hx : x.f3.size ≤ 1048576) (k : Nat) (hk : 1048700 ≤ k) : (spec_GoodEvent.f k x.f0 x.f1 x.f2 x.f3 = some false ∧ impl_GoodEvent.f x.f0 x.f1 x.f2 x.f3 = some false) ∨
    ∃ t q, spec_GoodEvent.f k x.f0 x.f1 x.f2 x.f3 = some true ∧ impl_GoodEvent.f x.f0 x.f1 x.f2 x.f3 = some true ∧ spec_l1Bytes.f k x.f0 x.f1 x.f2 x.f3 = some t ∧ impl_eventText.f x.f0 x.f1 x.f2 x.f3 = some t ∧ spec_l1Frame.f k t = some q ∧ impl_frame.f k t = some q ∧ impl_frame.f (k - 1) t = some q ∧ q.size ≤ 40 := by
  have h1 := specGoodEv x.f0 x.f1 x.f2 x.f3 (by omega) k (by omega)
  have h2 := implGoodEv x.f0 x.f1 x.f2 x.f3 (by omega)
  cases hg : goodEv x.f0 x.f1 x.f2 x.f3 with
  | false => rw [hg] at h1 h2; exact .inl ⟨h1, h2⟩
  | true =>
    rw [hg] at h1 h2
    refine .inr ?_
    obtain ⟨i, v, j, e1, e2, e3, _, hi, hv, _, hj, hs, _⟩ := goodEv_facts hg
    have hL := evText_length i v j x.f3.data.toList (by omega) (by omega) (by omega)
    have hL1 : x.f3.data.toList.length ≤ 12 := by rw [Array.length_toList]; exact hs
    have hL2 : (bs (evText i v j x.f3.data.toList)).size ≤ 37 := by rw [bs_size]; omega
    obtain ⟨q, hq1, hq2, hq3⟩ := frame_both (bs (evText i v j x.f3.data.toList)) (by omega) k (by omega)
    obtain ⟨q', _, hq4, _⟩ := frame_both (bs (evText i v j x.f3.data.toList)) (by omega) (k - 1) (by omega)
    have hq5 := impl_frame.mono (bs (evText i v j x.f3.data.toList)) (k - 1) _ hq4
    rw [show k - 1 + 1 = k by omega, hq2] at hq5
    obtain rfl := Option.some.inj hq5
    refine ⟨bs (evText i v j x.f3.data.toList), q, h1, h2, ?_, ?_, hq1, hq2, hq4, by omega⟩
    · rw [e1, e2, e3]; exact specBytes i v j x.f3 (by omega) (by omega) (by omega) (by omega) k (by omega)
    · rw [e1, e2, e3]; exact implText i v j x.f3 (by omega) (by omega) (by omega) (by omega)
theorem eb_loop (l : List S26) (hn : l.length ≤ 1048576) (hl : ∀ x ∈ l, x.f3.size ≤ 1048576) (d : Nat) : ∀ (k j : Nat) (out : ByteArray), j ≤ l.length → l.length - j = d → 2 * d + 1048710 ≤ k → out.size ≤ 40 * j →
    ∃ r, spec_EventsBytes.l0 k l out l l.length j = some r ∧ (l.length ≤ 60 → impl_EventsBytes.l0 k l out l l.length j = some r) ∧ (60 < l.length → r = (⟨#[]⟩, false)) := by
  induction d with
  | zero =>
    intro k j out hj hd hk ho
    obtain ⟨k, rfl⟩ : ∃ m, k = m + 1 := ⟨k - 1, by omega⟩
    simp only [spec_EventsBytes.l0, impl_EventsBytes.l0]
    rw [if_neg (by omega)]
    by_cases c : (l.length : Int) > 60
    · rw [if_pos c]; exact ⟨_, rfl, fun h => by omega, fun _ => rfl⟩
    · rw [if_neg c]; exact ⟨_, rfl, fun _ => by rw [if_neg (by omega)], fun h => by omega⟩
  | succ d ih =>
    intro k j out hj hd hk ho
    obtain ⟨k, rfl⟩ : ∃ m, k = m + 2 := ⟨k - 2, by omega⟩
    have hx := hl _ (memS_at z26 l j (by omega))
    have hw := wrap_next (j := j) (n := l.length) (by omega) (by omega)
    simp only [spec_EventsBytes.l0, impl_EventsBytes.l0]
    rw [if_pos (by omega), if_pos (by omega), if_pos (by omega), if_pos (by omega), if_pos (by omega), if_pos (by omega), rdX_at, hw]
    rcases ebOne (l.getD j z26) hx (k + 1) (by omega) with ⟨h1, h2⟩ | ⟨t, q, h1, h2, h3, h4, h5, h6, h7, h8⟩
    · rw [h1, h2]
      refine ⟨(⟨#[]⟩, false), by simp, fun _ => ?_, fun _ => rfl⟩
      simp [impl_EventsBytes.j1]
    · rw [h1, h2, h3]
      simp only [Option.bind_some, if_true]
      rw [h5]
      simp only [Option.bind_some]
      rw [if_pos (by omega)]
      obtain ⟨r, hr1, hr2, hr3⟩ := ih (k + 1) (j + 1) (out ++ q) (by omega) (by omega) (by omega) (by rw [ByteArray.size_append]; omega)
      obtain ⟨r', hr1', hr2', hr3'⟩ := ih k (j + 1) (out ++ q) (by omega) (by omega) (by omega) (by rw [ByteArray.size_append]; omega)
      have e : r' = r := by
        have := (spec_EventsBytes.mono_l k) _ _ _ _ _ _ hr1'
        rw [hr1] at this
        exact (Option.some.inj this).symm
      subst e
      refine ⟨r', hr1, fun h => ?_, hr3⟩
      rw [decide_eq_false (by omega)]
      simp only [impl_EventsBytes.j1]
      rw [if_neg (by simp), h4]
      simp only [Option.bind_some]
      rw [show k + 1 - 1 = k by omega] at h7
      rw [h7]
      simp only [Option.bind_some]
      rw [if_pos (by omega), hw]
      exact hr2' h
theorem eb_long (l : List S26) (hn : l.length ≤ 1048576) (hl : ∀ x ∈ l, x.f3.size ≤ 1048576) (h : 60 < l.length) (k : Nat) (hk : 1048800 ≤ k) : impl_EventsBytes.f k l = some (⟨#[]⟩, false) := by
  unfold impl_EventsBytes.f
  obtain ⟨k, rfl⟩ : ∃ m, k = m + 2 := ⟨k - 2, by omega⟩
  have hx := hl _ (memS_at z26 l 0 (by omega))
  simp only [impl_EventsBytes.l0]
  rw [if_pos (by omega), if_pos (by omega), if_pos (by omega), show (0 : Int) = ((0 : Nat) : Int) from rfl, rdX_at]
  rw [implGoodEv _ _ _ _ (by omega), Option.bind_some]
  cases goodEv (l.getD 0 z26).f0 (l.getD 0 z26).f1 (l.getD 0 z26).f2 (l.getD 0 z26).f3 with
  | true => rw [if_pos rfl, decide_eq_true (by omega)]; simp [impl_EventsBytes.j1]
  | false => rw [if_neg (by simp)]; simp [impl_EventsBytes.j1]
theorem eb_both (l : List S26) (hn : l.length ≤ 1048576) (hl : ∀ x ∈ l, x.f3.size ≤ 1048576) (k : Nat) (hk : 4000000 ≤ k) : ∃ r, spec_EventsBytes.f k l = some r ∧ impl_EventsBytes.f k l = some r := by
  obtain ⟨r, h1, h2, h3⟩ := eb_loop l hn hl l.length k 0 ⟨#[]⟩ (by omega) (by omega) (by omega) (by simp [ByteArray.size])
  refine ⟨r, h1, ?_⟩
  by_cases c : l.length ≤ 60
  · exact h2 c
  · rw [h3 (by omega)]; exact eb_long l hn hl (by omega) k (by omega)
/-- THE PURE STATEMENT of the law. -/
def FnExactEventsBytes_Pure : Prop := ∀ (l0 : (List S23)), (l0.length ≤ 9223372036854775807 ∧ ∀ y ∈ l0, ((Lit.int .i64 y.f0).wf = true ∧ (Lit.int .i64 y.f1).wf = true ∧ (Lit.int .i64 y.f2).wf = true ∧ y.f3.size ≤ 9223372036854775807)) → ∃ k, laws_FnExactEventsBytes.f k l0 = some true

theorem FnExactEventsBytes : FnExactEventsBytes_Pure := by
  intro l h
  obtain ⟨hn, hl⟩ := h
  refine ⟨5000000, ?_⟩
  unfold laws_FnExactEventsBytes.f
  obtain ⟨r, hr, hz⟩ := szEventS_eq l hn (fun x hx => (hl x hx).2.2.2) 5000000 (by omega)
  rw [hr, Option.bind_some]
  by_cases c : r < 0
  · rw [if_pos c]
  · rw [if_neg c]
    obtain ⟨hz1, hz2⟩ := hz.resolve_left c
    have hE : ∀ x ∈ evs l, x.f3.size ≤ 1048576 := by
      intro x hx
      obtain ⟨y, hy, rfl⟩ := List.mem_map.1 hx
      exact hz2 y hy
    rw [toEventS_eq l hz1 _ (by omega), Option.bind_some]
    obtain ⟨q, hq1, hq2⟩ := eb_both (evs l) (by rw [evs_length]; exact hz1) hE 5000000 (by omega)
    rw [hq1, Option.bind_some, Option.bind_some, hq2, Option.bind_some, if_pos rfl, show (5000000 : Nat) = 4999999 + 1 from rfl]
    simp only [laws_FnExactEventsBytes.j0]
    rw [if_neg (by simp), toEventS_eq l hz1 _ (by omega), Option.bind_some, eqEventS_self _ (by rw [evs_length]; omega) _ (by rw [evs_length]; omega)]
    simp

end Go.Proofs.YtggolfbojjjafaaDoor.Pure
