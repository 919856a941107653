/- The program's text of an event is the reference's: the law answers true. No conditions but the reach of a text. -/
import Derived.Test.YtggolfbojjjafaaDoorPFnExactEventBytesx3
namespace Go.Proofs.YtggolfbojjjafaaDoor.Pure
open Go.RowKit Go.Proofs.YtggolfbojjjafaaDoor.PFnExactEventBytes Go.Proofs.YtggolfbojjjafaaDoorW.PrintWords Go.Proofs.YtggolfbojjjafaaDoorW.PrintLast
set_option linter.unusedVariables false
set_option linter.unusedSimpArgs false

/-- a byte of a good name -/
def okb (b : UInt8) : Bool := (decide (97 ≤ b.toNat) && decide (b.toNat ≤ 122)) || (decide (48 ≤ b.toNat) && decide (b.toNat ≤ 57))
theorem bt_drop (s : ByteArray) (n : Nat) (h : n < s.size) : ∃ b : UInt8, s.data.toList.drop n = b :: s.data.toList.drop (n + 1) ∧ bt s n = (b.toNat : Int) := by
  have h2 : n < s.data.toList.length := by rw [Array.length_toList]; exact h
  refine ⟨s.data.toList[n], List.drop_eq_getElem_cons h2, ?_⟩
  unfold bt
  rw [dif_pos (by simpa using h)]
  simp [ByteArray.getElem_eq_getElem_data]
theorem specName (s : ByteArray) (hs : s.size ≤ 9223372036854775806) : ∀ (d n : Nat), s.size - n = d → n ≤ s.size → ∀ k, d < k → spec_l1Name.l0 k s n = some ((s.data.toList.drop n).all okb && decide ((s.size : Int) ≤ 12)) := by
  intro d
  induction d with
  | zero =>
    intro n hd hn k hk
    obtain ⟨k, rfl⟩ : ∃ m, k = m + 1 := ⟨k - 1, by omega⟩
    simp only [spec_l1Name.l0]
    rw [if_neg (by omega), List.drop_of_length_le (by rw [Array.length_toList]; show s.size ≤ n; omega)]
    simp
  | succ d ih =>
    intro n hd hn k hk
    obtain ⟨k, rfl⟩ : ∃ m, k = m + 1 := ⟨k - 1, by omega⟩
    obtain ⟨b, hb, hbt⟩ := bt_drop s n (by omega)
    have hw : wrap64 ((n : Int) + 1) = ((n + 1 : Nat) : Int) := by unfold wrap64; omega
    have hi := ih (n + 1) (by omega) (by omega) k (by omega)
    simp only [spec_l1Name.l0]
    rw [if_pos (by omega), if_pos (by omega), hw, hi, hbt, hb, List.all_cons]
    by_cases c1 : (b.toNat : Int) ≥ 97
    · by_cases c2 : (b.toNat : Int) ≤ 122
      · rw [if_pos c1, if_pos c2]
        have : okb b = true := by unfold okb; rw [decide_eq_true (by omega : 97 ≤ b.toNat), decide_eq_true (by omega : b.toNat ≤ 122)]; rfl
        rw [this, Bool.true_and]
      · rw [if_pos c1, if_neg c2]
        have : okb b = false := by unfold okb; rw [decide_eq_false (by omega : ¬ b.toNat ≤ 122), decide_eq_false (by omega : ¬ b.toNat ≤ 57)]; simp
        rw [this, if_pos (by omega), if_neg (by omega)]; simp
    · rw [if_neg c1]
      by_cases c3 : (b.toNat : Int) ≥ 48
      · by_cases c4 : (b.toNat : Int) ≤ 57
        · rw [if_pos c3, if_pos c4]
          have : okb b = true := by unfold okb; rw [decide_eq_true (by omega : 48 ≤ b.toNat), decide_eq_true (by omega : b.toNat ≤ 57)]; simp
          rw [this, Bool.true_and]
        · rw [if_pos c3, if_neg c4]
          have : okb b = false := by unfold okb; rw [decide_eq_false (by omega : ¬ 97 ≤ b.toNat), decide_eq_false (by omega : ¬ b.toNat ≤ 57)]; simp
          rw [this]; simp
      · rw [if_neg c3]
        have : okb b = false := by unfold okb; rw [decide_eq_false (by omega : ¬ 97 ≤ b.toNat), decide_eq_false (by omega : ¬ 48 ≤ b.toNat)]; simp
        rw [this]; simp
theorem dropWhile_nil_iff {α : Type} (p : α → Bool) : ∀ l : List α, l.dropWhile p = [] ↔ l.all p = true
  | [] => by simp
  | x :: l => by
    rw [List.dropWhile_cons, List.all_cons]
    cases h : p x with
    | true => rw [if_pos rfl, Bool.true_and]; exact dropWhile_nil_iff p l
    | false => simp
theorem dropWhile_has {α : Type} (p : α → Bool) : ∀ (l : List α) x, x ∈ l → p x = false → x ∈ l.dropWhile p
  | [], _, h, _ => by cases h
  | y :: l, x, h, hx => by
    rw [List.dropWhile_cons]
    cases hy : p y with
    | true =>
      rw [if_pos rfl]
      rcases List.mem_cons.1 h with rfl | h
      · rw [hx] at hy; cases hy
      · exact dropWhile_has p l x h hx
    | false => rw [if_neg (by simp)]; exact h
theorem trim_nil (l cs : List UInt8) : Lib.trimS l cs = [] ↔ l.all (cs.contains ·) = true := by
  constructor
  · intro h
    rw [List.all_eq_true]
    intro x hx
    cases hc : cs.contains x with
    | true => rfl
    | false =>
      exfalso
      have h1 : x ∈ Lib.trimRightS l cs := by
        unfold Lib.trimRightS
        rw [List.mem_reverse]
        exact dropWhile_has _ _ x (List.mem_reverse.2 hx) hc
      have h2 : x ∈ Lib.trimS l cs := dropWhile_has _ _ x h1 hc
      rw [h] at h2
      cases h2
  · intro h
    have h1 : Lib.trimRightS l cs = [] := by
      unfold Lib.trimRightS
      rw [List.reverse_eq_nil_iff, dropWhile_nil_iff, List.all_reverse]
      exact h
    unfold Lib.trimS
    rw [h1]
    rfl
theorem okb_cut : ∀ b : UInt8, ([97, 98, 99, 100, 101, 102, 103, 104, 105, 106, 107, 108, 109, 110, 111, 112, 113, 114, 115, 116, 117, 118, 119, 120, 121, 122, 48, 49, 50, 51, 52, 53, 54, 55, 56, 57] : List UInt8).contains b = okb b := by
  have h : ∀ n : Fin 256, ([97, 98, 99, 100, 101, 102, 103, 104, 105, 106, 107, 108, 109, 110, 111, 112, 113, 114, 115, 116, 117, 118, 119, 120, 121, 122, 48, 49, 50, 51, 52, 53, 54, 55, 56, 57] : List UInt8).contains (UInt8.ofNat n.val) = okb (UInt8.ofNat n.val) := by decide +kernel
  intro b
  have h2 := h ⟨b.toNat, b.toNat_lt⟩
  rwa [show UInt8.ofNat (⟨b.toNat, b.toNat_lt⟩ : Fin 256).val = b from UInt8.ofNat_toNat] at h2
theorem implName (s : ByteArray) (hs : s.size ≤ 9223372036854775807) : impl_goodName.f s = some (s.data.toList.all okb && decide ((s.size : Int) ≤ 12)) := by
  unfold impl_goodName.f
  by_cases c : (s.size : Int) ≤ 12
  · rw [if_pos c, decide_eq_true c, Bool.and_true]
    unfold strings_Trim.f
    rw [if_pos ⟨hs, by decide, by decide⟩, Option.bind_some]
    congr 1
    rw [Lib.toList_data]
    show (Lib.trimS s.data.toList [97, 98, 99, 100, 101, 102, 103, 104, 105, 106, 107, 108, 109, 110, 111, 112, 113, 114, 115, 116, 117, 118, 119, 120, 121, 122, 48, 49, 50, 51, 52, 53, 54, 55, 56, 57] == []) = _
    have h := trim_nil s.data.toList [97, 98, 99, 100, 101, 102, 103, 104, 105, 106, 107, 108, 109, 110, 111, 112, 113, 114, 115, 116, 117, 118, 119, 120, 121, 122, 48, 49, 50, 51, 52, 53, 54, 55, 56, 57]
    simp only [okb_cut] at h
    rw [show (s.data.toList.all fun x => okb x) = s.data.toList.all okb from rfl] at h
    cases ha : s.data.toList.all okb with
    | true => rw [h.2 ha]; rfl
    | false =>
      rw [beq_eq_false_iff_ne]
      intro e
      rw [h.1 e] at ha
      cases ha
  · rw [if_neg c, decide_eq_false c, Bool.and_false]
/-- a good event -/
def goodEv (i v k : Int) (s : ByteArray) : Bool := decide (1 ≤ i ∧ i ≤ 1000) && decide (0 ≤ v ∧ v ≤ 1000000) && decide (1 ≤ k ∧ k ≤ 6) && (s.data.toList.all okb && decide ((s.size : Int) ≤ 12))
theorem l1In_eq (a b c : Int) : spec_l1In.f a b c = some (decide (b ≤ a ∧ a ≤ c)) := by
  unfold spec_l1In.f
  by_cases h : a ≥ b
  · rw [if_pos h]; congr 1; simp [show b ≤ a from h]
  · rw [if_neg h]; congr 1; simp; omega
theorem in_eq (a b c : Int) : impl_in.f a b c = some (decide (b ≤ a ∧ a ≤ c)) := by
  unfold impl_in.f
  by_cases h : a ≥ b
  · rw [if_pos h]; congr 1; simp [show b ≤ a from h]
  · rw [if_neg h]; congr 1; simp; omega
theorem specGoodEv (i v j : Int) (s : ByteArray) (hs : s.size ≤ 9223372036854775806) (k : Nat) (hk : s.size < k) : spec_GoodEvent.f k i v j s = some (goodEv i v j s) := by
  have h := specName s hs s.size 0 (by omega) (by omega) k hk
  have h2 : spec_l1Name.f k s = some (s.data.toList.all okb && decide ((s.size : Int) ≤ 12)) := h
  unfold spec_GoodEvent.f goodEv
  rw [l1In_eq, l1In_eq, l1In_eq, h2]
  simp only [Option.bind_some]
  cases decide (1 ≤ i ∧ i ≤ 1000) <;> cases decide (0 ≤ v ∧ v ≤ 1000000) <;> cases decide (1 ≤ j ∧ j ≤ 6) <;> simp
theorem implGoodEv (i v j : Int) (s : ByteArray) (hs : s.size ≤ 9223372036854775807) : impl_GoodEvent.f i v j s = some (goodEv i v j s) := by
  unfold impl_GoodEvent.f impl_isVersion.f impl_goodKind.f goodEv
  rw [in_eq, in_eq, in_eq, implName s hs]
  simp only [Option.bind_some]
  cases decide (1 ≤ i ∧ i ≤ 1000) <;> cases decide (0 ≤ v ∧ v ≤ 1000000) <;> cases decide (1 ≤ j ∧ j ≤ 6) <;> simp

/-- bytes as a text -/
def bs (l : List UInt8) : ByteArray := ⟨l.toArray⟩
theorem bs_append (a b : List UInt8) : bs a ++ bs b = bs (a ++ b) := by
  apply ByteArray.ext
  rw [ByteArray.data_append]
  simp [bs]
theorem bs_size (a : List UInt8) : (bs a).size = a.length := by simp [bs, ByteArray.size]
theorem bs_data (s : ByteArray) : bs s.data.toList = s := by
  apply ByteArray.ext
  simp [bs]
theorem bs_list (a : List UInt8) : (bs a).data.toList = a := by simp [bs]
theorem one_num (n : Nat) (h : n < 10) : strOfNums [((48 + (n : Int)) % 256)] = bs [UInt8.ofNat (48 + n)] := by
  rw [show ((48 + (n : Int)) % 256) = ((48 + n : Nat) : Int) by omega]
  rfl
theorem nDigits_le (k u : Nat) (h : u < 10 ^ (k + 1)) : Lib.nDigits u ≤ k + 1 := by
  induction k generalizing u with
  | zero => rw [Lib.nDigits_small (by simpa using h)]; omega
  | succ k ih =>
    by_cases c : u < 10
    · rw [Lib.nDigits_small c]; omega
    · rw [Lib.nDigits_big c]
      have := ih (u / 10) (by rw [Nat.pow_succ] at h; omega)
      omega
theorem l1Num_eq : ∀ (k n : Nat), Lib.nDigits n ≤ k → n ≤ 1000000000 → spec_l1Num.f k n = some (bs (Lib.decDigits n)) := by
  intro k
  induction k with
  | zero => intro n h; have := Lib.nDigits_pos n; omega
  | succ k ih =>
    intro n h hn
    unfold spec_l1Num.f
    by_cases c : n < 10
    · rw [if_pos (by omega), Lib.decDigits, dif_pos c, show wrap64 (48 + (n : Int)) = 48 + (n : Int) by unfold wrap64; omega, one_num n c]
    · rw [if_neg (by omega)]
      have e1 : wrap64 (Int.tdiv (n : Int) 10) = ((n / 10 : Nat) : Int) := by
        rw [show Int.tdiv (n : Int) 10 = ((n / 10 : Nat) : Int) from rfl]
        unfold wrap64; omega
      have e2 : wrap64 (48 + Int.tmod (n : Int) 10) = 48 + ((n % 10 : Nat) : Int) := by
        rw [show Int.tmod (n : Int) 10 = ((n % 10 : Nat) : Int) from rfl]
        unfold wrap64; omega
      rw [Lib.nDigits_big c] at h
      rw [e1, e2, ih (n / 10) (by omega) (by omega)]
      simp only [Option.bind_some]
      rw [one_num (n % 10) (by omega), bs_append, bs_size, bs_size]
      rw [Lib.decDigits_length]
      have hd := nDigits_le 9 (n / 10) (by omega)
      rw [if_pos (by simp; omega)]
      conv => rhs; rw [Lib.decDigits, dif_neg c]
theorem join5 (a b c d : List UInt8) : Lib.join [a, b, c, d, []] [46] = a ++ [46] ++ b ++ [46] ++ c ++ [46] ++ d ++ [46] := by
  simp [Lib.join, List.intercalate, List.intersperse]
/-- the text of an event -/
def evText (i v j : Nat) (s : List UInt8) : List UInt8 := Lib.decDigits j ++ [46] ++ Lib.decDigits i ++ [46] ++ Lib.decDigits v ++ [46] ++ s ++ [46]
theorem implText (i v j : Nat) (s : ByteArray) (hi : i ≤ 1000000) (hv : v ≤ 1000000) (hj : j ≤ 1000000) (hs : s.size ≤ 1000) : impl_eventText.f i v j s = some (bs (evText i v j s.data.toList)) := by
  unfold impl_eventText.f
  rw [if_pos (by omega), join5, Lib.itoa_nonneg, Lib.itoa_nonneg, Lib.itoa_nonneg]
  rfl
theorem specBytes (i v j : Nat) (s : ByteArray) (hi : i ≤ 1000000) (hv : v ≤ 1000000) (hj : j ≤ 1000000) (hs : s.size ≤ 1000) (k : Nat) (hk : 10 ≤ k) : spec_l1Bytes.f k i v j s = some (bs (evText i v j s.data.toList)) := by
  have di := nDigits_le 9 i (by omega)
  have dv := nDigits_le 9 v (by omega)
  have dj := nDigits_le 9 j (by omega)
  unfold spec_l1Bytes.f
  rw [l1Num_eq k j (by omega) (by omega), l1Num_eq k i (by omega) (by omega), l1Num_eq k v (by omega) (by omega)]
  simp only [Option.bind_some]
  rw [show (⟨#[46]⟩ : ByteArray) = bs [46] from rfl]
  have hs' : (bs s.data.toList).size ≤ 1000 := by rw [bs_data]; exact hs
  rw [bs_size] at hs'
  rw [← bs_data s]
  simp only [bs_append, bs_size, List.length_append, Lib.decDigits_length, List.length_cons, List.length_nil]
  rw [bs_list]
  rw [if_pos (by omega), if_pos (by omega), if_pos (by omega), if_pos (by omega), if_pos (by omega), if_pos (by omega), if_pos (by omega)]
  rfl
theorem goodEv_facts {i v j : Int} {s : ByteArray} (h : goodEv i v j s = true) : ∃ a b c : Nat, i = a ∧ v = b ∧ j = c ∧ 1 ≤ a ∧ a ≤ 1000 ∧ b ≤ 1000000 ∧ 1 ≤ c ∧ c ≤ 6 ∧ s.size ≤ 12 ∧ s.data.toList.all okb = true := by
  unfold goodEv at h
  simp only [Bool.and_eq_true, decide_eq_true_eq] at h
  obtain ⟨⟨⟨⟨h1, h2⟩, h3, h4⟩, h5, h6⟩, h7, h8⟩ := h
  exact ⟨i.toNat, v.toNat, j.toNat, by omega, by omega, by omega, by omega, by omega, by omega, by omega, by omega, by omega, h7⟩

/-- THE PURE STATEMENT of the law. -/
def FnExactEventBytes_Pure : Prop := ∀ (a0_0 : Int) (a0_1 : Int) (a0_2 : Int) (a0_3 : ByteArray), (Lit.int .i64 a0_0).wf = true → (Lit.int .i64 a0_1).wf = true → (Lit.int .i64 a0_2).wf = true → a0_3.size ≤ 9223372036854775807 → ∃ k, laws_FnExactEventBytes.f k a0_0 a0_1 a0_2 a0_3 = some true

theorem FnExactEventBytes : FnExactEventBytes_Pure := by
  intro a0 a1 a2 a3 h0 h1 h2 h3
  refine ⟨a3.size + 10, ?_⟩
  unfold laws_FnExactEventBytes.f laws_szEvent.f laws_toEvent.f
  have hw : wrap64 (1048576 - (a3.size : Int)) = 1048576 - (a3.size : Int) := by unfold wrap64; omega
  rw [hw]
  by_cases c : 1048576 - (a3.size : Int) < 0
  · rw [if_pos c]; rfl
  · rw [if_neg c]
    simp only [Option.bind_some]
    rw [if_neg c]
    unfold spec_EventBytes.f impl_EventBytes.f
    rw [specGoodEv a0 a1 a2 a3 (by omega) _ (by omega), implGoodEv a0 a1 a2 a3 (by omega)]
    simp only [Option.bind_some]
    cases hg : goodEv a0 a1 a2 a3 with
    | false => simp
    | true =>
      obtain ⟨i, v, j, rfl, rfl, rfl, _, hi, hv, _, hj, hs, _⟩ := goodEv_facts hg
      simp only [if_true]
      rw [specBytes i v j a3 (by omega) (by omega) (by omega) (by omega) _ (by omega), implText i v j a3 (by omega) (by omega) (by omega) (by omega)]
      simp

end Go.Proofs.YtggolfbojjjafaaDoor.Pure
