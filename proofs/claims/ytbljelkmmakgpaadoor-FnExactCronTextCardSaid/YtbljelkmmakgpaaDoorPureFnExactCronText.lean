/- The program's text of a cron is the reference's: the law answers true. No conditions but the reach of a slice. -/
import Derived.Test.YtbljelkmmakgpaaDoorPFnExactCronTextx4
namespace Go.Proofs.YtbljelkmmakgpaaDoor.Pure
open Go.RowKit Go.Proofs.YtbljelkmmakgpaaDoor.PFnExactCronText Go.Proofs.YtbljelkmmakgpaaDoorW.PrintWords Go.Proofs.YtbljelkmmakgpaaDoorW.PrintLast
set_option linter.unusedVariables false
set_option linter.unusedSimpArgs false

theorem wrap_small {x : Int} (h0 : -9223372036854775808 ≤ x) (h1 : x ≤ 9223372036854775807) : wrap64 x = x := by
  unfold wrap64
  omega

theorem wrap_next {j n : Nat} (h : j < n) (hn : n ≤ 140737488351232) : wrap64 ((j : Int) + 1) = ((j + 1 : Nat) : Int) := by
  rw [wrap_small (by omega) (by omega)]; rfl

theorem rd_at (l : List Int) (j : Nat) : rd l (j : Int) = l.getD j 0 := by
  unfold rd; rw [Int.toNat_natCast]

theorem drop_at (l : List Int) (j : Nat) (h : j < l.length) : l.drop j = l.getD j 0 :: l.drop (j + 1) := by
  rw [List.drop_eq_getElem_cons h, List.getD_eq_getElem?_getD, List.getElem?_eq_getElem h]; rfl

theorem take_at (l : List Int) (j : Nat) (h : j < l.length) : l.take (j + 1) = l.take j ++ [l.getD j 0] := by
  rw [List.take_succ_eq_append_getElem h, List.getD_eq_getElem?_getD, List.getElem?_eq_getElem h]; rfl

theorem toIntS_loop (l : List Int) (hn : l.length ≤ 140737488351232) (d : Nat) : ∀ (k j : Nat) (x : List Int), x.length = l.length → x.take j = l.take j → j ≤ l.length → l.length - j = d → d < k →
    laws_toIntS.l0 k l x j = some l := by
  induction d with
  | zero =>
    intro k j x hx ht hj hd hk
    obtain ⟨k, rfl⟩ : ∃ m, k = m + 1 := ⟨k - 1, by omega⟩
    simp only [laws_toIntS.l0]; rw [if_neg (by omega)]
    rw [List.take_of_length_le (by omega), List.take_of_length_le (by omega)] at ht; rw [ht]
  | succ d ih =>
    intro k j x hx ht hj hd hk
    obtain ⟨k, rfl⟩ : ∃ m, k = m + 1 := ⟨k - 1, by omega⟩
    simp only [laws_toIntS.l0]; rw [if_pos (by omega), if_pos (by omega), if_pos (by omega), wrap_next (n := l.length) (by omega) hn, rd_at, Int.toNat_natCast]
    refine ih k (j + 1) _ (by rw [List.length_set]; exact hx) ?_ (by omega) (by omega) (by omega)
    rw [take_at l j (by omega), List.take_succ_eq_append_getElem (by rw [List.length_set]; omega), List.getElem_set_self, List.take_set_of_le (by omega), ht]

theorem toIntS_eq (l : List Int) (hn : l.length ≤ 17592186044416) (k : Nat) (hk : l.length < k) : laws_toIntS.f k l = some l := by
  unfold laws_toIntS.f
  rw [if_pos (by omega), Int.toNat_natCast, if_pos (by omega)]
  exact toIntS_loop l (by omega) l.length k 0 _ (by simp) (by simp) (by omega) (by omega) hk

theorem eqIntS_loop (a b : List Int) (hn : a.length ≤ 140737488351232) (hab : a.length = b.length) (d : Nat) : ∀ (k j : Nat), j ≤ a.length → a.length - j = d → d < k →
    laws_eqIntS.l0 k a b j = some (decide (a.drop j = b.drop j)) := by
  induction d with
  | zero =>
    intro k j hj hd hk
    obtain ⟨k, rfl⟩ : ∃ m, k = m + 1 := ⟨k - 1, by omega⟩
    simp only [laws_eqIntS.l0]; rw [if_neg (by omega), List.drop_of_length_le (by omega), List.drop_of_length_le (by omega)]; simp
  | succ d ih =>
    intro k j hj hd hk
    obtain ⟨k, rfl⟩ : ∃ m, k = m + 1 := ⟨k - 1, by omega⟩
    simp only [laws_eqIntS.l0]; rw [if_pos (by omega), if_pos (by omega), if_pos (by omega), wrap_next (n := a.length) (by omega) hn, rd_at, rd_at, drop_at a j (by omega), drop_at b j (by omega)]
    by_cases h : a.getD j 0 = b.getD j 0
    · rw [if_pos h, ih k (j + 1) (by omega) (by omega) (by omega)]; simp only [List.cons.injEq, h, true_and]
    · rw [if_neg h]; simp only [List.cons.injEq, h, false_and, decide_false]

theorem eqIntS_eq (a b : List Int) (hn : a.length ≤ 140737488351232) (k : Nat) (hk : a.length < k) : laws_eqIntS.f k a b = some (decide (a = b)) := by
  unfold laws_eqIntS.f
  by_cases h : a.length = b.length
  · rw [if_pos (by omega)]
    have := eqIntS_loop a b hn h a.length k 0 (by omega) (by omega) hk
    simpa using this
  · rw [if_neg (by omega), decide_eq_false (fun e => h (by rw [e]))]

theorem eqIntS_self (a : List Int) (hn : a.length ≤ 140737488351232) (k : Nat) (hk : a.length < k) : laws_eqIntS.f k a a = some true := by
  rw [eqIntS_eq a a hn k hk]; simp

theorem in_eq (a b c : Int) : impl_in.f a b c = some (decide (b ≤ a ∧ a ≤ c)) := by
  unfold impl_in.f
  by_cases h : a ≥ b
  · rw [if_pos h]; congr 1; simp only [decide_eq_decide]; omega
  · rw [if_neg h, decide_eq_false (by omega)]
theorem l1In_eq (a b c : Int) : spec_l1In.f a b c = some (decide (b ≤ a ∧ a ≤ c)) := by
  unfold spec_l1In.f
  by_cases h : a ≥ b
  · rw [if_pos h]; congr 1; simp only [decide_eq_decide]; omega
  · rw [if_neg h, decide_eq_false (by omega)]

/-- element j lies in 0..q and is above the one ahead of it -/
def riseOk (l : List Int) (q : Int) (j : Nat) : Bool := decide (0 ≤ l.getD j 0 ∧ l.getD j 0 ≤ q ∧ (0 < j → l.getD (j - 1) 0 < l.getD j 0))
def riseFrom (l : List Int) (q : Int) (j : Nat) : Nat → Bool
  | 0 => true
  | d + 1 => riseOk l q j && riseFrom l q (j + 1) d

theorem rise_round (l : List Int) (q : Int) (j : Nat) (x : Option Bool) (hn : l.length ≤ 1048576) (hj : j < l.length) :
    ((some (decide (0 ≤ l.getD j 0 ∧ l.getD j 0 ≤ q)) : Option Bool).bind fun t => (if t = true then (if (j : Int) > 0 then (if 0 ≤ (wrap64 ((j : Int) - 1)) then (if (wrap64 ((j : Int) - 1)) < (l.length : Int) then (if (rd l (wrap64 ((j : Int) - 1))) ≥ l.getD j 0 then (some false) else x) else (none)) else (none)) else x) else (some false)))
      = if riseOk l q j = true then x else some false := by
  simp only [Option.bind_some]
  by_cases h1 : 0 ≤ l.getD j 0 ∧ l.getD j 0 ≤ q
  · rw [decide_eq_true h1, if_pos rfl]
    by_cases h2 : (j : Int) > 0
    · have e : wrap64 ((j : Int) - 1) = ((j - 1 : Nat) : Int) := by rw [wrap_small (by omega) (by omega)]; omega
      rw [if_pos h2, e, if_pos (by omega), if_pos (by omega), rd_at]
      by_cases h3 : l.getD (j - 1) 0 ≥ l.getD j 0
      · rw [if_pos h3, if_neg (by unfold riseOk; simp only [decide_eq_true_eq]; intro h; have := h.2.2 (by omega); omega)]
      · rw [if_neg h3, if_pos (by unfold riseOk; simp only [decide_eq_true_eq]; exact ⟨h1.1, h1.2, fun _ => by omega⟩)]
    · rw [if_neg h2, if_pos (by unfold riseOk; simp only [decide_eq_true_eq]; exact ⟨h1.1, h1.2, fun h => by omega⟩)]
  · rw [decide_eq_false h1, if_neg (by simp), if_neg (by unfold riseOk; simp only [decide_eq_true_eq]; exact fun h => h1 ⟨h.1, h.2.1⟩)]

theorem rising_loop (l : List Int) (b : Int) (hn : l.length ≤ 1048576) (d : Nat) : ∀ (k j : Nat), j ≤ l.length → l.length - j = d → d < k →
    impl_rising.l0 k l b l l.length j = some (riseFrom l (wrap64 (b - 1)) j d) := by
  induction d with
  | zero =>
    intro k j hj hd hk
    obtain ⟨k, rfl⟩ : ∃ m, k = m + 1 := ⟨k - 1, by omega⟩
    simp only [impl_rising.l0]; rw [if_neg (by omega)]; rfl
  | succ d ih =>
    intro k j hj hd hk
    obtain ⟨k, rfl⟩ : ∃ m, k = m + 1 := ⟨k - 1, by omega⟩
    simp only [impl_rising.l0]; rw [if_pos (by omega), if_pos (by omega), if_pos (by omega), in_eq, wrap_next (n := l.length) (by omega) (by omega), rd_at, rise_round l _ j _ hn (by omega), ih k (j + 1) (by omega) (by omega) (by omega)]
    simp only [riseFrom]
    cases riseOk l (wrap64 (b - 1)) j <;> simp

theorem rising_eq (l : List Int) (b : Int) (hn : l.length ≤ 1048576) (k : Nat) (hk : l.length < k) : impl_rising.f k l b = some (riseFrom l (wrap64 (b - 1)) 0 l.length) := by
  unfold impl_rising.f
  exact rising_loop l b hn l.length k 0 (by omega) (by omega) hk

theorem szInt_eq (l : List Int) (a : Int) (h : l.length ≤ 9223372036854775807) (h0 : 0 ≤ a) (h1 : a ≤ 1048576) : laws_szIntS.f l a = some (if (l.length : Int) ≤ a then a - (l.length : Int) else -1) := by
  unfold laws_szIntS.f
  rw [wrap_small (by omega) (by omega)]
  by_cases h1 : (l.length : Int) ≤ a
  · rw [if_neg (by omega), if_pos h1]
  · rw [if_pos (by omega), if_neg h1]

theorem szCron_eq (a b c : List Int) (ha : a.length ≤ 9223372036854775807) (hb : b.length ≤ 9223372036854775807) (hc : c.length ≤ 9223372036854775807) :
    ∃ r, laws_szCron.f a b c 1048576 = some r ∧ (r < 0 ∨ (¬ r < 0 ∧ a.length ≤ 1048576 ∧ b.length ≤ 1048576 ∧ c.length ≤ 1048576)) := by
  unfold laws_szCron.f
  rw [szInt_eq a _ ha (by omega) (by omega)]; simp only [Option.bind_some]
  by_cases h1 : (a.length : Int) ≤ 1048576
  · rw [if_pos h1, if_neg (by omega), szInt_eq b _ hb (by omega) (by omega)]; simp only [Option.bind_some]
    by_cases h2 : (b.length : Int) ≤ 1048576 - (a.length : Int)
    · rw [if_pos h2, if_neg (by omega), szInt_eq c _ hc (by omega) (by omega)]; simp only [Option.bind_some]
      by_cases h3 : (c.length : Int) ≤ 1048576 - (a.length : Int) - (b.length : Int)
      · rw [if_pos h3, if_neg (by omega)]; exact ⟨_, rfl, .inr ⟨by omega, by omega, by omega, by omega⟩⟩
      · rw [if_neg h3, if_pos (by omega)]; exact ⟨_, rfl, .inl (by omega)⟩
    · rw [if_neg h2, if_pos (by omega)]; exact ⟨_, rfl, .inl (by omega)⟩
  · rw [if_neg h1, if_pos (by omega)]; exact ⟨_, rfl, .inl (by omega)⟩

theorem toCron_eq (a b c : List Int) (ha : a.length ≤ 1048576) (hb : b.length ≤ 1048576) (hc : c.length ≤ 1048576) (k : Nat) (hk : 1048576 < k) : laws_toCron.f k a b c = some (a, b, c) := by
  unfold laws_toCron.f
  rw [toIntS_eq a (by omega) k (by omega)]; simp only [Option.bind_some]
  rw [toIntS_eq b (by omega) k (by omega)]; simp only [Option.bind_some]
  rw [toIntS_eq c (by omega) k (by omega)]; simp only [Option.bind_some]

theorem eqCron_self (a b c : List Int) (ha : a.length ≤ 1048576) (hb : b.length ≤ 1048576) (hc : c.length ≤ 1048576) (k : Nat) (hk : 1048576 < k) : laws_eqCron.f k a b c a b c = some true := by
  unfold laws_eqCron.f
  rw [eqIntS_self a (by omega) k (by omega)]; simp only [Option.bind_some, if_true]
  rw [eqIntS_self b (by omega) k (by omega)]; simp only [Option.bind_some, if_true]
  rw [eqIntS_self c (by omega) k (by omega)]; simp only [Option.bind_some, if_true]

theorem l6List_loop (l : List Int) (q : Int) (hn : l.length ≤ 1048576) (d : Nat) : ∀ (k j : Nat), j ≤ l.length → l.length - j = d → d < k →
    spec_l6List.l0 k l q l l.length j = some (riseFrom l q j d && decide (0 < l.length)) := by
  induction d with
  | zero =>
    intro k j hj hd hk
    obtain ⟨k, rfl⟩ : ∃ m, k = m + 1 := ⟨k - 1, by omega⟩
    simp only [spec_l6List.l0]; rw [if_neg (by omega)]; simp only [riseFrom, Bool.true_and]; congr 1; simp only [decide_eq_decide]; omega
  | succ d ih =>
    intro k j hj hd hk
    obtain ⟨k, rfl⟩ : ∃ m, k = m + 1 := ⟨k - 1, by omega⟩
    simp only [spec_l6List.l0]; rw [if_pos (by omega), if_pos (by omega), if_pos (by omega), l1In_eq, wrap_next (n := l.length) (by omega) (by omega), rd_at, rise_round l q j _ hn (by omega), ih k (j + 1) (by omega) (by omega) (by omega)]
    simp only [riseFrom]
    cases riseOk l q j <;> simp

theorem l6List_eq (l : List Int) (q : Int) (hn : l.length ≤ 1048576) (k : Nat) (hk : l.length < k) : spec_l6List.f k l q = some (riseFrom l q 0 l.length && decide (0 < l.length)) := by
  unfold spec_l6List.f
  exact l6List_loop l q hn l.length k 0 (by omega) (by omega) hk

/-- a list of a good cron -/
def listOk (l : List Int) (q : Int) : Bool := riseFrom l q 0 l.length && decide (0 < l.length)
def cronOk (a b c : List Int) : Bool := listOk a 59 && (listOk b 23 && listOk c 6)

theorem spec_GoodCron_eq (a b c : List Int) (ha : a.length ≤ 1048576) (hb : b.length ≤ 1048576) (hc : c.length ≤ 1048576) (k : Nat) (hk : 1048576 < k) : spec_GoodCron.f k a b c = some (cronOk a b c) := by
  unfold spec_GoodCron.f cronOk
  rw [l6List_eq a 59 ha k (by omega), l6List_eq b 23 hb k (by omega), l6List_eq c 6 hc k (by omega)]
  show ((some (listOk a 59) : Option Bool).bind fun t => (if t = true then ((some (listOk b 23) : Option Bool).bind fun t => (if t = true then ((some (listOk c 6) : Option Bool).bind fun t => some t) else some false)) else some false)) = _
  cases listOk a 59 <;> cases listOk b 23 <;> simp

theorem w60 : wrap64 (60 - 1) = 59 := wrap_small (by omega) (by omega)
theorem w24 : wrap64 (24 - 1) = 23 := wrap_small (by omega) (by omega)
theorem w7 : wrap64 (7 - 1) = 6 := wrap_small (by omega) (by omega)
theorem n1 : wrap64 (0 + 1) = 1 := wrap_small (by omega) (by omega)
theorem n2 : wrap64 (1 + 1) = 2 := wrap_small (by omega) (by omega)
theorem n3 : wrap64 (2 + 1) = 3 := wrap_small (by omega) (by omega)

theorem impl_GoodCron_eq (a b c : List Int) (ha : a.length ≤ 1048576) (hb : b.length ≤ 1048576) (hc : c.length ≤ 1048576) (k : Nat) (hk : 1048580 < k) : impl_GoodCron.f k a b c = some (cronOk a b c) := by
  obtain ⟨k, rfl⟩ : ∃ m, k = m + 4 := ⟨k - 4, by omega⟩
  unfold impl_GoodCron.f cronOk
  have e0 : impl_GoodCron.L a b c 0 = a := rfl
  have e1 : impl_GoodCron.L a b c 1 = b := rfl
  have e2 : impl_GoodCron.L a b c 2 = c := rfl
  have r0 : rd [60, 24, 7] 0 = 60 := rfl
  have r1 : rd [60, 24, 7] 1 = 24 := rfl
  have r2 : rd [60, 24, 7] 2 = 7 := rfl
  simp only [impl_GoodCron.l0, impl_bounds.f, Option.bind_some, e0, n1, e1, n2, e2, n3, r0, r1, r2]
  rw [if_pos (show (0 : Int) < 3 by omega), if_pos (show (1 : Int) < 3 by omega), if_pos (show (2 : Int) < 3 by omega), if_neg (show ¬ (3 : Int) < 3 by omega)]
  rw [rising_eq a 60 ha _ (by omega), rising_eq b 24 hb _ (by omega), rising_eq c 7 hc _ (by omega), w60, w24, w7]
  simp only [Option.bind_some, listOk]
  by_cases z0 : a.length = 0
  · rw [if_pos (by omega), decide_eq_false (p := 0 < a.length) (by omega)]; simp
  rw [if_neg (by omega), decide_eq_true (p := 0 < a.length) (by omega)]
  cases riseFrom a 59 0 a.length <;> simp only [Bool.false_eq_true, if_false, if_true, Bool.false_and, Bool.and_true, Bool.true_and]
  by_cases z1 : b.length = 0
  · rw [if_pos (by omega), decide_eq_false (p := 0 < b.length) (by omega)]; simp
  rw [if_neg (by omega), decide_eq_true (p := 0 < b.length) (by omega)]
  cases riseFrom b 23 0 b.length <;> simp only [Bool.false_eq_true, if_false, if_true, Bool.false_and, Bool.and_true, Bool.true_and]
  by_cases z2 : c.length = 0
  · rw [if_pos (by omega), decide_eq_false (p := 0 < c.length) (by omega)]; simp
  rw [if_neg (by omega), decide_eq_true (p := 0 < c.length) (by omega)]
  cases riseFrom c 6 0 c.length <;> simp

theorem rise_pair (l : List Int) (q : Int) (h : riseFrom l q 0 l.length = true) : l.Pairwise (· < ·) ∧ ∀ x ∈ l, 0 ≤ x ∧ x ≤ q := by
  have hall : ∀ (d j : Nat), riseFrom l q j d = true → ∀ i, j ≤ i → i < j + d → riseOk l q i = true := by
    intro d
    induction d with
    | zero => intro j _ i h1 h2; omega
    | succ d ih =>
      intro j h i h1 h2
      simp only [riseFrom, Bool.and_eq_true] at h
      by_cases e : i = j
      · subst e; exact h.1
      · exact ih (j + 1) h.2 i (by omega) (by omega)
  have ok := fun i (hi : i < l.length) => hall l.length 0 h i (by omega) (by omega)
  have eg : ∀ i (hi : i < l.length), l.getD i 0 = l[i] := fun i hi => by rw [List.getD_eq_getElem?_getD, List.getElem?_eq_getElem hi]; rfl
  constructor
  · have up : ∀ d i, i + d + 1 < l.length → l.getD i 0 < l.getD (i + d + 1) 0 := by
      intro d
      induction d with
      | zero =>
        intro i hi
        have := ok (i + 1) (by omega)
        simp only [riseOk, decide_eq_true_eq] at this
        have h3 := this.2.2 (by omega)
        simpa using h3
      | succ d ih =>
        intro i hi
        have h1 := ih i (by omega)
        have := ok (i + (d + 1) + 1) (by omega)
        simp only [riseOk, decide_eq_true_eq] at this
        have h3 := this.2.2 (by omega)
        rw [show i + (d + 1) + 1 - 1 = i + d + 1 by omega] at h3
        omega
    rw [List.pairwise_iff_getElem]
    intro i j hi hj hij
    have := up (j - i - 1) i (by omega)
    rw [show i + (j - i - 1) + 1 = j by omega, eg i hi, eg j hj] at this
    exact this
  · intro x hx
    obtain ⟨i, hi, rfl⟩ := List.getElem_of_mem hx
    have := ok i hi
    simp only [riseOk, decide_eq_true_eq] at this
    rw [eg i hi] at this
    exact ⟨this.1, this.2.1⟩

/-- bytes as a text -/
def bs (l : List UInt8) : ByteArray := ⟨l.toArray⟩
theorem bs_append (a b : List UInt8) : bs a ++ bs b = bs (a ++ b) := by
  apply ByteArray.ext
  rw [ByteArray.data_append]
  simp [bs]
theorem bs_size (a : List UInt8) : (bs a).size = a.length := by simp [bs, ByteArray.size]
theorem bs_data (s : ByteArray) : bs s.data.toList = s := by
  apply ByteArray.ext
  simp [bs]
theorem bs_list (a : List UInt8) : (bs a).data.toList = a := by simp [bs]
theorem one_num (n : Nat) (h : n < 10) : strOfNums [((48 + (n : Int)) % 256)] = bs [UInt8.ofNat (48 + n)] := by
  rw [show ((48 + (n : Int)) % 256) = ((48 + n : Nat) : Int) by omega]
  rfl
theorem nDigits_le (k u : Nat) (h : u < 10 ^ (k + 1)) : Lib.nDigits u ≤ k + 1 := by
  induction k generalizing u with
  | zero => rw [Lib.nDigits_small (by simpa using h)]; omega
  | succ k ih =>
    by_cases c : u < 10
    · rw [Lib.nDigits_small c]; omega
    · rw [Lib.nDigits_big c]
      have := ih (u / 10) (by rw [Nat.pow_succ] at h; omega)
      omega
theorem l1Num_eq : ∀ (k n : Nat), Lib.nDigits n ≤ k → n ≤ 1000000000 → spec_l1Num.f k n = some (bs (Lib.decDigits n)) := by
  intro k
  induction k with
  | zero => intro n h; have := Lib.nDigits_pos n; omega
  | succ k ih =>
    intro n h hn
    unfold spec_l1Num.f
    by_cases c : n < 10
    · rw [if_pos (by omega), Lib.decDigits, dif_pos c, show wrap64 (48 + (n : Int)) = 48 + (n : Int) by unfold wrap64; omega, one_num n c]
    · rw [if_neg (by omega)]
      have e1 : wrap64 (Int.tdiv (n : Int) 10) = ((n / 10 : Nat) : Int) := by
        rw [show Int.tdiv (n : Int) 10 = ((n / 10 : Nat) : Int) from rfl]
        unfold wrap64; omega
      have e2 : wrap64 (48 + Int.tmod (n : Int) 10) = 48 + ((n % 10 : Nat) : Int) := by
        rw [show Int.tmod (n : Int) 10 = ((n % 10 : Nat) : Int) from rfl]
        unfold wrap64; omega
      rw [Lib.nDigits_big c] at h
      rw [e1, e2, ih (n / 10) (by omega) (by omega)]
      simp only [Option.bind_some]
      rw [one_num (n % 10) (by omega), bs_append, bs_size, bs_size]
      rw [Lib.decDigits_length]
      have hd := nDigits_le 9 (n / 10) (by omega)
      rw [if_pos (by simp; omega)]
      conv => rhs; rw [Lib.decDigits, dif_neg c]

/-- a number's digits -/
def dgs (n : Int) : List UInt8 := Lib.decDigits n.toNat
/-- the text of a list of a cron -/
def fldT (l : List Int) (b : Nat) : List UInt8 := if l.length = b then [42] else Lib.join (l.map dgs) [44]
theorem join_cons2 (x y : List UInt8) (r : List (List UInt8)) (s : List UInt8) : Lib.join (x :: y :: r) s = x ++ s ++ Lib.join (y :: r) s := by
  simp [Lib.join, List.intercalate, List.intersperse]
theorem join_snoc : ∀ (xs : List (List UInt8)) (y s : List UInt8), xs ≠ [] → Lib.join (xs ++ [y]) s = Lib.join xs s ++ s ++ y
  | [], _, _, h => absurd rfl h
  | [x], y, s, _ => by rw [List.singleton_append, join_cons2, Lib.join_one, Lib.join_one]
  | x :: z :: r, y, s, _ => by
    rw [List.cons_append, List.cons_append, join_cons2, ← List.cons_append, join_snoc (z :: r) y s (by simp), join_cons2]
    simp
theorem join_len (m : Nat) (s : List UInt8) : ∀ xs : List (List UInt8), (∀ x ∈ xs, x.length ≤ m) → (Lib.join xs s).length ≤ xs.length * (m + s.length)
  | [], _ => by simp [Lib.join, List.intercalate]
  | [x], h => by
    rw [Lib.join_one]
    have := h x List.mem_cons_self
    simp; omega
  | x :: y :: r, h => by
    rw [join_cons2, List.length_append, List.length_append, List.length_cons, Nat.add_mul]
    have h1 := h x List.mem_cons_self
    have h2 := join_len m s (y :: r) (fun z hz => h z (List.mem_cons_of_mem _ hz))
    omega
theorem dgs_len (n : Int) (h0 : 0 ≤ n) (h1 : n < 100) : (dgs n).length ≤ 2 := by
  unfold dgs
  rw [Lib.decDigits_length]
  exact nDigits_le 1 n.toNat (by omega)
theorem map_take_succ (l : List Int) (j : Nat) (h : j < l.length) : (l.take (j + 1)).map dgs = (l.take j).map dgs ++ [dgs (l.getD j 0)] := by
  rw [take_at l j h, List.map_append]; rfl
theorem dgs_all (l : List Int) (hl : ∀ x ∈ l, 0 ≤ x ∧ x < 100) : ∀ x ∈ l.map dgs, x.length ≤ 2 := by
  intro x hx
  obtain ⟨n, hn, rfl⟩ := List.mem_map.1 hx
  exact dgs_len n (hl n hn).1 (hl n hn).2
theorem getD_mem0 (l : List Int) (j : Nat) (h : j < l.length) : l.getD j 0 ∈ l := by
  rw [List.getD_eq_getElem?_getD, List.getElem?_eq_getElem h]; exact List.getElem_mem h
theorem l1Num_dgs (n : Int) (h0 : 0 ≤ n) (h1 : n < 100) (k : Nat) (hk : 5 ≤ k) : spec_l1Num.f k n = some (bs (dgs n)) := by
  obtain ⟨m, rfl⟩ : ∃ m : Nat, n = m := ⟨n.toNat, by omega⟩
  have := nDigits_le 1 m (by omega)
  exact l1Num_eq k m (by omega) (by omega)
theorem text_loop (l : List Int) (hn : l.length ≤ 1048576) (hl : ∀ x ∈ l, 0 ≤ x ∧ x < 100) (d : Nat) : ∀ (k j : Nat), j ≤ l.length → l.length - j = d → d + 10 < k →
    spec_l6Text.l0 k (bs (Lib.join ((l.take j).map dgs) [44])) l l.length j = some (bs (Lib.join (l.map dgs) [44])) := by
  induction d with
  | zero =>
    intro k j hj hd hk
    obtain ⟨k, rfl⟩ : ∃ m, k = m + 1 := ⟨k - 1, by omega⟩
    simp only [spec_l6Text.l0]
    rw [if_neg (by omega), List.take_of_length_le (by omega)]
  | succ d ih =>
    intro k j hj hd hk
    obtain ⟨k, rfl⟩ : ∃ m, k = m + 1 := ⟨k - 1, by omega⟩
    have hx := hl _ (getD_mem0 l j (by omega))
    have hb : (Lib.join ((l.take j).map dgs) [44]).length ≤ 3 * j := by
      have := join_len 2 [44] ((l.take j).map dgs) (dgs_all _ (fun x hx => hl x (List.mem_of_mem_take hx)))
      rw [List.length_map, List.length_take] at this
      simp only [List.length_cons, List.length_nil] at this
      have : min j l.length ≤ j := Nat.min_le_left _ _
      omega
    have hd2 := dgs_len _ hx.1 hx.2
    have hw0 := Aside0.mk (wrap_next (j := j) (n := l.length) (by omega) (by omega))
    have hi := ih k (j + 1) (by omega) (by omega) (by omega)
    rw [map_take_succ l j (by omega)] at hi
    simp only [spec_l6Text.l0]
    rw [if_pos (by omega), if_pos (by omega), if_pos (by omega), rd_at, l1Num_dgs _ hx.1 hx.2 k (by omega), hw0.out]
    by_cases c : (j : Int) > 0
    · rw [if_pos c, if_pos (by rw [bs_size]; omega), Option.bind_some, show (⟨#[44]⟩ : ByteArray) = bs [44] from rfl, bs_append, if_pos (by rw [bs_size, bs_size, List.length_append, List.length_cons, List.length_nil]; omega), bs_append]
      rw [join_snoc _ _ _ (by intro e; have h3 := congrArg List.length e; rw [List.length_map, List.length_take, List.length_nil] at h3; clear hi; omega)] at hi
      exact hi
    · obtain rfl : j = 0 := by omega
      rw [if_neg c, Option.bind_some, if_pos (by rw [bs_size, bs_size]; omega), bs_append]
      rw [List.take_zero, List.map_nil, List.nil_append, Lib.join_one] at hi
      rw [List.take_zero, List.map_nil, Lib.join_nil, List.nil_append]
      exact hi
theorem l6Text_eq (l : List Int) (q : Nat) (hq : q ≤ 60) (hn : l.length ≤ 1048576) (hl : ∀ x ∈ l, 0 ≤ x ∧ x < 100) (k : Nat) (hk : l.length + 10 < k) : spec_l6Text.f k l ((q : Int) - 1) = some (bs (fldT l q)) := by
  unfold spec_l6Text.f fldT
  rw [show wrap64 ((q : Int) - 1 + 1) = (q : Int) by unfold wrap64; omega]
  by_cases c : l.length = q
  · rw [if_pos (by omega), if_pos c]; rfl
  · rw [if_neg (by omega), if_neg c]
    have h := text_loop l hn hl l.length k 0 (by omega) (by omega) hk
    rw [List.take_zero, List.map_nil, Lib.join_nil] at h
    exact h
theorem join_bs (xs : List (List UInt8)) (s : List UInt8) (h1 : xs.length ≤ 140737488355328) (h2 : (Lib.join xs s).length ≤ 140737488355328) : strings_Join.f (xs.map bs) (bs s) = some (bs (Lib.join xs s)) := by
  have e : (xs.map bs).map (·.data.toList) = xs := by
    rw [List.map_map]
    conv => rhs; rw [← List.map_id xs]
    refine List.map_congr_left fun x _ => ?_
    simp [bs]
  unfold strings_Join.f
  rw [e, bs_list, List.length_map, if_pos ⟨h1, h2⟩]
  rfl
theorem field_loop (l : List Int) (b i : Nat) (hi : i < 3) (hb : rd [60, 24, 7] (i : Int) = (b : Int)) (hn : l.length ≤ 1048576) (hl : ∀ x ∈ l, 0 ≤ x ∧ x < 100) (k : Nat) (out : List ByteArray) (ho : out.length ≤ 3) (X : List (List Int)) (d : Nat) : ∀ (j : Nat), j ≤ l.length → l.length - j = d →
    impl_CronText.l1 (k + d + 1) out i l (((l.take j).map dgs).map bs) X 3 i l l.length j = impl_CronText.l0 k (out ++ [bs (fldT l b)]) X 3 (wrap64 ((i : Int) + 1)) := by
  induction d with
  | zero =>
    intro j hj hd
    have hL := join_len 2 [44] (l.map dgs) (dgs_all l hl)
    rw [List.length_map] at hL
    simp only [List.length_cons, List.length_nil] at hL
    rw [impl_CronText.l1]
    rw [if_neg (by omega), List.take_of_length_le (by omega)]
    unfold impl_bounds.f fldT
    rw [Option.bind_some, if_pos (by omega), if_pos (by simp; omega), hb]
    by_cases c : l.length = b
    · rw [if_pos (by omega), if_pos c]
      have := join_bs [[42]] [44] (by simp) (by simp [Lib.join_one])
      rw [Lib.join_one] at this
      rw [show ([(⟨#[42]⟩ : ByteArray)] : List ByteArray) = [[42]].map bs from rfl, show (⟨#[44]⟩ : ByteArray) = bs [44] from rfl, this, Option.bind_some, if_pos (by omega)]
    · rw [if_neg (by omega), if_neg c]
      rw [show (⟨#[44]⟩ : ByteArray) = bs [44] from rfl, join_bs (l.map dgs) [44] (by rw [List.length_map]; omega) (by omega), Option.bind_some, if_pos (by omega)]
  | succ d ih =>
    intro j hj hd
    have hx := hl _ (getD_mem0 l j (by omega))
    have hw := wrap_next (j := j) (n := l.length) (by omega) (by omega)
    rw [show k + (d + 1) + 1 = (k + d + 1) + 1 by omega, impl_CronText.l1]
    rw [if_pos (by omega), if_pos (by omega), if_pos (by omega), rd_at, hw]
    have e : strconv_Itoa.f (l.getD j 0) = some (bs (dgs (l.getD j 0))) := by
      unfold strconv_Itoa.f
      rw [if_pos hx]; rfl
    rw [e, Option.bind_some, if_pos (by rw [List.length_map, List.length_map, List.length_take]; have : min j l.length ≤ j := Nat.min_le_left _ _; omega)]
    have h := ih (j + 1) (by omega) (by omega)
    rw [map_take_succ l j (by omega), List.map_append] at h
    exact h
theorem fldT_len (l : List Int) (b : Nat) (hn : l.length ≤ 1048576) (hl : ∀ x ∈ l, 0 ≤ x ∧ x < 100) : (fldT l b).length ≤ 4000000 := by
  unfold fldT
  split
  · simp
  · have hL := join_len 2 [44] (l.map dgs) (dgs_all l hl)
    rw [List.length_map] at hL
    simp only [List.length_cons, List.length_nil] at hL
    omega
theorem listOk_facts (l : List Int) (q : Int) (h : listOk l q = true) (hq : q < 100) : ∀ x ∈ l, 0 ≤ x ∧ x < 100 := by
  unfold listOk at h
  rw [Bool.and_eq_true] at h
  intro x hx
  have := (rise_pair l q h.1).2 x hx
  omega
/-- the text of a good cron -/
def cronT (a b c : List Int) : List UInt8 := fldT a 60 ++ [32] ++ fldT b 24 ++ [32] ++ fldT c 7
theorem spec_text (a b c : List Int) (ha : a.length ≤ 1048576) (hb : b.length ≤ 1048576) (hc : c.length ≤ 1048576) (h : cronOk a b c = true) (k : Nat) (hk : 1060000 < k) : spec_CronText.f k a b c = some (bs (cronT a b c), true) := by
  have hg := spec_GoodCron_eq a b c ha hb hc k (by omega)
  unfold cronOk at h
  simp only [Bool.and_eq_true] at h
  have fa := listOk_facts a 59 h.1 (by omega)
  have fb := listOk_facts b 23 h.2.1 (by omega)
  have fc := listOk_facts c 6 h.2.2 (by omega)
  have la := fldT_len a 60 ha fa
  have lb := fldT_len b 24 hb fb
  have lc := fldT_len c 7 hc fc
  unfold spec_CronText.f
  rw [hg, show cronOk a b c = true by unfold cronOk; simp [h.1, h.2.1, h.2.2], Option.bind_some, if_pos rfl]
  have ea := l6Text_eq a 60 (by omega) ha fa k (by omega)
  have eb := l6Text_eq b 24 (by omega) hb fb k (by omega)
  have ec := l6Text_eq c 7 (by omega) hc fc k (by omega)
  rw [show (((60 : Nat) : Int) - 1) = 59 from rfl] at ea
  rw [show (((24 : Nat) : Int) - 1) = 23 from rfl] at eb
  rw [show (((7 : Nat) : Int) - 1) = 6 from rfl] at ec
  rw [ea, eb, ec]
  simp only [Option.bind_some]
  rw [show (⟨#[32]⟩ : ByteArray) = bs [32] from rfl]
  simp only [bs_append, bs_size, List.length_append, List.length_cons, List.length_nil]
  rw [if_pos (by omega), if_pos (by omega), if_pos (by omega), if_pos (by omega)]
  rfl
theorem impl_text (a b c : List Int) (ha : a.length ≤ 1048576) (hb : b.length ≤ 1048576) (hc : c.length ≤ 1048576) (h : cronOk a b c = true) : impl_CronText.f (a.length + b.length + c.length + 1048600) a b c = some (bs (cronT a b c), true) := by
  have hg := impl_GoodCron_eq a b c ha hb hc (a.length + b.length + c.length + 1048600) (by omega)
  have hok := h
  unfold cronOk at h
  simp only [Bool.and_eq_true] at h
  have fa := listOk_facts a 59 h.1 (by omega)
  have fb := listOk_facts b 23 h.2.1 (by omega)
  have fc := listOk_facts c 6 h.2.2 (by omega)
  have la := fldT_len a 60 ha fa
  have lb := fldT_len b 24 hb fb
  have lc := fldT_len c 7 hc fc
  unfold impl_CronText.f
  rw [hg, hok, Option.bind_some, if_pos rfl]
  have r0 : ctRow [a, b, c] 0 = a := rfl
  have r1 : ctRow [a, b, c] 1 = b := rfl
  have r2 : ctRow [a, b, c] 2 = c := rfl
  obtain ⟨K, hK⟩ : ∃ K, K = 1048593 := ⟨_, rfl⟩
  rw [show a.length + b.length + c.length + 1048600 = ((((((K + 1) + c.length + 1) + 1) + b.length + 1) + 1) + a.length + 1) + 1 by omega]
  have s0 := field_loop a 60 0 (by omega) rfl ha fa (((((K + 1) + c.length + 1) + 1) + b.length + 1) + 1) [] (by simp) [a, b, c] a.length 0 (by omega) (by omega)
  have s1 := field_loop b 24 1 (by omega) rfl hb fb (((K + 1) + c.length + 1) + 1) [bs (fldT a 60)] (by simp) [a, b, c] b.length 0 (by omega) (by omega)
  have s2 := field_loop c 7 2 (by omega) rfl hc fc (K + 1) [bs (fldT a 60), bs (fldT b 24)] (by simp) [a, b, c] c.length 0 (by omega) (by omega)
  rw [impl_CronText.l0, if_pos (by decide), if_pos (by decide), if_pos (by simp), r0]
  refine Eq.trans s0 ?_
  rw [show wrap64 (((0 : Nat) : Int) + 1) = 1 by unfold wrap64; omega, impl_CronText.l0, if_pos (by decide), if_pos (by decide), if_pos (by simp), r1]
  refine Eq.trans s1 ?_
  rw [show wrap64 (((1 : Nat) : Int) + 1) = 2 by unfold wrap64; omega, impl_CronText.l0, if_pos (by decide), if_pos (by decide), if_pos (by simp), r2]
  refine Eq.trans s2 ?_
  rw [show wrap64 (((2 : Nat) : Int) + 1) = 3 by unfold wrap64; omega, impl_CronText.l0, if_neg (by decide)]
  have hj := join_bs [fldT a 60, fldT b 24, fldT c 7] [32] (by simp) (by
    rw [join_cons2, join_cons2, Lib.join_one]
    simp only [List.length_append, List.length_cons, List.length_nil]
    omega)
  rw [join_cons2, join_cons2, Lib.join_one] at hj
  show ((strings_Join.f ([fldT a 60, fldT b 24, fldT c 7].map bs) (bs [32])).bind fun t => some (t, true)) = _
  rw [hj, Option.bind_some]
  unfold cronT
  simp
theorem text_both (a b c : List Int) (ha : a.length ≤ 1048576) (hb : b.length ≤ 1048576) (hc : c.length ≤ 1048576) (k : Nat) (hk : 5000000 < k) : ∃ v, spec_CronText.f k a b c = some v ∧ impl_CronText.f k a b c = some v := by
  cases h : cronOk a b c with
  | false =>
    refine ⟨(⟨#[]⟩, false), ?_, ?_⟩
    · unfold spec_CronText.f; rw [spec_GoodCron_eq a b c ha hb hc k (by omega), h]; simp
    · unfold impl_CronText.f; rw [impl_GoodCron_eq a b c ha hb hc k (by omega), h]; simp
  | true =>
    refine ⟨_, spec_text a b c ha hb hc h k (by omega), ?_⟩
    have h2 := impl_text a b c ha hb hc h
    obtain ⟨d, rfl⟩ : ∃ d, k = (a.length + b.length + c.length + 1048600) + d := ⟨k - (a.length + b.length + c.length + 1048600), by omega⟩
    clear hk
    induction d with
    | zero => exact h2
    | succ d ih => exact impl_CronText.mono a b c _ _ ih
/-- THE PURE STATEMENT of the law. -/
def FnExactCronText_Pure : Prop := ∀ (l0_0 : (List Int)) (l0_1 : (List Int)) (l0_2 : (List Int)), (l0_0.length ≤ 9223372036854775807 ∧ ∀ y ∈ l0_0, (Lit.int .i64 y).wf = true) → (l0_1.length ≤ 9223372036854775807 ∧ ∀ y ∈ l0_1, (Lit.int .i64 y).wf = true) → (l0_2.length ≤ 9223372036854775807 ∧ ∀ y ∈ l0_2, (Lit.int .i64 y).wf = true) → ∃ k, laws_FnExactCronText.f k l0_0 l0_1 l0_2 = some true

theorem FnExactCronText : FnExactCronText_Pure := by
  intro a b c qa qb qc
  obtain ⟨r, hs, hr | ⟨hr, ha, hb, hc⟩⟩ := szCron_eq a b c qa.1 qb.1 qc.1
  · exact ⟨0, by unfold laws_FnExactCronText.f; rw [hs]; simp only [Option.bind_some]; rw [if_pos hr]⟩
  · obtain ⟨K, hK⟩ : ∃ K : Nat, 5600000 ≤ K := ⟨_, Nat.le_refl _⟩
    obtain ⟨v, h1, h2⟩ := text_both a b c ha hb hc (K + 1) (by omega)
    refine ⟨K + 1, ?_⟩
    unfold laws_FnExactCronText.f
    rw [hs, Option.bind_some, if_neg hr, toCron_eq a b c ha hb hc _ (by omega)]
    simp only [Option.bind_some]
    rw [h1, h2]
    simp only [Option.bind_some, if_true]
    simp only [laws_FnExactCronText.j0]
    rw [if_neg (by simp), toCron_eq a b c ha hb hc _ (by omega)]
    simp only [Option.bind_some]
    rw [eqCron_self a b c ha hb hc _ (by omega)]
    simp

end Go.Proofs.YtbljelkmmakgpaaDoor.Pure
