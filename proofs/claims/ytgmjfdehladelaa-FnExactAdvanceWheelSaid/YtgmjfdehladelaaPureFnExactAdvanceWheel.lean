/- The program advances a wheel as the reference does: the law answers true. No conditions but the reach of a slice. -/
import Derived.Test.YtgmjfdehladelaaPFnExactAdvanceWheelx11
namespace Go.Proofs.Ytgmjfdehladelaa.Pure
open Go.RowKit Go.Proofs.Ytgmjfdehladelaa.PFnExactAdvanceWheel Go.Proofs.YtgmjfdehladelaaW.PrintWords Go.Proofs.YtgmjfdehladelaaW.PrintLast
set_option linter.unusedVariables false
set_option linter.unusedSimpArgs false

theorem wrap_small {x : Int} (h0 : -9223372036854775808 ≤ x) (h1 : x ≤ 9223372036854775807) : wrap64 x = x := by
  unfold wrap64
  omega

theorem wrap_next {j n : Nat} (h : j < n) (hn : n ≤ 140737488351232) : wrap64 ((j : Int) + 1) = ((j + 1 : Nat) : Int) := by
  rw [wrap_small (by omega) (by omega)]; rfl

theorem rd_at (l : List Int) (j : Nat) : rd l (j : Int) = l.getD j 0 := by
  unfold rd; rw [Int.toNat_natCast]

theorem drop_at (l : List Int) (j : Nat) (h : j < l.length) : l.drop j = l.getD j 0 :: l.drop (j + 1) := by
  rw [List.drop_eq_getElem_cons h, List.getD_eq_getElem?_getD, List.getElem?_eq_getElem h]; rfl

theorem take_at (l : List Int) (j : Nat) (h : j < l.length) : l.take (j + 1) = l.take j ++ [l.getD j 0] := by
  rw [List.take_succ_eq_append_getElem h, List.getD_eq_getElem?_getD, List.getElem?_eq_getElem h]; rfl

theorem in_eq (a b c : Int) : impl_in.f a b c = some (decide (b ≤ a ∧ a ≤ c)) := by
  unfold impl_in.f
  by_cases h : a ≥ b
  · rw [if_pos h]; congr 1; simp only [decide_eq_decide]; omega
  · rw [if_neg h, decide_eq_false (by omega)]
theorem l1In_eq (a b c : Int) : spec_l1In.f a b c = some (decide (b ≤ a ∧ a ≤ c)) := by
  unfold spec_l1In.f
  by_cases h : a ≥ b
  · rw [if_pos h]; congr 1; simp only [decide_eq_decide]; omega
  · rw [if_neg h, decide_eq_false (by omega)]

theorem l1Has_loop (l : List Int) (x : Int) (hn : l.length ≤ 1048576) (d : Nat) : ∀ (k j : Nat), j ≤ l.length → l.length - j = d → d < k →
    spec_l1Has.l0 k x l l.length j = some (decide (x ∈ l.drop j)) := by
  induction d with
  | zero =>
    intro k j hj hd hk
    obtain ⟨k, rfl⟩ : ∃ m, k = m + 1 := ⟨k - 1, by omega⟩
    simp only [spec_l1Has.l0]; rw [if_neg (by omega), List.drop_of_length_le (by omega)]; simp
  | succ d ih =>
    intro k j hj hd hk
    obtain ⟨k, rfl⟩ : ∃ m, k = m + 1 := ⟨k - 1, by omega⟩
    simp only [spec_l1Has.l0]; rw [if_pos (by omega), if_pos (by omega), if_pos (by omega), wrap_next (n := l.length) (by omega) (by omega), rd_at, drop_at l j (by omega)]
    by_cases h : l.getD j 0 = x
    · rw [if_pos h, ← h]; simp
    · rw [if_neg h, ih k (j + 1) (by omega) (by omega) (by omega)]; congr 1; simp only [decide_eq_decide, List.mem_cons]
      constructor
      · exact .inr
      · rintro (h1 | h1)
        · exact absurd h1.symm h
        · exact h1

theorem l1Has_eq (l : List Int) (x : Int) (hn : l.length ≤ 1048576) (k : Nat) (hk : l.length < k) : spec_l1Has.f k l x = some (decide (x ∈ l)) := by
  unfold spec_l1Has.f
  have := l1Has_loop l x hn l.length k 0 (by omega) (by omega) hk
  simpa using this

theorem wr (n : Nat) (h : n ≤ 1000) : wrap64 (n : Int) = n := wrap_small (by omega) (by omega)
theorem pow_spec (k : Nat) : spec_l5Pow.f (k + 5) 0 = some 1 ∧ spec_l5Pow.f (k + 5) 1 = some 8 ∧ spec_l5Pow.f (k + 5) 2 = some 64 ∧ spec_l5Pow.f (k + 5) 3 = some 512 := by
  have a0 : wrap64 0 = 0 := wr 0 (by omega)
  have a1 : wrap64 1 = 1 := wr 1 (by omega)
  have a2 : wrap64 2 = 2 := wr 2 (by omega)
  have b1 : wrap64 8 = 8 := wr 8 (by omega)
  have b2 : wrap64 64 = 64 := wr 64 (by omega)
  have b3 : wrap64 512 = 512 := wr 512 (by omega)
  simp [spec_l5Pow.f, spec_l5Pow.l0, a0, a1, a2, b1, b2, b3]

theorem pow_impl (k : Nat) : impl_units.f (k + 5) 0 = some 1 ∧ impl_units.f (k + 5) 1 = some 8 ∧ impl_units.f (k + 5) 2 = some 64 ∧ impl_units.f (k + 5) 3 = some 512 := by
  have a1 : wrap64 1 = 1 := wr 1 (by omega)
  have a2 : wrap64 2 = 2 := wr 2 (by omega)
  have a3 : wrap64 3 = 3 := wr 3 (by omega)
  have b1 : wrap64 8 = 8 := wr 8 (by omega)
  have b2 : wrap64 64 = 64 := wr 64 (by omega)
  have b3 : wrap64 512 = 512 := wr 512 (by omega)
  simp [impl_units.f, impl_units.l0, a1, a2, a3, b1, b2, b3]

/-- a time lies at a level of units p -/
def fitP (now t p : Int) : Bool := decide (1 ≤ t / p - now / p ∧ t / p - now / p ≤ 7)

theorem div_wrap {x p : Int} (h0 : 0 ≤ x) (h1 : x ≤ 9223372036854775807) (hp : 1 ≤ p) : wrap64 (Int.tdiv x p) = x / p := by
  rw [Int.tdiv_eq_ediv_of_nonneg h0]
  have := Int.ediv_nonneg h0 (show 0 ≤ p by omega)
  have := Int.ediv_le_self p h0
  exact wrap_small (by omega) (by omega)

theorem fit_core {a : Int} (k : Nat) (now t p : Int) (hp : 1 ≤ p) (n0 : 0 ≤ now) (n1 : now ≤ 9000000000000000000) (t0 : 0 ≤ t) (t1 : t ≤ 9000000000000000000) (e : spec_l5Pow.f k a = some p) :
    spec_l5Fits.f k now t a = some (fitP now t p) := by
  unfold spec_l5Fits.f fitP
  rw [e]; simp only [Option.bind_some]
  rw [if_neg (by omega), div_wrap t0 (by omega) hp, div_wrap n0 (by omega) hp, l1In_eq]
  have h1 := Int.ediv_nonneg t0 (show 0 ≤ p by omega)
  have h2 := Int.ediv_le_self p t0
  have h3 := Int.ediv_nonneg n0 (show 0 ≤ p by omega)
  have h4 := Int.ediv_le_self p n0
  rw [wrap_small (by omega) (by omega)]

theorem fit_core2 {a : Int} (k : Nat) (now t p : Int) (hp : 1 ≤ p) (n0 : 0 ≤ now) (n1 : now ≤ 9000000000000000000) (t0 : 0 ≤ t) (t1 : t ≤ 9000000000000000000) (e : impl_units.f k a = some p) :
    impl_fitsLevel.f k now t a = some (fitP now t p) := by
  unfold impl_fitsLevel.f fitP
  rw [e]; simp only [Option.bind_some]
  rw [if_neg (by omega), div_wrap t0 (by omega) hp, div_wrap n0 (by omega) hp, in_eq]
  have h1 := Int.ediv_nonneg t0 (show 0 ≤ p by omega)
  have h2 := Int.ediv_le_self p t0
  have h3 := Int.ediv_nonneg n0 (show 0 ≤ p by omega)
  have h4 := Int.ediv_le_self p n0
  rw [wrap_small (by omega) (by omega)]

theorem slot_at (t a p : Int) (hp : 1 ≤ p) (t0 : 0 ≤ t) (t1 : t ≤ 9000000000000000000) (a0 : 0 ≤ a) (a1 : a ≤ 2) : wrap64 ((wrap64 (a * 8)) + (Int.tmod (wrap64 (Int.tdiv t p)) 8)) = a * 8 + t / p % 8 := by
  rw [div_wrap t0 (by omega) hp, Int.tmod_eq_emod_of_nonneg (Int.ediv_nonneg t0 (by omega)), wrap_small (x := a * 8) (by omega) (by omega), wrap_small (by omega) (by omega)]

def gP (i : Nat) : Int := if i < 8 then 1 else if i < 16 then 8 else 64
def gOk (now : Int) (i : Nat) (t : S45) : Bool := decide (now < t.f0 ∧ t.f0 < now + 512) && fitP now t.f0 (gP i) && decide (t.f0 / gP i % 8 = (i : Int) % 8)
def gRow (now : Int) (i : Nat) : List S45 → List Int → Option (List Int)
  | [], ids => some ids
  | t :: r, ids => if (0 ≤ t.f1 ∧ t.f1 ≤ 1000) ∧ gOk now i t = true ∧ t.f1 ∉ ids then gRow now i r (ids ++ [t.f1]) else none
theorem lev (i : Nat) (hi : i < 24) : wrap64 (Int.tdiv (i : Int) 8) = (i / 8 : Nat) := by
  rw [Int.tdiv_eq_ediv_of_nonneg (by omega), wrap_small (by omega) (by omega)]
  omega
theorem gP_spec (i : Nat) (hi : i < 24) (k : Nat) (hk : 5 ≤ k) : spec_l5Pow.f k ((i / 8 : Nat) : Int) = some (gP i) := by
  obtain ⟨k, rfl⟩ : ∃ m, k = m + 5 := ⟨k - 5, by omega⟩
  obtain ⟨p0, p1, p2, _⟩ := pow_spec k
  unfold gP
  by_cases h1 : i < 8
  · rw [if_pos h1, show i / 8 = 0 by omega]; exact p0
  rw [if_neg h1]
  by_cases h2 : i < 16
  · rw [if_pos h2, show i / 8 = 1 by omega]; exact p1
  · rw [if_neg h2, show i / 8 = 2 by omega]; exact p2
theorem gP_impl (i : Nat) (hi : i < 24) (k : Nat) (hk : 5 ≤ k) : impl_units.f k ((i / 8 : Nat) : Int) = some (gP i) := by
  obtain ⟨k, rfl⟩ : ∃ m, k = m + 5 := ⟨k - 5, by omega⟩
  obtain ⟨p0, p1, p2, _⟩ := pow_impl k
  unfold gP
  by_cases h1 : i < 8
  · rw [if_pos h1, show i / 8 = 0 by omega]; exact p0
  rw [if_neg h1]
  by_cases h2 : i < 16
  · rw [if_pos h2, show i / 8 = 1 by omega]; exact p1
  · rw [if_neg h2, show i / 8 = 2 by omega]; exact p2
theorem gP_pos (i : Nat) : 1 ≤ gP i := by unfold gP; split <;> (try split) <;> omega
theorem fit_impl (now : Int) (n0 : 0 ≤ now) (n1 : now ≤ 100000) (i : Nat) (hi : i < 24) (t : S45) (k : Nat) (hk : 5 ≤ k) : gwFit k now i t = some (gOk now i t) := by
  have hw : wrap64 (now + 512) = now + 512 := wrap_small (by omega) (by omega)
  unfold gwFit impl_reach.f gOk
  rw [lev i hi, hw]
  by_cases h1 : t.f0 > now
  · rw [if_pos h1]
    by_cases h2 : t.f0 < now + 512
    · simp only [Option.bind_some, decide_eq_true h2, if_true]
      rw [fit_core2 k now t.f0 (gP i) (gP_pos i) n0 (by omega) (by omega) (by omega) (gP_impl i hi k hk)]
      simp only [Option.bind_some]
      have hd : decide (now < t.f0 ∧ t.f0 < now + 512) = true := decide_eq_true ⟨h1, h2⟩
      rw [hd]
      cases fitP now t.f0 (gP i) with
      | false => simp
      | true =>
        unfold impl_slotAt.f
        rw [gP_impl i hi k hk]
        simp only [Option.bind_some, if_true, Bool.true_and]
        have hp := gP_pos i
        rw [if_neg (by omega)]
        simp only [Option.bind_some]
        rw [slot_at t.f0 ((i / 8 : Nat) : Int) (gP i) (gP_pos i) (by omega) (by omega) (by omega) (by omega)]
        congr 1
        simp only [decide_eq_decide]
        generalize t.f0 / gP i % 8 = x
        omega
    · simp [h2]
  · rw [if_neg h1]
    simp [show ¬ now < t.f0 by omega]
theorem rd45_at (l : List S45) (j : Nat) : rd_T45 l (j : Int) = l.getD j z45 := by unfold rd_T45; rw [Int.toNat_natCast]
theorem drop45 (l : List S45) (j : Nat) (h : j < l.length) : l.drop j = l.getD j z45 :: l.drop (j + 1) := by
  rw [List.drop_eq_getElem_cons h, List.getD_eq_getElem?_getD, List.getElem?_eq_getElem h]; rfl
theorem impl_row (now : Int) (n0 : 0 ≤ now) (n1 : now ≤ 100000) (i : Nat) (hi : i < 24) (L : List (List S45)) (row : List S45) (hn : row.length ≤ 1048576) (d : Nat) : ∀ (k j : Nat) (ids : List Int), j ≤ row.length → row.length - j = d → 5 ≤ k → ids.length + d ≤ 1048576 →
    impl_GoodWheel.l1 (k + d + 1) ids i row j now L = match gRow now i (row.drop j) ids with | none => some false | some ids' => impl_GoodWheel.l0 k ids' (wrap64 ((i : Int) + 1)) now L := by
  induction d with
  | zero =>
    intro k j ids hj hd hk hl
    simp only [impl_GoodWheel.l1, Nat.add_zero]; rw [if_neg (by omega), List.drop_of_length_le (by omega)]; rfl
  | succ d ih =>
    intro k j ids hj hd hk hl
    rw [show k + (d + 1) + 1 = (k + d + 1) + 1 by omega]
    simp only [impl_GoodWheel.l1]
    rw [if_pos (by omega), if_pos (by omega), rd45_at, drop45 row j (by omega), fit_impl now n0 n1 i hi _ _ (by omega), in_eq, wrap_next (n := row.length) (by omega) (by omega)]
    simp only [Option.bind_some, gRow]
    generalize row.getD j z45 = t
    by_cases h1 : 0 ≤ t.f1 ∧ t.f1 ≤ 1000
    · rw [decide_eq_true h1, if_pos rfl]
      cases h2 : gOk now i t with
      | false => simp
      | true =>
        rw [if_pos rfl]
        by_cases h3 : t.f1 ∈ ids
        · rw [if_pos h3, if_neg (by simp [h3])]
        · rw [if_neg h3, if_pos (show ids.length < 4000000 by omega), if_pos (show (0 ≤ t.f1 ∧ t.f1 ≤ 1000) ∧ true = true ∧ t.f1 ∉ ids from ⟨h1, rfl, h3⟩)]
          exact ih k (j + 1) _ (by omega) (by omega) hk (by rw [List.length_append, List.length_singleton]; omega)
    · rw [decide_eq_false h1, if_neg (by decide), if_neg (fun h => h1 h.1)]
theorem spec_row (now : Int) (n0 : 0 ≤ now) (n1 : now ≤ 100000) (i : Nat) (hi : i < 24) (n : Int) (L : List (List S45)) (row : List S45) (hn : row.length ≤ 1048576) (d : Nat) : ∀ (k j : Nat) (ids : List Int), j ≤ row.length → row.length - j = d → 1048577 ≤ k → ids.length + d ≤ 1048576 →
    spec_GoodWheel.l1 (k + d + 1) ids i ((i / 8 : Nat) : Int) L n i row row.length j now L = match gRow now i (row.drop j) ids with | none => some false | some ids' => spec_GoodWheel.l0 k ids' L n (wrap64 ((i : Int) + 1)) now L := by
  have hw : wrap64 (now + 512) = now + 512 := wrap_small (by omega) (by omega)
  induction d with
  | zero =>
    intro k j ids hj hd hk hl
    simp only [spec_GoodWheel.l1, Nat.add_zero]; rw [if_neg (by omega), List.drop_of_length_le (by omega)]; rfl
  | succ d ih =>
    intro k j ids hj hd hk hl
    rw [show k + (d + 1) + 1 = (k + d + 1) + 1 by omega]
    simp only [spec_GoodWheel.l1]
    rw [if_pos (by omega), if_pos (by omega), if_pos (by omega), rd45_at, drop45 row j (by omega), wrap_next (n := row.length) (by omega) (by omega)]
    simp only [gRow]
    generalize row.getD j z45 = t
    obtain ⟨q, hq⟩ : ∃ q, k + d + 1 = q + 5 := ⟨k + d - 4, by omega⟩
    have h512 : spec_l5Pow.f (k + d + 1) 3 = some 512 := by rw [hq]; exact (pow_spec q).2.2.2
    have hT : spec_l5Timer.f (k + d + 1) t.f0 t.f1 now = some (decide ((0 ≤ t.f1 ∧ t.f1 ≤ 1000) ∧ (now < t.f0 ∧ t.f0 < now + 512))) := by
      unfold spec_l5Timer.f
      rw [l1In_eq, h512]
      simp only [Option.bind_some, hw]
      by_cases h1 : 0 ≤ t.f1 ∧ t.f1 ≤ 1000
      · rw [decide_eq_true h1, if_pos rfl]
        by_cases h2 : t.f0 > now
        · rw [if_pos h2]; simp [h1, show now < t.f0 from h2]
        · rw [if_neg h2]; simp [show ¬ now < t.f0 from h2]
      · rw [decide_eq_false h1, if_neg (by decide)]; simp [h1]
    rw [hT, l1Has_eq ids t.f1 (by omega) _ (by omega)]
    simp only [Option.bind_some]
    by_cases h1 : (0 ≤ t.f1 ∧ t.f1 ≤ 1000) ∧ (now < t.f0 ∧ t.f0 < now + 512)
    · rw [decide_eq_true h1, if_pos rfl]
      by_cases h3 : t.f1 ∈ ids
      · rw [decide_eq_true h3, if_pos rfl, if_neg (fun h => h.2.2 h3)]
      · rw [decide_eq_false h3, if_neg (by decide), fit_core (k + d + 1) now t.f0 (gP i) (gP_pos i) n0 (by omega) (by omega) (by omega) (gP_spec i hi _ (by omega)), gP_spec i hi _ (by omega)]
        simp only [Option.bind_some]
        have hp := gP_pos i
        have hg : gOk now i t = (fitP now t.f0 (gP i) && decide (t.f0 / gP i % 8 = (i : Int) % 8)) := by unfold gOk; rw [decide_eq_true h1.2, Bool.true_and]
        rw [hg]
        cases fitP now t.f0 (gP i) with
        | false => simp
        | true =>
          rw [if_pos rfl, if_neg (by omega), div_wrap (by omega) (by omega) hp, Int.tmod_eq_emod_of_nonneg (Int.ediv_nonneg (by omega) (by omega)), Int.tmod_eq_emod_of_nonneg (by omega)]
          by_cases h4 : t.f0 / gP i % 8 = (i : Int) % 8
          · rw [if_pos h4, if_pos (show ids.length < 17592186044416 by omega), if_pos (show (0 ≤ t.f1 ∧ t.f1 ≤ 1000) ∧ (true && decide (t.f0 / gP i % 8 = (i : Int) % 8)) = true ∧ t.f1 ∉ ids from ⟨h1.1, by simp [h4], h3⟩)]
            exact ih k (j + 1) _ (by omega) (by omega) hk (by rw [List.length_append, List.length_singleton]; omega)
          · rw [if_neg h4]; simp [h4]
    · rw [decide_eq_false h1, if_neg (by decide)]
      rw [if_neg]
      rintro ⟨a, b, _⟩
      unfold gOk at b
      simp only [Bool.and_eq_true, decide_eq_true_eq] at b
      exact h1 ⟨a, b.1.1⟩
def gAll (now : Int) : Nat → List (List S45) → List Int → Bool
  | _, [], ids => decide ((ids.length : Int) ≤ 60)
  | i, row :: r, ids => match gRow now i row ids with | none => false | some ids' => gAll now (i + 1) r ids'
def gTot : List (List S45) → Nat
  | [] => 0
  | row :: r => row.length + gTot r
theorem gRow_len (now : Int) (i : Nat) : ∀ (row : List S45) (ids ids' : List Int), gRow now i row ids = some ids' → ids'.length = ids.length + row.length
  | [], ids, ids', h => by simp [gRow] at h; simp [h]
  | t :: r, ids, ids', h => by
    unfold gRow at h
    split at h
    · have := gRow_len now i r _ _ h
      simp at this ⊢; omega
    · exact absurd h (by simp)
theorem rdL2_at (L : List (List S45)) (j : Nat) : rd_L2 L (j : Int) = L.getD j [] := by unfold rd_L2; rw [Int.toNat_natCast]
theorem dropL2 (L : List (List S45)) (j : Nat) (h : j < L.length) : L.drop j = L.getD j [] :: L.drop (j + 1) := by
  rw [List.drop_eq_getElem_cons h, List.getD_eq_getElem?_getD, List.getElem?_eq_getElem h]; rfl
theorem impl_all (now : Int) (n0 : 0 ≤ now) (n1 : now ≤ 100000) (L : List (List S45)) (hL : L.length = 24) (d : Nat) : ∀ (k i : Nat) (ids : List Int), i ≤ L.length → L.length - i = d → 5 ≤ k → ids.length + gTot (L.drop i) ≤ 1048576 →
    impl_GoodWheel.l0 (k + gTot (L.drop i) + 2 * d + 1) ids i now L = some (gAll now i (L.drop i) ids) := by
  induction d with
  | zero =>
    intro k i ids hi hd hk hl
    simp only [impl_GoodWheel.l0]; rw [if_neg (by omega), List.drop_of_length_le (by omega)]; rfl
  | succ d ih =>
    intro k i ids hi hd hk hl
    have e := dropL2 L i (by omega)
    rw [e] at hl ⊢
    simp only [gTot] at hl ⊢
    generalize hrow : L.getD i [] = row at hl ⊢
    simp only [impl_GoodWheel.l0]
    rw [if_pos (by omega), if_pos (by omega), rdL2_at, hrow, show k + (row.length + gTot (L.drop (i + 1))) + 2 * (d + 1) = (k + gTot (L.drop (i + 1)) + 2 * d + 1) + row.length + 1 by omega]
    have h1 := impl_row now n0 n1 i (by omega) L row (by omega) row.length (k + gTot (L.drop (i + 1)) + 2 * d + 1) 0 ids (by omega) (by omega) (by omega) (by omega)
    rw [show ((0 : Nat) : Int) = 0 from rfl, List.drop_zero] at h1
    rw [h1]
    unfold gAll
    cases h2 : gRow now i row ids with
    | none => rfl
    | some ids' =>
      have h3 := gRow_len now i row ids ids' h2
      show impl_GoodWheel.l0 _ _ _ _ _ = _
      rw [wrap_next (n := L.length) (by omega) (by omega)]
      exact ih k (i + 1) ids' (by omega) (by omega) hk (by omega)
theorem spec_all (now : Int) (n0 : 0 ≤ now) (n1 : now ≤ 100000) (L : List (List S45)) (hL : L.length = 24) (d : Nat) : ∀ (k i : Nat) (ids : List Int), i ≤ L.length → L.length - i = d → 1048577 ≤ k → ids.length + gTot (L.drop i) ≤ 1048576 →
    spec_GoodWheel.l0 (k + gTot (L.drop i) + 2 * d + 1) ids L L.length i now L = some (gAll now i (L.drop i) ids) := by
  induction d with
  | zero =>
    intro k i ids hi hd hk hl
    simp only [spec_GoodWheel.l0]; rw [if_neg (by omega), List.drop_of_length_le (by omega)]; rfl
  | succ d ih =>
    intro k i ids hi hd hk hl
    have e := dropL2 L i (by omega)
    rw [e] at hl ⊢
    simp only [gTot] at hl ⊢
    generalize hrow : L.getD i [] = row at hl ⊢
    simp only [spec_GoodWheel.l0]
    rw [if_pos (by omega), if_pos (by omega), if_pos (by omega), rdL2_at, hrow, lev i (by omega), show k + (row.length + gTot (L.drop (i + 1))) + 2 * (d + 1) = (k + gTot (L.drop (i + 1)) + 2 * d + 1) + row.length + 1 by omega]
    have h1 := spec_row now n0 n1 i (by omega) L.length L row (by omega) row.length (k + gTot (L.drop (i + 1)) + 2 * d + 1) 0 ids (by omega) (by omega) (by omega) (by omega)
    rw [show ((0 : Nat) : Int) = 0 from rfl, List.drop_zero] at h1
    rw [h1]
    unfold gAll
    cases h2 : gRow now i row ids with
    | none => rfl
    | some ids' =>
      have h3 := gRow_len now i row ids ids' h2
      show spec_GoodWheel.l0 _ _ _ _ _ _ _ = _
      rw [wrap_next (n := L.length) (by omega) (by omega)]
      exact ih k (i + 1) ids' (by omega) (by omega) hk (by omega)
theorem both_good (now : Int) (L : List (List S45)) (ht : gTot L ≤ 1048576) (K : Nat) (hK : 3000000 ≤ K) : ∃ b, spec_GoodWheel.f K now L = some b ∧ impl_GoodWheel.f K now L = some b := by
  unfold spec_GoodWheel.f impl_GoodWheel.f impl_isNow.f
  rw [in_eq, l1In_eq]
  simp only [Option.bind_some]
  obtain ⟨q, rfl⟩ : ∃ q, K = q + 1 := ⟨K - 1, by omega⟩
  by_cases h : 0 ≤ now ∧ now ≤ 100000
  · rw [decide_eq_true h, if_pos rfl, if_pos rfl]
    simp only [spec_GoodWheel.j0]
    by_cases h2 : L.length = 24
    · have e1 := spec_all now h.1 h.2 L h2 24 (q - gTot L - 49) 0 [] (by omega) (by omega) (by omega) (by simpa using ht)
      have e2 := impl_all now h.1 h.2 L h2 24 (q + 1 - gTot L - 49) 0 [] (by omega) (by omega) (by omega) (by simpa using ht)
      rw [List.drop_zero] at e1 e2
      rw [show q - gTot L - 49 + gTot L + 2 * 24 + 1 = q by omega] at e1
      rw [show q + 1 - gTot L - 49 + gTot L + 2 * 24 + 1 = q + 1 by omega] at e2
      refine ⟨gAll now 0 L [], ?_, ?_⟩
      · rw [if_neg (by rw [h2]; decide)]; exact e1
      · rw [if_pos (by omega)]; exact e2
    · refine ⟨false, ?_, ?_⟩
      · rw [if_pos (by simp; omega)]
      · rw [if_neg (by omega)]
  · rw [decide_eq_false h]
    exact ⟨false, by simp [spec_GoodWheel.j0], by simp⟩

def slotOf (now t : Int) : Int := if fitP now t 1 = true then t % 8 else if fitP now t 8 = true then 8 + t / 8 % 8 else if fitP now t 64 = true then 16 + t / 64 % 8 else -1
theorem slotOf_range (now t : Int) (h0 : 0 ≤ t) : -1 ≤ slotOf now t ∧ slotOf now t ≤ 23 := by
  unfold slotOf
  split
  · omega
  split
  · omega
  split <;> omega
theorem spec_slot_eq (k : Nat) (now t : Int) (n0 : 0 ≤ now) (n1 : now ≤ 9000000000000000000) (t0 : 0 ≤ t) (t1 : t ≤ 9000000000000000000) : spec_l5Slot.f (k + 9) now t = some (slotOf now t) := by
  obtain ⟨p0, _, _, _⟩ := pow_spec (k + 3)
  obtain ⟨_, p1, _, _⟩ := pow_spec (k + 2)
  obtain ⟨_, _, p2, _⟩ := pow_spec (k + 1)
  have f0 := fit_core (k + 8) now t 1 (by omega) n0 n1 t0 t1 p0
  have f1 := fit_core (k + 7) now t 8 (by omega) n0 n1 t0 t1 p1
  have f2 := fit_core (k + 6) now t 64 (by omega) n0 n1 t0 t1 p2
  have a1 : wrap64 (0 + 1) = 1 := wrap_small (by omega) (by omega)
  have a2 : wrap64 (1 + 1) = 2 := wrap_small (by omega) (by omega)
  have a3 : wrap64 (2 + 1) = 3 := wrap_small (by omega) (by omega)
  have s0 := slot_at t 0 1 (by omega) t0 t1 (by omega) (by omega)
  have s1 := slot_at t 1 8 (by omega) t0 t1 (by omega) (by omega)
  have s2 := slot_at t 2 64 (by omega) t0 t1 (by omega) (by omega)
  unfold spec_l5Slot.f slotOf
  simp only [spec_l5Slot.l0, a1, a2, a3]
  rw [if_pos (show (0 : Int) < 3 by omega), if_pos (show (1 : Int) < 3 by omega), if_pos (show (2 : Int) < 3 by omega), if_neg (show ¬ (3 : Int) < 3 by omega), f0, f1, f2, p0, p1, p2]
  simp only [Option.bind_some]
  rw [if_neg (show ¬ (1 : Int) = 0 by omega), if_neg (show ¬ (8 : Int) = 0 by omega), if_neg (show ¬ (64 : Int) = 0 by omega), s0, s1, s2]
  cases fitP now t 1 <;> cases fitP now t 8 <;> cases fitP now t 64 <;> simp
theorem impl_slot_eq (k : Nat) (now t : Int) (n0 : 0 ≤ now) (n1 : now ≤ 9000000000000000000) (t0 : 0 ≤ t) (t1 : t ≤ 9000000000000000000) : impl_slotFor.f (k + 9) now t = some (if slotOf now t < 0 then (0, false) else (slotOf now t, true)) := by
  obtain ⟨p0, _, _, _⟩ := pow_impl (k + 3)
  obtain ⟨_, p1, _, _⟩ := pow_impl (k + 2)
  obtain ⟨_, _, p2, _⟩ := pow_impl (k + 1)
  have f0 := fit_core2 (k + 8) now t 1 (by omega) n0 n1 t0 t1 p0
  have f1 := fit_core2 (k + 7) now t 8 (by omega) n0 n1 t0 t1 p1
  have f2 := fit_core2 (k + 6) now t 64 (by omega) n0 n1 t0 t1 p2
  have a1 : wrap64 (0 + 1) = 1 := wrap_small (by omega) (by omega)
  have a2 : wrap64 (1 + 1) = 2 := wrap_small (by omega) (by omega)
  have a3 : wrap64 (2 + 1) = 3 := wrap_small (by omega) (by omega)
  have s0 := slot_at t 0 1 (by omega) t0 t1 (by omega) (by omega)
  have s1 := slot_at t 1 8 (by omega) t0 t1 (by omega) (by omega)
  have s2 := slot_at t 2 64 (by omega) t0 t1 (by omega) (by omega)
  unfold impl_slotFor.f slotOf
  simp only [impl_slotFor.l0, impl_slotAt.f, a1, a2, a3]
  rw [if_pos (show (0 : Int) < 3 by omega), if_pos (show (1 : Int) < 3 by omega), if_pos (show (2 : Int) < 3 by omega), if_neg (show ¬ (3 : Int) < 3 by omega), f0, f1, f2, p0, p1, p2]
  simp only [Option.bind_some]
  rw [if_neg (show ¬ (1 : Int) = 0 by omega), if_neg (show ¬ (8 : Int) = 0 by omega), if_neg (show ¬ (64 : Int) = 0 by omega), s0, s1, s2]
  simp only [Option.bind_some]
  have r0 : ¬ t % 8 < 0 := by omega
  have r1 : ¬ 8 + t / 8 % 8 < 0 := by omega
  have r2 : ¬ 16 + t / 64 % 8 < 0 := by omega
  cases fitP now t 1 <;> cases fitP now t 8 <;> cases fitP now t 64 <;> simp [r0, r1, r2]

theorem rd_L2_at (L : List (List S45)) (i : Nat) (h : i < L.length) : rd_L2 L (i : Int) = L[i] := by
  unfold rd_L2
  rw [Int.toNat_natCast, List.getD_eq_getElem?_getD, List.getElem?_eq_getElem h]
  rfl
theorem flat_drop (L : List (List S45)) (i : Nat) (h : i < L.length) : (L.drop i).flatten = L[i] ++ (L.drop (i + 1)).flatten := by
  rw [List.drop_eq_getElem_cons h, List.flatten_cons]
theorem wrap_id {x : Int} (h0 : -9223372036854775808 ≤ x) (h1 : x ≤ 9223372036854775807) : wrap64 x = x := by
  unfold wrap64
  omega
theorem flat_getElem (L : List (List S45)) (i : Nat) (h : i < L.length) : L[i].length ≤ L.flatten.length := by
  have e : L.flatten = (L.take i).flatten ++ (L.drop i).flatten := by rw [← List.flatten_append, List.take_append_drop]
  rw [e, flat_drop L i h, List.length_append, List.length_append]
  omega
theorem own_loop (n : Int) (L : List (List S45)) (hL : L.length ≤ 1000000000) (hf : L.flatten.length < 8796093022208) (d : Nat) : ∀ (k i : Nat), i ≤ L.length → L.length - i = d → d < k → spec_l5Own.l0 k (L.take i) L (L.length : Int) (i : Int) n L = some (n, L) := by
  induction d with
  | zero =>
    intro k i h1 hd hk
    obtain ⟨k, rfl⟩ : ∃ m, k = m + 1 := ⟨k - 1, by omega⟩
    simp only [spec_l5Own.l0]
    rw [if_neg (by omega), List.take_of_length_le (by omega)]
  | succ d ih =>
    intro k i h1 hd hk
    obtain ⟨k, rfl⟩ : ∃ m, k = m + 1 := ⟨k - 1, by omega⟩
    have hi : i < L.length := by omega
    have hr := flat_getElem L i hi
    have e := ih k (i + 1) (by omega) (by omega) (by omega)
    simp only [spec_l5Own.l0, Option.bind_some]
    rw [if_pos (by omega), if_pos (by omega), if_pos (by omega), rd_L2_at L i hi, if_pos (by simp only [List.length_nil]; omega), if_pos (by rw [List.length_take]; omega), wrap_id (x := (i : Int) + 1) (by omega) (by omega), show (i : Int) + 1 = ((i + 1 : Nat) : Int) from rfl, List.nil_append, List.take_append_getElem hi, e]
theorem own_eq (n : Int) (L : List (List S45)) (hL : L.length ≤ 1000000000) (hf : L.flatten.length < 8796093022208) (k : Nat) (hk : L.length < k) : spec_l5Own.f k n L = some (n, L) :=
  own_loop n L hL hf L.length k 0 (by omega) (by omega) hk
theorem clone_loop (n : Int) (L : List (List S45)) (hL : L.length ≤ 1000000000) (hf : L.flatten.length < 8796093022208) (d : Nat) : ∀ (k i : Nat), i ≤ L.length → L.length - i = d → d < k → impl_cloneWheel.l0 k L (L.length : Int) (i : Int) n (L.take i) = some (n, L) := by
  induction d with
  | zero =>
    intro k i h1 hd hk
    obtain ⟨k, rfl⟩ : ∃ m, k = m + 1 := ⟨k - 1, by omega⟩
    simp only [impl_cloneWheel.l0]
    rw [if_neg (by omega), List.take_of_length_le (by omega)]
  | succ d ih =>
    intro k i h1 hd hk
    obtain ⟨k, rfl⟩ : ∃ m, k = m + 1 := ⟨k - 1, by omega⟩
    have hi : i < L.length := by omega
    have hr := flat_getElem L i hi
    have e := ih k (i + 1) (by omega) (by omega) (by omega)
    simp only [impl_cloneWheel.l0]
    rw [if_pos (by omega), if_pos (by omega), if_pos (by omega), rd_L2_at L i hi, show impl_Timer.f L[i] = some L[i] by unfold impl_Timer.f; rw [if_pos (by omega)]]
    simp only [Option.bind_some]
    rw [if_pos (by rw [List.length_take]; omega), wrap_id (x := (i : Int) + 1) (by omega) (by omega), show (i : Int) + 1 = ((i + 1 : Nat) : Int) from rfl, List.take_append_getElem hi, e]
theorem clone_eq (n : Int) (L : List (List S45)) (hL : L.length ≤ 1000000000) (hf : L.flatten.length < 8796093022208) (k : Nat) (hk : L.length < k) : impl_cloneWheel.f k n L = some (n, L) :=
  clone_loop n L hL hf L.length k 0 (by omega) (by omega) hk

/-- a timer that may lie in a slot -/
def okT (now : Int) (i : Nat) (t : S45) : Prop := (0 ≤ t.f1 ∧ t.f1 ≤ 1000) ∧ gOk now i t = true
theorem gRow_yes (now : Int) (i : Nat) : ∀ (row : List S45) (ids : List Int), (∀ t ∈ row, okT now i t) → (ids ++ row.map (·.f1)).Nodup → gRow now i row ids = some (ids ++ row.map (·.f1))
  | [], ids, _, _ => by simp [gRow]
  | t :: r, ids, h1, h2 => by
    have ht := h1 t List.mem_cons_self
    have h3 : (ids ++ [t.f1] ++ r.map (·.f1)).Nodup := by simpa using h2
    have h4 : t.f1 ∉ ids := fun hm => by
      rw [List.map_cons, List.nodup_append] at h2
      exact h2.2.2 _ hm _ List.mem_cons_self rfl
    unfold gRow
    rw [if_pos ⟨ht.1, ht.2, h4⟩, gRow_yes now i r _ (fun x hx => h1 x (List.mem_cons_of_mem _ hx)) h3]
    simp
theorem gRow_no (now : Int) (i : Nat) : ∀ (row : List S45) (ids ids' : List Int), ids.Nodup → gRow now i row ids = some ids' → (∀ t ∈ row, okT now i t) ∧ (ids ++ row.map (·.f1)).Nodup ∧ ids' = ids ++ row.map (·.f1)
  | [], ids, ids', hn, h => by
    simp only [gRow, Option.some.injEq] at h
    subst h
    refine ⟨fun t ht => (List.not_mem_nil ht).elim, ?_, ?_⟩ <;> simp [hn]
  | t :: r, ids, ids', hn, h => by
    unfold gRow at h
    split at h
    · rename_i c
      have hn2 : (ids ++ [t.f1]).Nodup := by
        rw [List.nodup_append]
        refine ⟨hn, by simp, fun a ha b hb => ?_⟩
        rw [List.mem_singleton] at hb
        subst hb
        exact fun e => c.2.2 (e ▸ ha)
      obtain ⟨h1, h2, h3⟩ := gRow_no now i r _ _ hn2 h
      refine ⟨fun x hx => ?_, by simpa using h2, by simpa using h3⟩
      rcases List.mem_cons.1 hx with rfl | hx
      · exact ⟨c.1, c.2.1⟩
      · exact h1 x hx
    · cases h
theorem gAll_iff (now : Int) : ∀ (i : Nat) (L : List (List S45)) (ids : List Int), ids.Nodup → (gAll now i L ids = true ↔ (∀ j (hj : j < L.length), ∀ t ∈ L[j], okT now (i + j) t) ∧ (ids ++ L.flatten.map (·.f1)).Nodup ∧ ids.length + L.flatten.length ≤ 60)
  | i, [], ids, hn => by
    simp only [gAll, decide_eq_true_eq]
    constructor
    · intro h
      exact ⟨fun j hj => (Nat.not_lt_zero _ hj).elim, by simpa using hn, by simp; omega⟩
    · rintro ⟨_, _, h⟩
      simp at h
      omega
  | i, row :: r, ids, hn => by
    unfold gAll
    constructor
    · intro h
      split at h
      · cases h
      · rename_i ids' hg
        obtain ⟨h1, h2, h3⟩ := gRow_no now i row ids ids' hn hg
        subst h3
        obtain ⟨g1, g2, g3⟩ := (gAll_iff now (i + 1) r _ h2).1 h
        refine ⟨fun j hj t ht => ?_, by simpa using g2, by simp at g3 ⊢; omega⟩
        cases j with
        | zero => exact h1 t ht
        | succ j =>
          have := g1 j (by simpa using hj) t (by simpa using ht)
          rwa [show i + 1 + j = i + (j + 1) by omega] at this
    · rintro ⟨g1, g2, g3⟩
      have n2 : (ids ++ row.map (·.f1)).Nodup := by
        have : (ids ++ row.map (·.f1) ++ r.flatten.map (·.f1)).Nodup := by simpa using g2
        exact (List.nodup_append.1 this).1
      rw [gRow_yes now i row ids (fun t ht => g1 0 (by simp) t ht) n2]
      refine (gAll_iff now (i + 1) r _ n2).2 ⟨fun j hj t ht => ?_, by simpa using g2, by simp at g3 ⊢; omega⟩
      have := g1 (j + 1) (by simpa using hj) t (by simpa using ht)
      rwa [show i + (j + 1) = i + 1 + j by omega] at this

theorem flat_set : ∀ (L : List (List S45)) (k : Nat) (hk : k < L.length) (t : S45), (L.set k (L[k] ++ [t])).flatten.Perm (t :: L.flatten)
  | [], k, hk, t => (Nat.not_lt_zero _ hk).elim
  | row :: r, 0, hk, t => by
    simp only [List.getElem_cons_zero, List.set_cons_zero, List.flatten_cons, List.append_assoc, List.singleton_append]
    exact List.perm_middle
  | row :: r, k + 1, hk, t => by
    simp only [List.getElem_cons_succ, List.set_cons_succ, List.flatten_cons]
    exact ((flat_set r k (by simpa using hk) t).append_left row).trans List.perm_middle
theorem good_set (now : Int) (L : List (List S45)) (k : Nat) (hk : k < L.length) (t : S45) (hg : gAll now 0 L [] = true) : gAll now 0 (L.set k (L[k] ++ [t])) [] = true ↔ okT now k t ∧ t.f1 ∉ L.flatten.map (·.f1) ∧ L.flatten.length + 1 ≤ 60 := by
  obtain ⟨g1, g2, g3⟩ := (gAll_iff now 0 L [] List.nodup_nil).1 hg
  have hp := flat_set L k hk t
  have hl : (L.set k (L[k] ++ [t])).flatten.length = L.flatten.length + 1 := by rw [hp.length_eq, List.length_cons]
  have hn : (([] : List Int) ++ (L.set k (L[k] ++ [t])).flatten.map (·.f1)).Nodup ↔ t.f1 ∉ L.flatten.map (·.f1) := by
    rw [List.nil_append, (hp.map (·.f1)).nodup_iff, List.map_cons, List.nodup_cons]
    exact ⟨fun h => h.1, fun h => ⟨h, by simpa using g2⟩⟩
  rw [gAll_iff now 0 _ [] List.nodup_nil, hn, hl]
  constructor
  · rintro ⟨h1, h2, h3⟩
    refine ⟨?_, h2, by simpa using h3⟩
    have := h1 k (by rw [List.length_set]; exact hk) t (by rw [List.getElem_set_self]; simp)
    rwa [Nat.zero_add] at this
  · rintro ⟨h1, h2, h3⟩
    refine ⟨fun j hj x hx => ?_, h2, by simpa using h3⟩
    rw [List.length_set] at hj
    by_cases e : k = j
    · subst e
      rw [List.getElem_set_self, List.mem_append, List.mem_singleton] at hx
      rcases hx with hx | rfl
      · exact g1 k hj x hx
      · rw [Nat.zero_add]; exact h1
    · rw [List.getElem_set_ne e] at hx
      exact g1 j hj x hx

theorem slot_ok (now : Int) (t : S45) (k : Nat) (h0 : 0 ≤ t.f0) (hr : now < t.f0 ∧ t.f0 < now + 512) (hi : 0 ≤ t.f1 ∧ t.f1 ≤ 1000) (hk : slotOf now t.f0 = (k : Int)) : okT now k t := by
  refine ⟨hi, ?_⟩
  unfold gOk
  rw [decide_eq_true hr, Bool.true_and]
  unfold slotOf at hk
  by_cases f1 : fitP now t.f0 1 = true
  · rw [if_pos f1] at hk
    have hk8 : k < 8 := by omega
    rw [show gP k = 1 by unfold gP; rw [if_pos hk8], f1, Bool.true_and, Int.ediv_one]
    exact decide_eq_true (by omega)
  · rw [if_neg f1] at hk
    by_cases f2 : fitP now t.f0 8 = true
    · rw [if_pos f2] at hk
      rw [show gP k = 8 by unfold gP; rw [if_neg (by omega), if_pos (by omega)], f2, Bool.true_and]
      exact decide_eq_true (by omega)
    · rw [if_neg f2] at hk
      by_cases f3 : fitP now t.f0 64 = true
      · rw [if_pos f3] at hk
        rw [show gP k = 64 by unfold gP; rw [if_neg (by omega), if_neg (by omega)], f3, Bool.true_and]
        exact decide_eq_true (by omega)
      · rw [if_neg f3] at hk
        omega

theorem good_val (now : Int) (L : List (List S45)) (ht : gTot L ≤ 1048576) (K : Nat) (hK : 3000000 ≤ K) : spec_GoodWheel.f K now L = some (decide (0 ≤ now ∧ now ≤ 100000) && (decide (L.length = 24) && gAll now 0 L [])) ∧ impl_GoodWheel.f K now L = some (decide (0 ≤ now ∧ now ≤ 100000) && (decide (L.length = 24) && gAll now 0 L [])) := by
  unfold spec_GoodWheel.f impl_GoodWheel.f impl_isNow.f
  rw [in_eq, l1In_eq]
  simp only [Option.bind_some]
  obtain ⟨q, rfl⟩ : ∃ q, K = q + 1 := ⟨K - 1, by omega⟩
  by_cases h : 0 ≤ now ∧ now ≤ 100000
  · rw [decide_eq_true h, if_pos rfl, if_pos rfl]
    simp only [spec_GoodWheel.j0]
    by_cases h2 : L.length = 24
    · have e1 := spec_all now h.1 h.2 L h2 24 (q - gTot L - 49) 0 [] (by omega) (by omega) (by omega) (by simpa using ht)
      have e2 := impl_all now h.1 h.2 L h2 24 (q + 1 - gTot L - 49) 0 [] (by omega) (by omega) (by omega) (by simpa using ht)
      rw [List.drop_zero] at e1 e2
      rw [show q - gTot L - 49 + gTot L + 2 * 24 + 1 = q by omega] at e1
      rw [show q + 1 - gTot L - 49 + gTot L + 2 * 24 + 1 = q + 1 by omega] at e2
      rw [decide_eq_true h2, Bool.true_and, Bool.true_and]
      refine ⟨?_, ?_⟩
      · rw [if_neg (by rw [h2]; decide)]; exact e1
      · rw [if_pos (by omega)]; exact e2
    · rw [decide_eq_false h2, Bool.false_and, Bool.and_false]
      refine ⟨?_, ?_⟩
      · rw [if_pos (by simp; omega)]
      · rw [if_neg (by omega)]
  · rw [decide_eq_false h]
    exact ⟨by simp [spec_GoodWheel.j0], by simp⟩

def conv (x : S43) : S45 := ⟨x.f0, x.f1⟩
def gTot3 : List (List S43) → Nat
  | [] => 0
  | row :: r => row.length + gTot3 r
theorem set_take {α : Type} (acc : List α) (v : α) (j : Nat) (h : j < acc.length) : (acc.set j v).take (j + 1) = acc.take j ++ [v] := by
  rw [List.take_succ_eq_append_getElem (by simpa using h), List.getElem_set_self]
  simp [List.take_set_of_le]
theorem rd43_at (l : List S43) (j : Nat) : rd_T43 l (j : Int) = l.getD j z43 := by unfold rd_T43; rw [Int.toNat_natCast]
theorem drop43 (l : List S43) (j : Nat) (h : j < l.length) : l.drop j = l.getD j z43 :: l.drop (j + 1) := by
  rw [List.drop_eq_getElem_cons h, List.getD_eq_getElem?_getD, List.getElem?_eq_getElem h]; rfl
theorem rdL4_at (L : List (List S43)) (j : Nat) : rd_L4 L (j : Int) = L.getD j [] := by unfold rd_L4; rw [Int.toNat_natCast]
theorem dropL4 (L : List (List S43)) (j : Nat) (h : j < L.length) : L.drop j = L.getD j [] :: L.drop (j + 1) := by
  rw [List.drop_eq_getElem_cons h, List.getD_eq_getElem?_getD, List.getElem?_eq_getElem h]; rfl
theorem toS_loop (l : List S43) (hn : l.length ≤ 1048576) (d : Nat) : ∀ (k j : Nat) (acc : List S45), j ≤ l.length → l.length - j = d → d < k → acc.length = l.length → laws_toTimerS.l0 k l acc j = some (acc.take j ++ (l.drop j).map conv) := by
  induction d with
  | zero =>
    intro k j acc hj hd hk ha
    obtain ⟨k, rfl⟩ : ∃ m, k = m + 1 := ⟨k - 1, by omega⟩
    simp only [laws_toTimerS.l0]; rw [if_neg (by omega), List.drop_of_length_le (by omega), List.take_of_length_le (by omega)]; simp
  | succ d ih =>
    intro k j acc hj hd hk ha
    obtain ⟨k, rfl⟩ : ∃ m, k = m + 1 := ⟨k - 1, by omega⟩
    simp only [laws_toTimerS.l0, laws_toTimer.f]
    rw [if_pos (by omega), if_pos (by omega)]
    simp only [Option.bind_some]
    rw [if_pos (by omega), wrap_next (n := l.length) (by omega) (by omega), Int.toNat_natCast, rd43_at, ih k (j + 1) _ (by omega) (by omega) (by omega) (by simpa using ha), set_take _ _ _ (by omega), drop43 l j (by omega)]
    simp [conv]
theorem toS_eq (l : List S43) (hn : l.length ≤ 1048576) (k : Nat) (hk : 1048576 < k) : laws_toTimerS.f k l = some (l.map conv) := by
  unfold laws_toTimerS.f
  rw [if_pos (by omega), if_pos (by omega)]
  have := toS_loop l hn l.length k 0 (List.replicate ((l.length : Int) : Int).toNat z45) (by omega) (by omega) (by omega) (by simp)
  simpa using this
theorem len_tot (L : List (List S43)) (j : Nat) : (L.getD j []).length ≤ gTot3 L := by
  induction L generalizing j with
  | nil => simp
  | cons r R ih =>
    cases j with
    | zero => simp [gTot3]
    | succ j => have := ih j; simp [gTot3] at this ⊢; omega
theorem toSS_loop (l : List (List S43)) (hn : l.length ≤ 1048576) (ht : gTot3 l ≤ 1048576) (d : Nat) : ∀ (k j : Nat) (acc : List (List S45)), j ≤ l.length → l.length - j = d → d + 1048577 < k → acc.length = l.length → laws_toTimerSS.l0 k l acc j = some (acc.take j ++ (l.drop j).map (·.map conv)) := by
  induction d with
  | zero =>
    intro k j acc hj hd hk ha
    obtain ⟨k, rfl⟩ : ∃ m, k = m + 1 := ⟨k - 1, by omega⟩
    simp only [laws_toTimerSS.l0]; rw [if_neg (by omega), List.drop_of_length_le (by omega), List.take_of_length_le (by omega)]; simp
  | succ d ih =>
    intro k j acc hj hd hk ha
    obtain ⟨k, rfl⟩ : ∃ m, k = m + 1 := ⟨k - 1, by omega⟩
    simp only [laws_toTimerSS.l0]
    have hr := len_tot l j
    rw [if_pos (by omega), if_pos (by omega), rdL4_at, toS_eq _ (by omega) _ (by omega)]
    simp only [Option.bind_some]
    rw [if_pos (by omega), wrap_next (n := l.length) (by omega) (by omega), Int.toNat_natCast, ih k (j + 1) _ (by omega) (by omega) (by omega) (by simpa using ha), set_take _ _ _ (by omega), dropL4 l j (by omega)]
    simp
theorem toSS_eq (l : List (List S43)) (hn : l.length ≤ 1048576) (ht : gTot3 l ≤ 1048576) (k : Nat) (hk : 3000000 < k) : laws_toTimerSS.f k l = some (l.map (·.map conv)) := by
  unfold laws_toTimerSS.f
  rw [if_pos (by omega), if_pos (by omega)]
  have := toSS_loop l hn ht l.length k 0 (List.replicate ((l.length : Int) : Int).toNat []) (by omega) (by omega) (by omega) (by simp)
  simpa using this
theorem tot_conv : ∀ L : List (List S43), gTot (L.map (·.map conv)) = gTot3 L
  | [] => rfl
  | r :: R => by simp [gTot, gTot3, tot_conv R]
theorem eqS_loop (a : List S45) (hn : a.length ≤ 1048576) (d : Nat) : ∀ (k j : Nat), j ≤ a.length → a.length - j = d → d < k → laws_eqTimerS.l0 k a a j = some true := by
  induction d with
  | zero =>
    intro k j hj hd hk
    obtain ⟨k, rfl⟩ : ∃ m, k = m + 1 := ⟨k - 1, by omega⟩
    simp only [laws_eqTimerS.l0]; rw [if_neg (by omega)]
  | succ d ih =>
    intro k j hj hd hk
    obtain ⟨k, rfl⟩ : ∃ m, k = m + 1 := ⟨k - 1, by omega⟩
    simp only [laws_eqTimerS.l0]; rw [if_pos (by omega), if_pos (by omega), if_pos (by omega)]
    unfold laws_eqTimer.f
    simp only [if_true, Option.bind_some]
    rw [wrap_next (n := a.length) (by omega) (by omega)]
    exact ih k (j + 1) (by omega) (by omega) (by omega)
theorem eqS_self (a : List S45) (hn : a.length ≤ 1048576) (k : Nat) (hk : 1048576 < k) : laws_eqTimerS.f k a a = some true := by
  unfold laws_eqTimerS.f
  rw [if_pos rfl]
  exact eqS_loop a hn a.length k 0 (by omega) (by omega) (by omega)
theorem len_tot5 (L : List (List S45)) (j : Nat) : (L.getD j []).length ≤ gTot L := by
  induction L generalizing j with
  | nil => simp
  | cons r R ih =>
    cases j with
    | zero => simp [gTot]
    | succ j => have := ih j; simp [gTot] at this ⊢; omega
theorem eqSS_loop (a : List (List S45)) (hn : a.length ≤ 1048576) (ht : gTot a ≤ 1048576) (d : Nat) : ∀ (k j : Nat), j ≤ a.length → a.length - j = d → d + 1048577 < k → laws_eqTimerSS.l0 k a a j = some true := by
  induction d with
  | zero =>
    intro k j hj hd hk
    obtain ⟨k, rfl⟩ : ∃ m, k = m + 1 := ⟨k - 1, by omega⟩
    simp only [laws_eqTimerSS.l0]; rw [if_neg (by omega)]
  | succ d ih =>
    intro k j hj hd hk
    obtain ⟨k, rfl⟩ : ∃ m, k = m + 1 := ⟨k - 1, by omega⟩
    have hr := len_tot5 a j
    simp only [laws_eqTimerSS.l0]; rw [if_pos (by omega), if_pos (by omega), if_pos (by omega), rdL2_at, eqS_self _ (by omega) _ (by omega)]
    simp only [if_true, Option.bind_some]
    rw [wrap_next (n := a.length) (by omega) (by omega)]
    exact ih k (j + 1) (by omega) (by omega) (by omega)
theorem sz_loop (l : List (List S43)) (hn : l.length ≤ 1048576) (hr : ∀ y ∈ l, y.length ≤ 9223372036854775807) (d : Nat) : ∀ (k j : Nat) (a : Int), j ≤ l.length → l.length - j = d → d < k → 0 ≤ a → a ≤ 1048576 → ∃ r, laws_szTimerSS.l0 k l a j = some r ∧ (0 ≤ r → (gTot3 (l.drop j) : Int) ≤ a) := by
  induction d with
  | zero =>
    intro k j a hj hd hk h0 h1
    obtain ⟨k, rfl⟩ : ∃ m, k = m + 1 := ⟨k - 1, by omega⟩
    refine ⟨a, ?_, fun _ => ?_⟩
    · simp only [laws_szTimerSS.l0]; rw [if_neg (by omega)]
    · rw [List.drop_of_length_le (by omega)]; simpa [gTot3] using h0
  | succ d ih =>
    intro k j a hj hd hk h0 h1
    obtain ⟨k, rfl⟩ : ∃ m, k = m + 1 := ⟨k - 1, by omega⟩
    have hy : (l.getD j []).length ≤ 9223372036854775807 := by
      rw [List.getD_eq_getElem?_getD, List.getElem?_eq_getElem (by omega)]; exact hr _ (List.getElem_mem _)
    simp only [laws_szTimerSS.l0, laws_szTimerS.f]
    rw [if_pos (by omega), if_pos (by omega), rdL4_at, dropL4 l j (by omega), wrap_next (n := l.length) (by omega) (by omega)]
    simp only [gTot3]
    generalize l.getD j [] = row at hy ⊢
    rw [wrap_small (x := a - (row.length : Int)) (by omega) (by omega)]
    by_cases c : a - (row.length : Int) < 0
    · rw [if_pos c]; exact ⟨-1, by simp, fun h => absurd h (by decide)⟩
    · rw [if_neg c]
      simp only [Option.bind_some]
      rw [if_neg c]
      obtain ⟨r, h2, h3⟩ := ih k (j + 1) (a - row.length) (by omega) (by omega) (by omega) (by omega) (by omega)
      exact ⟨r, h2, fun h => by have := h3 h; omega⟩
theorem sz_wheel (l : List (List S43)) (a0 : Int) (hl : l.length ≤ 9223372036854775807) (hr : ∀ y ∈ l, y.length ≤ 9223372036854775807) (k : Nat) (hk : 1048576 < k) : ∃ r, laws_szWheel.f k a0 l 1048576 = some r ∧ (0 ≤ r → l.length ≤ 1048576 ∧ gTot3 l ≤ 1048576) := by
  unfold laws_szWheel.f laws_szTimerSS.f
  rw [wrap_small (x := 1048576 - (l.length : Int)) (by omega) (by omega)]
  by_cases c : 1048576 - (l.length : Int) < 0
  · rw [if_pos c]; exact ⟨-1, by simp, fun h => absurd h (by decide)⟩
  · rw [if_neg c]
    obtain ⟨r, h2, h3⟩ := sz_loop l (by omega) hr l.length k 0 (1048576 - l.length) (by omega) (by omega) (by omega) (by omega) (by omega)
    rw [show ((0 : Nat) : Int) = 0 from rfl] at h2
    rw [h2]
    simp only [Option.bind_some]
    by_cases c2 : r < 0
    · rw [if_pos c2]; exact ⟨-1, rfl, fun h => absurd h (by decide)⟩
    · rw [if_neg c2]; exact ⟨r, rfl, fun h => ⟨by omega, by have := h3 h; rw [List.drop_zero] at this; omega⟩⟩

theorem tot_flat : ∀ L : List (List S45), gTot L = L.flatten.length
  | [] => rfl
  | r :: R => by simp [gTot, tot_flat R]
/-- what a mark leaves of a row, of rows -/
def mkT (a : Int) : List S45 → List S45
  | [] => []
  | _ :: l => ⟨a, a + 1⟩ :: mkT (a + 2) l
theorem mkT_length : ∀ (l : List S45) (a : Int), (mkT a l).length = l.length
  | [], _ => rfl
  | _ :: l, a => by simp [mkT, mkT_length l]
def mkTT (a : Int) : List (List S45) → List (List S45)
  | [] => []
  | r :: L => mkT a r :: mkTT (a + 2 * (r.length : Int)) L
theorem markT_loop : ∀ (l : List S45) (k : Nat) (acc : List S45) (a : Int), acc.length + l.length ≤ 140737488351232 → 0 ≤ a → a + 2 * (l.length : Int) ≤ 1000000000000000000 → l.length < k →
    laws_markTimerS.l0 k (acc ++ l) a (acc.length : Int) = some (a + 2 * (l.length : Int), acc ++ mkT a l)
  | [], k, acc, a, h1, h2, h3, hk => by
    obtain ⟨k, rfl⟩ : ∃ m, k = m + 1 := ⟨k - 1, by omega⟩
    simp only [laws_markTimerS.l0]
    rw [if_neg (by simp)]
    simp [mkT]
  | x :: l, k, acc, a, h1, h2, h3, hk => by
    simp only [List.length_cons] at h1 h3 hk
    obtain ⟨k, rfl⟩ : ∃ m, k = m + 1 := ⟨k - 1, by omega⟩
    simp only [laws_markTimerS.l0, Option.bind_some]
    rw [if_pos (by simp; omega), if_pos (by omega), Int.toNat_natCast, rd45_at, rd45_at]
    have e1 : (acc ++ x :: l).set acc.length (⟨a, ((acc ++ x :: l).getD acc.length z45).f1⟩ : S45) = acc ++ ⟨a, x.f1⟩ :: l := by simp
    rw [e1]
    have e2 : (acc ++ (⟨a, x.f1⟩ : S45) :: l).set acc.length (⟨((acc ++ (⟨a, x.f1⟩ : S45) :: l).getD acc.length z45).f0, wrap64 (a + 1)⟩ : S45) = (acc ++ [⟨a, a + 1⟩]) ++ l := by
      rw [wrap_small (x := a + 1) (by omega) (by omega)]; simp
    have ih := markT_loop l k (acc ++ [⟨a, a + 1⟩]) (a + 2) (by simp; omega) (by omega) (by omega) (by omega)
    rw [e2, wrap_small (x := a + 1) (by omega) (by omega), wrap_small (x := a + 1 + 1) (by omega) (by omega), wrap_next (n := acc.length + (l.length + 1)) (by omega) (by omega), show a + 1 + 1 = a + 2 by omega]
    rw [List.length_append, List.length_singleton] at ih
    rw [ih]
    simp only [mkT, List.append_assoc, List.singleton_append, List.length_cons]
    congr 2
    omega
theorem markT_eq (l : List S45) (k : Nat) (a : Int) (h1 : l.length ≤ 1048640) (h2 : 0 ≤ a) (h3 : a ≤ 100000000000) (hk : 1048640 < k) : laws_markTimerS.f k l a = some (a + 2 * (l.length : Int), mkT a l) := by
  have := markT_loop l k [] a (by simp; omega) h2 (by omega) (by omega)
  simpa [laws_markTimerS.f] using this
theorem markTT_eq (k : Nat) (hk : 1048640 < k) : ∀ (L : List (List S45)) (a : Int), gTot L ≤ 1048640 → 0 ≤ a → a + 2 * (gTot L : Int) ≤ 100000000000 → markTTGo k L a = some (a + 2 * (gTot L : Int), mkTT a L)
  | [], a, _, _, _ => by simp [markTTGo, gTot, mkTT]
  | r :: L, a, h1, h2, h3 => by
    simp only [gTot] at h1 h3
    simp only [markTTGo]
    rw [markT_eq r k a (by omega) h2 (by omega) hk]
    simp only [Option.bind_some]
    rw [markTT_eq k hk L (a + 2 * (r.length : Int)) (by omega) (by omega) (by omega)]
    simp only [Option.bind_some, mkTT, gTot]
    congr 2
    omega
theorem heldT_loop : ∀ (l : List S45) (k : Nat) (acc : List S45) (a : Int), acc.length + l.length ≤ 140737488351232 → 0 ≤ a → a + 2 * (l.length : Int) ≤ 1000000000000000000 → l.length < k →
    laws_heldTimerS.l0 k (acc ++ mkT a l) a (acc.length : Int) = some (a + 2 * (l.length : Int))
  | [], k, acc, a, h1, h2, h3, hk => by
    obtain ⟨k, rfl⟩ : ∃ m, k = m + 1 := ⟨k - 1, by omega⟩
    rw [show mkT a [] = [] from rfl]
    simp only [laws_heldTimerS.l0]
    rw [if_neg (by simp)]
    simp
  | x :: l, k, acc, a, h1, h2, h3, hk => by
    simp only [List.length_cons] at h1 h3 hk
    obtain ⟨k, rfl⟩ : ∃ m, k = m + 1 := ⟨k - 1, by omega⟩
    rw [show mkT a (x :: l) = ⟨a, a + 1⟩ :: mkT (a + 2) l from rfl]
    simp only [laws_heldTimerS.l0]
    rw [if_pos (by simp; omega), if_pos (by omega), rd45_at]
    have e1 : (acc ++ (⟨a, a + 1⟩ : S45) :: mkT (a + 2) l).getD acc.length z45 = ⟨a, a + 1⟩ := by simp
    have ih := heldT_loop l k (acc ++ [⟨a, a + 1⟩]) (a + 2) (by simp; omega) (by omega) (by omega) (by omega)
    rw [List.length_append, List.length_singleton, List.append_assoc, List.singleton_append] at ih
    rw [e1, if_pos rfl, wrap_small (x := a + 1) (by omega) (by omega), if_pos rfl, wrap_small (x := a + 1 + 1) (by omega) (by omega), wrap_next (n := acc.length + (l.length + 1)) (by omega) (by omega), show a + 1 + 1 = a + 2 by omega, ih]
    congr 1
    simp only [List.length_cons]
    omega
theorem heldT_eq (l : List S45) (k : Nat) (a : Int) (h1 : l.length ≤ 1048640) (h2 : 0 ≤ a) (h3 : a ≤ 100000000000) (hk : 1048640 < k) : laws_heldTimerS.f k (mkT a l) a = some (a + 2 * (l.length : Int)) := by
  have := heldT_loop l k [] a (by simp; omega) h2 (by omega) (by omega)
  simpa [laws_heldTimerS.f] using this
theorem mkTT_length : ∀ (L : List (List S45)) (a : Int), (mkTT a L).length = L.length
  | [], _ => rfl
  | r :: L, a => by simp [mkTT, mkTT_length L]

theorem eqW_self (n : Int) (L : List (List S45)) (h1 : L.length ≤ 1048576) (h2 : gTot L ≤ 1048576) (k : Nat) (hk : 3000000 < k) : laws_eqWheel.f k n L n L = some true := by
  unfold laws_eqWheel.f laws_eqTimerSS.f
  rw [if_pos rfl, if_pos rfl]
  have := eqSS_loop L h1 h2 L.length k 0 (by omega) rfl (by omega)
  rw [show ((0 : Nat) : Int) = 0 from rfl] at this
  rw [this]
  rfl

theorem heldTT_loop : ∀ (L : List (List S45)) (k : Nat) (acc : List (List S45)) (a : Int), acc.length + L.length ≤ 1048640 → gTot L ≤ 1048640 → 0 ≤ a → a + 2 * (gTot L : Int) ≤ 100000000000 → 1048641 + L.length < k →
    laws_heldTimerSS.l0 k (acc ++ mkTT a L) a (acc.length : Int) = some (a + 2 * (gTot L : Int))
  | [], k, acc, a, h1, h4, h2, h3, hk => by
    obtain ⟨k, rfl⟩ : ∃ m, k = m + 1 := ⟨k - 1, by omega⟩
    rw [show mkTT a [] = [] from rfl]
    simp only [laws_heldTimerSS.l0]
    rw [if_neg (by simp)]
    simp [gTot]
  | r :: L, k, acc, a, h1, h4, h2, h3, hk => by
    simp only [gTot, List.length_cons] at h1 h3 h4 hk
    obtain ⟨k, rfl⟩ : ∃ m, k = m + 1 := ⟨k - 1, by omega⟩
    rw [show mkTT a (r :: L) = mkT a r :: mkTT (a + 2 * (r.length : Int)) L from rfl]
    simp only [laws_heldTimerSS.l0]
    rw [if_pos (by simp; omega), if_pos (by omega), rdL2_at]
    have e1 : (acc ++ mkT a r :: mkTT (a + 2 * (r.length : Int)) L).getD acc.length [] = mkT a r := by simp
    have ih := heldTT_loop L k (acc ++ [mkT a r]) (a + 2 * (r.length : Int)) (by simp; omega) (by omega) (by omega) (by omega) (by omega)
    rw [List.length_append, List.length_singleton, List.append_assoc, List.singleton_append] at ih
    rw [e1, heldT_eq r k a (by omega) h2 (by omega) (by omega)]
    simp only [Option.bind_some]
    rw [if_neg (by omega), wrap_next (n := acc.length + (L.length + 1)) (by omega) (by omega), ih]
    congr 1
    simp only [gTot]
    omega
theorem heldTT_eq (n : Int) (L : List (List S45)) (k : Nat) (a : Int) (h1 : L.length ≤ 1048640) (h4 : gTot L ≤ 1048640) (h2 : 0 ≤ a) (h3 : a + 2 * (gTot L : Int) ≤ 100000000000) (hk : 3000000 < k) : laws_heldWheel.f k n (mkTT a L) a = some (a + 2 * (gTot L : Int)) := by
  unfold laws_heldWheel.f laws_heldTimerSS.f
  have := heldTT_loop L k [] a (by simp; omega) h4 h2 h3 (by omega)
  rw [List.nil_append, show (([] : List (List S45)).length : Int) = 0 from rfl] at this
  rw [this]
  simp only [Option.bind_some]
  rw [if_neg (by omega)]

theorem eqIntS_loop (a b : List Int) (hn : a.length ≤ 140737488351232) (hab : a.length = b.length) (d : Nat) : ∀ (k j : Nat), j ≤ a.length → a.length - j = d → d < k →
    laws_eqIntS.l0 k a b j = some (decide (a.drop j = b.drop j)) := by
  induction d with
  | zero =>
    intro k j hj hd hk
    obtain ⟨k, rfl⟩ : ∃ m, k = m + 1 := ⟨k - 1, by omega⟩
    simp only [laws_eqIntS.l0]; rw [if_neg (by omega), List.drop_of_length_le (by omega), List.drop_of_length_le (by omega)]; simp
  | succ d ih =>
    intro k j hj hd hk
    obtain ⟨k, rfl⟩ : ∃ m, k = m + 1 := ⟨k - 1, by omega⟩
    simp only [laws_eqIntS.l0]; rw [if_pos (by omega), if_pos (by omega), if_pos (by omega), wrap_next (n := a.length) (by omega) hn, rd_at, rd_at, drop_at a j (by omega), drop_at b j (by omega)]
    by_cases h : a.getD j 0 = b.getD j 0
    · rw [if_pos h, ih k (j + 1) (by omega) (by omega) (by omega)]; simp only [List.cons.injEq, h, true_and]
    · rw [if_neg h]; simp only [List.cons.injEq, h, false_and, decide_false]

theorem eqIntS_eq (a b : List Int) (hn : a.length ≤ 140737488351232) (k : Nat) (hk : a.length < k) : laws_eqIntS.f k a b = some (decide (a = b)) := by
  unfold laws_eqIntS.f
  by_cases h : a.length = b.length
  · rw [if_pos (by omega)]
    have := eqIntS_loop a b hn h a.length k 0 (by omega) (by omega) hk
    simpa using this
  · rw [if_neg (by omega), decide_eq_false (fun e => h (by rw [e]))]

theorem eqIntS_self (a : List Int) (hn : a.length ≤ 140737488351232) (k : Nat) (hk : a.length < k) : laws_eqIntS.f k a a = some true := by
  rw [eqIntS_eq a a hn k hk]; simp

/-- the numbers v, v + 1, .. -/
def run (v : Int) : Nat → List Int
  | 0 => []
  | n + 1 => v :: run (v + 1) n

theorem run_length (n : Nat) : ∀ v, (run v n).length = n := by
  induction n with
  | zero => intro v; rfl
  | succ n ih => intro v; simp [run, ih]

theorem markIntS_loop (d : Nat) : ∀ (k j : Nat) (v : Int) (l : List Int), l.length ≤ 140737488351232 → 0 ≤ v → v + d ≤ 1000000000000000000 → j ≤ l.length → l.length - j = d → d < k →
    laws_markIntS.l0 k l v j = some (v + d, l.take j ++ run v d) := by
  induction d with
  | zero =>
    intro k j v l hn hv0 hv1 hj hd hk
    obtain ⟨k, rfl⟩ : ∃ m, k = m + 1 := ⟨k - 1, by omega⟩
    simp only [laws_markIntS.l0]; rw [if_neg (by omega), List.take_of_length_le (by omega)]; simp [run]
  | succ d ih =>
    intro k j v l hn hv0 hv1 hj hd hk
    obtain ⟨k, rfl⟩ : ∃ m, k = m + 1 := ⟨k - 1, by omega⟩
    simp only [laws_markIntS.l0]; rw [if_pos (by omega), if_pos (by omega), wrap_next (n := l.length) (by omega) hn, wrap_small (x := v + 1) (by omega) (by omega), Int.toNat_natCast]
    rw [ih k (j + 1) (v + 1) (l.set j v) (by rw [List.length_set]; exact hn) (by omega) (by omega) (by rw [List.length_set]; omega) (by rw [List.length_set]; omega) (by omega)]
    congr 2
    · omega
    · rw [List.take_succ_eq_append_getElem (by rw [List.length_set]; omega), List.getElem_set_self, List.take_set_of_le (by omega)]; simp [run]

theorem markIntS_eq (l : List Int) (v : Int) (hn : l.length ≤ 140737488351232) (hv0 : 0 ≤ v) (hv1 : v ≤ 500000000000000000) (k : Nat) (hk : l.length < k) :
    laws_markIntS.f k l v = some (v + l.length, run v l.length) := by
  unfold laws_markIntS.f
  have := markIntS_loop l.length k 0 v l hn hv0 (by omega) (by omega) (by omega) hk
  simpa using this

theorem heldIntS_loop (d : Nat) : ∀ (k : Nat) (v : Int) (p : List Int), p.length + d ≤ 140737488351232 → 0 ≤ v → v + d ≤ 1000000000000000000 → d < k →
    laws_heldIntS.l0 k (p ++ run v d) v p.length = some (v + d) := by
  induction d with
  | zero =>
    intro k v p hn hv0 hv1 hk
    obtain ⟨k, rfl⟩ : ∃ m, k = m + 1 := ⟨k - 1, by omega⟩
    simp only [laws_heldIntS.l0]; rw [if_neg (by simp [run])]; simp
  | succ d ih =>
    intro k v p hn hv0 hv1 hk
    obtain ⟨k, rfl⟩ : ∃ m, k = m + 1 := ⟨k - 1, by omega⟩
    have hl : (p ++ run v (d + 1)).length = p.length + (d + 1) := by rw [List.length_append, run_length]
    have hg : (p ++ run v (d + 1)).getD p.length 0 = v := by simp [run]
    simp only [laws_heldIntS.l0]; rw [if_pos (by omega), if_pos (by omega), rd_at, hg, if_pos rfl, wrap_next (n := p.length + (d + 1)) (by omega) hn, wrap_small (x := v + 1) (by omega) (by omega)]
    have := ih k (v + 1) (p ++ [v]) (by simp; omega) (by omega) (by omega) (by omega)
    simp only [List.append_assoc, List.length_append, List.length_singleton, List.singleton_append] at this
    rw [show run v (d + 1) = v :: run (v + 1) d from rfl, this]
    congr 1; omega

theorem heldIntS_eq (v : Int) (n : Nat) (hn : n ≤ 140737488351232) (hv0 : 0 ≤ v) (hv1 : v ≤ 500000000000000000) (k : Nat) (hk : n < k) :
    laws_heldIntS.f k (run v n) v = some (v + n) := by
  unfold laws_heldIntS.f
  have := heldIntS_loop n k v [] (by simpa using hn) hv0 (by omega) hk
  simpa using this

def Gt (now x : Int) : Prop := 0 ≤ x ∧ x ≤ 1000000 ∧ (x = now ∨ 0 ≤ slotOf now x)
theorem flat_out : ∀ (L : List (List S45)) (i : Nat) (h : i < L.length), L.flatten.Perm (L[i] ++ (L.set i []).flatten)
  | row :: L, 0, _ => by simp
  | row :: L, i + 1, h => by
    simp only [List.flatten_cons, List.set_cons_succ, List.getElem_cons_succ]
    refine ((flat_out L i (by simpa using h)).append_left row).trans ?_
    rw [← List.append_assoc, ← List.append_assoc]
    exact List.perm_append_comm.append_right _
theorem ins_at : ∀ (ds : List Int) (x : Int), ds.Pairwise (· ≤ ·) → ∃ j, j ≤ ds.length ∧ (∀ i, i < j → rd ds (i : Int) < x) ∧ (j < ds.length → ¬ rd ds (j : Int) < x) ∧ (ds.take j ++ [x] ++ ds.drop j).Pairwise (· ≤ ·)
  | [], x, _ => ⟨0, Nat.le_refl _, fun i h => absurd h (Nat.not_lt_zero _), fun h => absurd h (Nat.lt_irrefl _), by simp⟩
  | y :: ds, x, h => by
    rw [List.pairwise_cons] at h
    by_cases hy : y < x
    · obtain ⟨j, h1, h2, h3, h4⟩ := ins_at ds x h.2
      refine ⟨j + 1, by simpa using h1, fun i hi => ?_, fun hj => ?_, ?_⟩
      · cases i with
        | zero => simpa [rd] using hy
        | succ i => have := h2 i (by omega); simpa [rd] using this
      · have := h3 (by simpa using hj); simpa [rd] using this
      · simp only [List.take_succ_cons, List.cons_append, List.drop_succ_cons, List.pairwise_cons]
        refine ⟨fun z hz => ?_, h4⟩
        simp only [List.append_assoc, List.mem_append, List.mem_cons, List.not_mem_nil, or_false] at hz
        rcases hz with hz | rfl | hz
        · exact h.1 z (List.mem_of_mem_take hz)
        · omega
        · exact h.1 z (List.mem_of_mem_drop hz)
    · refine ⟨0, Nat.zero_le _, fun i hi => absurd hi (Nat.not_lt_zero _), fun _ => by simpa [rd] using hy, ?_⟩
      simp only [List.take_zero, List.nil_append, List.drop_zero, List.singleton_append, List.pairwise_cons, List.mem_cons]
      refine ⟨fun z hz => ?_, h.1, h.2⟩
      rcases hz with rfl | hz
      · omega
      · have := h.1 z hz; omega
theorem putInt_loop (ds : List Int) (x : Int) (j : Nat) (hj : j ≤ ds.length) (hn : ds.length ≤ 1000) (h1 : ∀ i, i < j → rd ds (i : Int) < x) (h2 : j < ds.length → ¬ rd ds (j : Int) < x) (d : Nat) : ∀ (k i : Nat), i ≤ j → j - i = d → d < k → spec_l5PutInt.l0 k ds x (i : Int) = some (ds.take j ++ [x] ++ ds.drop j) := by
  induction d with
  | zero =>
    intro k i hi hd hk
    obtain ⟨k, rfl⟩ : ∃ q, k = q + 1 := ⟨k - 1, by omega⟩
    obtain rfl : i = j := by omega
    unfold spec_l5PutInt.l0
    have ht : (ds.take i).length ≤ 1000 := by rw [List.length_take]; omega
    have hdl : (ds.drop i).length ≤ 1000 := by rw [List.length_drop]; omega
    by_cases hl : i < ds.length
    · rw [if_pos (by omega), if_pos (by omega), if_neg (h2 hl), if_pos (by omega), Int.toNat_natCast]
      try simp only [List.length_nil, List.nil_append, Nat.zero_add]
      rw [if_pos (by omega)]
      simp only [Option.bind_some]
      rw [if_pos (by omega)]
      try simp only [Option.bind_some]
      rw [if_pos (by simp only [List.length_append, List.length_cons, List.length_nil]; omega)]
    · rw [if_neg (by omega), if_pos (by omega), if_pos (by omega), Int.toNat_natCast]
      try simp only [List.length_nil, List.nil_append, Nat.zero_add]
      rw [if_pos (by omega)]
      simp only [Option.bind_some]
      rw [if_pos (by omega)]
      try simp only [Option.bind_some]
      rw [if_pos (by simp only [List.length_append, List.length_cons, List.length_nil]; omega)]
  | succ d ih =>
    intro k i hi hd hk
    obtain ⟨k, rfl⟩ : ∃ q, k = q + 1 := ⟨k - 1, by omega⟩
    unfold spec_l5PutInt.l0
    rw [if_pos (by omega), if_pos (by omega), if_pos (h1 i (by omega)), wrap_small (by omega) (by omega)]
    exact ih k (i + 1) (by omega) (by omega) (by omega)
theorem putInt_eq (ds : List Int) (x : Int) (hn : ds.length ≤ 1000) (hs : ds.Pairwise (· ≤ ·)) (k : Nat) (hk : 1001 ≤ k) : ∃ ds', spec_l5PutInt.f k ds x = some ds' ∧ ds'.Perm (x :: ds) ∧ ds'.Pairwise (· ≤ ·) := by
  obtain ⟨j, h1, h2, h3, h4⟩ := ins_at ds x hs
  refine ⟨_, putInt_loop ds x j h1 hn h2 h3 j k 0 (Nat.zero_le _) rfl (by omega), ?_, h4⟩
  have h5 : (ds.take j ++ [x] ++ ds.drop j).Perm (x :: (ds.take j ++ ds.drop j)) := by
    rw [List.append_assoc]; exact List.perm_middle
  rw [List.take_append_drop] at h5
  exact h5
theorem row_le (L : List (List S45)) (i : Nat) (h : i < L.length) : L[i].length + (L.set i []).flatten.length = L.flatten.length := by
  have := (flat_out L i h).length_eq
  rw [List.length_append] at this
  omega
theorem getD_at (L : List (List S45)) (i : Nat) (h : i < L.length) : L.getD i [] = L[i] := by rw [List.getD_eq_getElem?_getD, List.getElem?_eq_getElem h]; rfl
section
variable {ps : List Int → Int → Option (List Int)} {ss si : Int → Option Int} {now : Int}
theorem run_put (hps : ∀ ds x, ds.length ≤ 1000 → ds.Pairwise (· ≤ ·) → ∃ ds', ps ds x = some ds' ∧ ds'.Perm (x :: ds) ∧ ds'.Pairwise (· ≤ ·)) (hss : ∀ x, Gt now x → x ≠ now → ∃ s, ss x = some s ∧ si x = some s ∧ 0 ≤ s ∧ s < 24) :
    ∀ (r : List S45) (L : List (List S45)) (ds di : List Int) (cs ci : Int), (∀ t ∈ r, Gt now t.f0) → (∀ t ∈ L.flatten, Gt now t.f0) → L.length = 24 → L.flatten.length + r.length + di.length ≤ 1000 → ds.Perm di → ds.Pairwise (· ≤ ·) → 0 ≤ cs → cs + r.length ≤ 100000000 → 0 ≤ ci → ci + r.length ≤ 100000000 →
      ∃ L' ds' di' ci', tkPut ps ss true now r L ds cs = some (L', ds', cs + r.length) ∧ tkPut imPut si false now r L di ci = some (L', di', ci') ∧ (∀ t ∈ L'.flatten, Gt now t.f0) ∧ L'.length = 24 ∧ L'.flatten.length + di'.length = L.flatten.length + r.length + di.length ∧ ds'.Perm di' ∧ ds'.Pairwise (· ≤ ·) ∧ ci' + di'.length = ci + di.length + r.length ∧ 0 ≤ ci'
  | [], L, ds, di, cs, ci, _, hL, h24, _, hp, hs, _, _, hc, _ => ⟨L, ds, di, ci, by simp [tkPut], by simp [tkPut], hL, h24, by simp, hp, hs, by simp, hc⟩
  | t :: r, L, ds, di, cs, ci, hr, hL, h24, hb, hp, hs, c1, c2, c3, c4 => by
    simp only [List.length_cons] at hb c2 c4
    have hdl := hp.length_eq
    have hr2 : ∀ t ∈ r, Gt now t.f0 := fun x hx => hr x (List.mem_cons_of_mem _ hx)
    simp only [tkPut, Bool.false_eq_true, if_false, if_true]
    by_cases hd : t.f0 = now
    · rw [if_pos hd, if_pos hd]
      obtain ⟨d1, e1, e2, e3⟩ := hps ds t.f1 (by omega) hs
      rw [e1]
      unfold imPut
      rw [if_pos (by omega)]
      simp only [Option.bind_some]
      rw [wrap_small (by omega) (by omega)]
      obtain ⟨L', ds', di', ci', f1, f2, f3, f4, f5, f6, f7, f8, f9⟩ := run_put hps hss r L d1 (di ++ [t.f1]) (cs + 1) ci hr2 hL h24 (by simp only [List.length_append, List.length_cons, List.length_nil]; omega) (e2.trans ((hp.cons t.f1).trans (List.perm_append_singleton t.f1 di).symm)) e3 (by omega) (by omega) c3 (by omega)
      simp only [List.length_append, List.length_cons, List.length_nil] at f5 f8
      refine ⟨L', ds', di', ci', by rw [f1]; congr 3; simp only [List.length_cons]; omega, f2, f3, f4, by simp only [List.length_cons]; omega, f6, f7, by simp only [List.length_cons]; omega, f9⟩
    · rw [if_neg hd, if_neg hd]
      obtain ⟨s, e1, e2, e3, e4⟩ := hss t.f0 (hr t List.mem_cons_self) hd
      rw [e1, e2]
      simp only [Option.bind_some]
      obtain ⟨i, rfl⟩ : ∃ i : Nat, s = i := ⟨s.toNat, by omega⟩
      rw [Int.toNat_natCast]
      have hi : i < L.length := by omega
      have hrl := row_le L i hi
      rw [getD_at L i hi, if_pos ⟨e3, by omega, by omega⟩, if_pos ⟨e3, by omega, by omega⟩, wrap_small (by omega) (by omega), wrap_small (by omega) (by omega)]
      have hfp := flat_set L i hi t
      have hfl := hfp.length_eq
      simp only [List.length_cons] at hfl
      obtain ⟨L', ds', di', ci', f1, f2, f3, f4, f5, f6, f7, f8, f9⟩ := run_put hps hss r (L.set i (L[i] ++ [t])) ds di (cs + 1) (ci + 1) hr2 (fun x hx => by
        have h2 := hfp.mem_iff.1 hx
        rw [List.mem_cons] at h2
        rcases h2 with rfl | h2
        · exact hr _ List.mem_cons_self
        · exact hL x h2) (by rw [List.length_set]; exact h24) (by omega) hp hs (by omega) (by omega) (by omega) (by omega)
      refine ⟨L', ds', di', ci', by rw [f1]; congr 3; simp only [List.length_cons]; omega, f2, f3, f4, by simp only [List.length_cons]; omega, f6, f7, by simp only [List.length_cons]; omega, f9⟩
theorem run_due (hps : ∀ ds x, ds.length ≤ 1000 → ds.Pairwise (· ≤ ·) → ∃ ds', ps ds x = some ds' ∧ ds'.Perm (x :: ds) ∧ ds'.Pairwise (· ≤ ·)) :
    ∀ (r : List S45) (ds di : List Int) (cs ci : Int), r.length + di.length ≤ 1000 → ds.Perm di → ds.Pairwise (· ≤ ·) → 0 ≤ cs → cs + r.length ≤ 100000000 →
      ∃ ds' di', tkDue ps true r ds cs = some (ds', cs + r.length) ∧ tkDue imPut false r di ci = some (di', ci) ∧ di'.length = r.length + di.length ∧ ds'.Perm di' ∧ ds'.Pairwise (· ≤ ·)
  | [], ds, di, cs, ci, _, hp, hs, _, _ => ⟨ds, di, by simp [tkDue], by simp [tkDue], by simp, hp, hs⟩
  | t :: r, ds, di, cs, ci, hb, hp, hs, c1, c2 => by
    simp only [List.length_cons] at hb c2
    have hdl := hp.length_eq
    simp only [tkDue, Bool.false_eq_true, if_false, if_true]
    obtain ⟨d1, e1, e2, e3⟩ := hps ds t.f1 (by omega) hs
    rw [e1]
    unfold imPut
    rw [if_pos (by omega)]
    simp only [Option.bind_some]
    rw [wrap_small (by omega) (by omega)]
    obtain ⟨ds', di', f1, f2, f3, f4, f5⟩ := run_due hps r d1 (di ++ [t.f1]) (cs + 1) ci (by simp only [List.length_append, List.length_cons, List.length_nil]; omega) (e2.trans ((hp.cons t.f1).trans (List.perm_append_singleton t.f1 di).symm)) e3 (by omega) (by omega)
    simp only [List.length_append, List.length_cons, List.length_nil] at f3
    exact ⟨ds', di', by rw [f1]; congr 2; simp only [List.length_cons]; omega, f2, by simp only [List.length_cons]; omega, f4, f5⟩
end

theorem gt_of (n : Int) (n0 : 0 ≤ n) (n1 : n ≤ 100000) (i : Nat) (hi : i < 24) (t : S45) (h : okT n i t) : Gt (n + 1) t.f0 := by
  obtain ⟨_, h2⟩ := h
  unfold gOk at h2
  simp only [Bool.and_eq_true, decide_eq_true_eq] at h2
  obtain ⟨⟨⟨h3, h4⟩, h5⟩, _⟩ := h2
  refine ⟨by omega, by omega, ?_⟩
  by_cases he : t.f0 = n + 1
  · exact .inl he
  · refine .inr ?_
    unfold fitP at h5
    simp only [decide_eq_true_eq] at h5
    unfold slotOf fitP
    simp only [decide_eq_true_eq]
    split
    · omega
    split
    · omega
    split
    · omega
    · rename_i q1 q2 q3
      exfalso
      unfold gP at h5
      split at h5
      · omega
      split at h5 <;> omega
section
variable {ps : List Int → Int → Option (List Int)} {ss si : Int → Option Int} {now : Int}
theorem run_lev (hps : ∀ ds x, ds.length ≤ 1000 → ds.Pairwise (· ≤ ·) → ∃ ds', ps ds x = some ds' ∧ ds'.Perm (x :: ds) ∧ ds'.Pairwise (· ≤ ·)) (hss : ∀ x, Gt now x → x ≠ now → ∃ s, ss x = some s ∧ si x = some s ∧ 0 ≤ s ∧ s < 24)
    {rs ri sas sai : Int → Option Int} (lev : Int) (hrem : ∃ q, rs lev = some q ∧ ri lev = some q) (hsat : ∃ s, sas lev = some s ∧ sai lev = some s ∧ 0 ≤ s ∧ s < 24) (L : List (List S45)) (ds di : List Int) (cs ci : Int) (hL : ∀ t ∈ L.flatten, Gt now t.f0) (h24 : L.length = 24) (hb : L.flatten.length + di.length ≤ 1000) (hp : ds.Perm di) (hs : ds.Pairwise (· ≤ ·)) (c1 : 0 ≤ cs) (c2 : cs ≤ 10000000) (c3 : 0 ≤ ci) (c4 : ci ≤ 10000000) :
    ∃ L' ds' di' cs' ci', tkLev ps ss true now rs sas lev L ds cs = some (L', ds', cs') ∧ tkLev imPut si false now ri sai lev L di ci = some (L', di', ci') ∧ (∀ t ∈ L'.flatten, Gt now t.f0) ∧ L'.length = 24 ∧ L'.flatten.length + di'.length = L.flatten.length + di.length ∧ ds'.Perm di' ∧ ds'.Pairwise (· ≤ ·) ∧ cs' - (ci' + di'.length) = cs - (ci + di.length) ∧ 0 ≤ cs' ∧ cs' ≤ cs + 1000 ∧ 0 ≤ ci' ∧ ci' ≤ ci + 2000 := by
  obtain ⟨q, r1, r2⟩ := hrem
  obtain ⟨s, s1, s2, s3, s4⟩ := hsat
  unfold tkLev
  rw [r1, r2]
  simp only [Option.bind_some]
  by_cases hq : q = 0
  · rw [if_pos hq, if_pos hq, s1, s2]
    simp only [Option.bind_some]
    obtain ⟨i, rfl⟩ : ∃ i : Nat, s = i := ⟨s.toNat, by omega⟩
    rw [Int.toNat_natCast]
    have hi : i < L.length := by omega
    have hrl := row_le L i hi
    rw [getD_at L i hi, if_pos ⟨s3, by omega, by omega⟩, if_pos ⟨s3, by omega, by omega⟩]
    have hfp := flat_out L i hi
    obtain ⟨L', ds', di', ci', f1, f2, f3, f4, f5, f6, f7, f8, f9⟩ := run_put hps hss L[i] (L.set i []) ds di cs ci (fun t ht => hL t (hfp.mem_iff.2 (List.mem_append.2 (.inl ht)))) (fun t ht => hL t (hfp.mem_iff.2 (List.mem_append.2 (.inr ht)))) (by rw [List.length_set]; exact h24) (by omega) hp hs c1 (by omega) c3 (by omega)
    exact ⟨L', ds', di', _, ci', f1, f2, f3, f4, by omega, f6, f7, by omega, by omega, by omega, by omega, by omega⟩
  · rw [if_neg hq, if_neg hq]
    exact ⟨L, ds, di, cs, ci, rfl, rfl, hL, h24, rfl, hp, hs, rfl, c1, by omega, c3, by omega⟩
end
theorem slot_lev (K : Nat) (t a p : Int) (hp : 1 ≤ p) (t0 : 0 ≤ t) (t1 : t ≤ 9000000000000000000) (a0 : 0 ≤ a) (a1 : a ≤ 2) (e : spec_l5Pow.f K a = some p) (e2 : impl_units.f K a = some p) :
    spRem K t a = some (Int.tmod t p) ∧ imRem K t a = some (Int.tmod t p) ∧ spSat K t a = some (a * 8 + t / p % 8) ∧ impl_slotAt.f K t a = some (a * 8 + t / p % 8) := by
  have h := slot_at t a p hp t0 t1 a0 a1
  unfold spRem imRem spSat impl_slotAt.f
  rw [e, e2]
  simp only [Option.bind_some]
  simp only [if_neg (show ¬ p = 0 by omega), h]
  exact ⟨trivial, trivial, trivial, trivial⟩
theorem sorted_eq {xs ys : List Int} (hp : xs.Perm ys) (hs : xs.Pairwise (· ≤ ·)) : ys.mergeSort (fun x y => decide (x ≤ y)) = xs := by
  refine List.Perm.eq_of_pairwise (le := fun a b : Int => a ≤ b) (fun a b _ _ h1 h2 => by omega) ?_ hs ((List.mergeSort_perm ys _).trans hp.symm)
  have h := List.pairwise_mergeSort (le := fun x y : Int => decide (x ≤ y)) (fun a b c h1 h2 => by simp at *; omega) (fun a b => by simp; omega) ys
  exact h.imp (fun h => by simpa using h)
theorem tick_both (n : Int) (L : List (List S45)) (n0 : 0 ≤ n) (n1 : n < 100000) (h24 : L.length = 24) (hga : gAll n 0 L [] = true) (K : Nat) (hK : 5000 ≤ K) : ∃ L' ids cs ci, spec_l5Tick.f K n L = some (n + 1, L', ids, cs) ∧ impl_tick.f K n L = some (n + 1, L', ids, ci) ∧ L'.length = 24 ∧ L'.flatten.length + ids.length = L.flatten.length ∧ cs = ci + ids.length ∧ 0 ≤ ci ∧ ci ≤ 10000 := by
  obtain ⟨g1, _, g3⟩ := (gAll_iff n 0 L [] List.nodup_nil).1 hga
  have hfl : L.flatten.length ≤ 60 := by simpa using g3
  have hL : ∀ t ∈ L.flatten, Gt (n + 1) t.f0 := by
    intro t ht
    obtain ⟨row, hr, ht⟩ := List.mem_flatten.1 ht
    obtain ⟨j, hj, rfl⟩ := List.getElem_of_mem hr
    have := g1 j hj t ht
    rw [Nat.zero_add] at this
    exact gt_of n n0 (by omega) j (by omega) t this
  have hw : wrap64 (n + 1) = n + 1 := wrap_small (by omega) (by omega)
  obtain ⟨now, hnow⟩ : ∃ now, now = n + 1 := ⟨_, rfl⟩
  rw [← hnow] at hL
  unfold spec_l5Tick.f impl_tick.f
  rw [hw, ← hnow, if_pos (by omega), if_pos (by omega)]
  obtain ⟨k, rfl⟩ : ∃ k, K = k + 9 := ⟨K - 9, by omega⟩
  obtain ⟨p0, p1, p2, _⟩ := pow_spec (k + 4)
  obtain ⟨q0, q1, q2, _⟩ := pow_impl (k + 4)
  obtain ⟨a1, a2, a3, a4⟩ := slot_lev (k + 9) now 2 64 (by omega) (by omega) (by omega) (by omega) (by omega) p2 q2
  obtain ⟨b1, b2, b3, b4⟩ := slot_lev (k + 9) now 1 8 (by omega) (by omega) (by omega) (by omega) (by omega) p1 q1
  obtain ⟨_, _, _, c4⟩ := slot_lev (k + 9) now 0 1 (by omega) (by omega) (by omega) (by omega) (by omega) p0 q0
  have hps : ∀ ds x, ds.length ≤ 1000 → ds.Pairwise (· ≤ ·) → ∃ ds', spec_l5PutInt.f (k + 9) ds x = some ds' ∧ ds'.Perm (x :: ds) ∧ ds'.Pairwise (· ≤ ·) := fun ds x h1 h2 => putInt_eq ds x h1 h2 (k + 9) (by omega)
  have hss : ∀ x, Gt now x → x ≠ now → ∃ s, spec_l5Slot.f (k + 9) now x = some s ∧ imSlot (k + 9) now x = some s ∧ 0 ≤ s ∧ s < 24 := by
    intro x hx hne
    obtain ⟨x0, x1, x2⟩ := hx
    have hs0 : 0 ≤ slotOf now x := by rcases x2 with h | h; exact absurd h hne; exact h
    have hr := slotOf_range now x x0
    refine ⟨slotOf now x, spec_slot_eq k now x (by omega) (by omega) x0 (by omega), ?_, hs0, by omega⟩
    unfold imSlot
    rw [impl_slot_eq k now x (by omega) (by omega) x0 (by omega), if_neg (by omega)]
    rfl
  obtain ⟨L1, ds1, di1, cs1, ci1, e1, e2, e3, e4, e5, e6, e7, e8, e9, e10, e11, e12⟩ := run_lev hps hss (rs := spRem (k + 9) now) (ri := imRem (k + 9) now) (sas := spSat (k + 9) now) (sai := impl_slotAt.f (k + 9) now) 2 ⟨_, a1, a2⟩ ⟨_, a3, a4, by omega, by omega⟩ L [] [] 0 0 hL h24 (by simp only [List.length_nil]; omega) (List.Perm.refl _) List.Pairwise.nil (by omega) (by omega) (by omega) (by omega)
  simp only [List.length_nil] at e5 e8
  obtain ⟨L2, ds2, di2, cs2, ci2, f1, f2, f3, f4, f5, f6, f7, f8, f9, f10, f11, f12⟩ := run_lev hps hss (rs := spRem (k + 9) now) (ri := imRem (k + 9) now) (sas := spSat (k + 9) now) (sai := impl_slotAt.f (k + 9) now) 1 ⟨_, b1, b2⟩ ⟨_, b3, b4, by omega, by omega⟩ L1 ds1 di1 cs1 ci1 e3 e4 (by omega) e6 e7 (by omega) (by omega) (by omega) (by omega)
  have hm : Int.tmod now 8 = now % 8 := Int.tmod_eq_emod_of_nonneg (by omega)
  obtain ⟨i, hi⟩ : ∃ i : Nat, now % 8 = i := ⟨(now % 8).toNat, by omega⟩
  have hil : i < L2.length := by omega
  have hrl := row_le L2 i hil
  obtain ⟨ds3, di3, h1, h2, h3, h4, h5⟩ := run_due hps L2[i] ds2 di2 cs2 ci2 (by omega) f6 f7 (by omega) (by omega)
  have hd1 : di1.length ≤ 60 := by omega
  have hd2 : di2.length ≤ 60 := by omega
  have hsl := h4.length_eq
  have d1 : tkRest (spec_l5PutInt.f (k + 9)) (spec_l5Slot.f (k + 9) now) true now (spRem (k + 9) now) (spSat (k + 9) now) (some (Int.tmod now 8)) 2 L [] 0 = some (L2.set i [], ds3, cs2 + L2[i].length) := by
    simp only [tkRest]
    rw [show (((1 + 1 : Nat)) : Int) = 2 from rfl, e1]
    simp only [Option.bind_some]
    rw [show (((0 + 1 : Nat)) : Int) = 1 from rfl, f1]
    simp only [Option.bind_some]
    rw [hm, hi, Int.toNat_natCast, getD_at L2 i hil, if_pos ⟨by omega, by omega, by omega⟩, h1]
    rfl
  have d2 : tkRest imPut (imSlot (k + 9) now) false now (imRem (k + 9) now) (impl_slotAt.f (k + 9) now) (impl_slotAt.f (k + 9) now 0) 2 L [] 0 = some (L2.set i [], di3, ci2) := by
    simp only [tkRest]
    rw [show (((1 + 1 : Nat)) : Int) = 2 from rfl, e2]
    simp only [Option.bind_some]
    rw [show (((0 + 1 : Nat)) : Int) = 1 from rfl, f2]
    simp only [Option.bind_some]
    rw [c4, show 0 * 8 + now / 1 % 8 = (i : Int) by rw [← hi]; omega]
    simp only [Option.bind_some]
    rw [Int.toNat_natCast, getD_at L2 i hil, if_pos ⟨by omega, by omega, by omega⟩, h2]
    rfl
  rw [d1, d2]
  simp only [Option.bind_some]
  rw [if_pos (by omega), sorted_eq h4 h5]
  exact ⟨_, _, _, _, rfl, rfl, by rw [List.length_set]; exact f4, by omega, by omega, by omega, by omega⟩

theorem put_inv {put : List Int → Int → Option (List Int)} {slot : Int → Option Int} {e : Bool} {now : Int} {Q : S45 → Prop} {I : List (List S45) → Prop} (hI : ∀ L t s, I L → Q t → t.f0 ≠ now → slot t.f0 = some s → 0 ≤ s → s < (L.length : Int) → I (L.set s.toNat (L.getD s.toNat [] ++ [t]))) :
    ∀ (r : List S45) (L : List (List S45)) (d : List Int) (c : Int) {L' : List (List S45)} {d' : List Int} {c' : Int}, tkPut put slot e now r L d c = some (L', d', c') → (∀ t ∈ r, Q t) → I L → I L'
  | [], L, d, c, L', d', c', h, _, hL => by
    simp only [tkPut, Option.some.injEq, Prod.mk.injEq] at h
    rw [← h.1]; exact hL
  | t :: r, L, d, c, L', d', c', h, hr, hL => by
    have hr2 : ∀ t ∈ r, Q t := fun x hx => hr x (List.mem_cons_of_mem _ hx)
    simp only [tkPut] at h
    by_cases hd : t.f0 = now
    · rw [if_pos hd] at h
      obtain ⟨d1, _, h⟩ := Option.bind_eq_some_iff.1 h
      exact put_inv hI r L d1 _ h hr2 hL
    · rw [if_neg hd] at h
      obtain ⟨s, hs, h⟩ := Option.bind_eq_some_iff.1 h
      split at h
      · rename_i hb
        exact put_inv hI r _ d _ h hr2 (hI L t s hL (hr t List.mem_cons_self) hd hs hb.1 hb.2.1)
      · cases h
/-- the rows that a tick to `now` empties -/
def Em (now : Int) (j : Nat) : Prop := now % gP j = 0 ∧ (j : Int) % 8 = now / gP j % 8
def Qt (now : Int) (t : S45) : Prop := (0 ≤ t.f1 ∧ t.f1 ≤ 1000) ∧ now ≤ t.f0 ∧ t.f0 < now + 512 ∧ (t.f0 = now ∨ 0 ≤ slotOf now t.f0)
/-- rows of E may hold what is still to be moved -/
def Pos (now : Int) (E : Nat → Prop) (L : List (List S45)) : Prop := ∀ j (hj : j < L.length), ∀ t ∈ L[j], (E j ∧ Qt now t) ∨ (¬ Em now j ∧ okT now j t)
theorem pos_start (n : Int) (n0 : 0 ≤ n) (n1 : n ≤ 100000) (L : List (List S45)) (h24 : L.length = 24) (h : ∀ j (hj : j < L.length), ∀ t ∈ L[j], okT n j t) : Pos (n + 1) (Em (n + 1)) L := by
  intro j hj t ht
  have h1 := h j hj t ht
  have hg := gt_of n n0 n1 j (by omega) t h1
  obtain ⟨hid, h2⟩ := h1
  unfold gOk at h2
  simp only [Bool.and_eq_true, decide_eq_true_eq] at h2
  obtain ⟨⟨⟨h3, h4⟩, h5⟩, h6⟩ := h2
  by_cases hE : Em (n + 1) j
  · exact .inl ⟨hE, hid, by omega, by omega, hg.2.2⟩
  · refine .inr ⟨hE, hid, ?_⟩
    unfold Em at hE
    unfold gOk fitP
    unfold fitP at h5
    simp only [decide_eq_true_eq, Bool.and_eq_true] at h5 ⊢
    have hp : gP j = 1 ∨ gP j = 8 ∨ gP j = 64 := by unfold gP; split; exact .inl rfl; split; exact .inr (.inl rfl); exact .inr (.inr rfl)
    rcases hp with hp | hp | hp <;> rw [hp] at hE h5 h6 ⊢ <;> refine ⟨⟨⟨?_, ?_⟩, ?_, ?_⟩, ?_⟩ <;> omega
theorem slot_notE (now t : Int) (n0 : 0 ≤ now) (t0 : 0 ≤ t) (j : Nat) (hj : j < 24) (h : slotOf now t = (j : Int)) : ¬ Em now j := by
  unfold Em
  unfold slotOf fitP at h
  simp only [decide_eq_true_eq] at h
  have hp : (j < 8 ∧ gP j = 1) ∨ (8 ≤ j ∧ j < 16 ∧ gP j = 8) ∨ (16 ≤ j ∧ gP j = 64) := by unfold gP; split; exact .inl ⟨by assumption, rfl⟩; split; exact .inr (.inl ⟨by omega, by omega, rfl⟩); exact .inr (.inr ⟨by omega, rfl⟩)
  split at h
  · rcases hp with ⟨a, hp⟩ | ⟨a, b, hp⟩ | ⟨a, hp⟩ <;> rw [hp] <;> omega
  split at h
  · rcases hp with ⟨a, hp⟩ | ⟨a, b, hp⟩ | ⟨a, hp⟩ <;> rw [hp] <;> omega
  split at h
  · rcases hp with ⟨a, hp⟩ | ⟨a, b, hp⟩ | ⟨a, hp⟩ <;> rw [hp] <;> omega
  · omega
theorem pos_put (now : Int) (n0 : 0 ≤ now) (E : Nat → Prop) (L : List (List S45)) (h24 : L.length = 24) (h : Pos now E L) (t : S45) (ht : Qt now t) (hne : t.f0 ≠ now) (s : Int) (hs : slotOf now t.f0 = s) (s0 : 0 ≤ s) (s1 : s < (L.length : Int)) : Pos now E (L.set s.toNat (L.getD s.toNat [] ++ [t])) := by
  obtain ⟨i, rfl⟩ : ∃ i : Nat, s = i := ⟨s.toNat, by omega⟩
  rw [Int.toNat_natCast]
  have hi : i < L.length := by omega
  rw [getD_at L i hi]
  obtain ⟨hid, q1, q2, _⟩ := ht
  intro j hj x hx
  rw [List.length_set] at hj
  rw [List.getElem_set] at hx
  split at hx
  · rename_i e
    subst e
    rw [List.mem_append] at hx
    rcases hx with hx | hx
    · exact h i hi x hx
    · obtain rfl : x = t := by simpa using hx
      exact .inr ⟨slot_notE now x.f0 n0 (by omega) i (by omega) hs, slot_ok now x i (by omega) ⟨by omega, q2⟩ hid hs⟩
  · exact h j hj x hx
/-- a row is emptied -/
theorem pos_out (now : Int) (E : Nat → Prop) (L : List (List S45)) (h : Pos now E L) (i : Nat) : Pos now (fun j => E j ∧ j ≠ i) (L.set i []) := by
  intro j hj x hx
  rw [List.length_set] at hj
  rw [List.getElem_set] at hx
  split at hx
  · simp at hx
  · rename_i e
    rcases h j hj x hx with ⟨h1, h2⟩ | h1
    · exact .inl ⟨⟨h1, fun he => e he.symm⟩, h2⟩
    · exact .inr h1

theorem lev_inv {put : List Int → Int → Option (List Int)} {ss rs sas : Int → Option Int} {e : Bool} {now lev q s c c' : Int} {E : Nat → Prop} {L L' : List (List S45)} {d d' : List Int} (n0 : 0 ≤ now) (n1 : now ≤ 100000) (hs : ∀ x s, 0 ≤ x → x ≤ 1000000 → ss x = some s → slotOf now x = s) (h : tkLev put ss e now rs sas lev L d c = some (L', d', c')) (hr : rs lev = some q) (ha : sas lev = some s) (hp : Pos now E L) (h24 : L.length = 24) (hE : ∀ j, E j → Em now j) (s0 : 0 ≤ s) (s1 : s < 24) (hem : q = 0 → Em now s.toNat) : Pos now (fun j => E j ∧ (q = 0 → j ≠ s.toNat)) L' := by
  unfold tkLev at h
  rw [hr, Option.bind_some] at h
  by_cases hq : q = 0
  · rw [if_pos hq, ha, Option.bind_some] at h
    obtain ⟨i, rfl⟩ : ∃ i : Nat, s = i := ⟨s.toNat, by omega⟩
    rw [Int.toNat_natCast] at h hem ⊢
    have hi : i < L.length := by omega
    rw [getD_at L i hi] at h
    split at h
    · have h1 := put_inv (Q := Qt now) (I := fun L => L.length = 24 ∧ Pos now (fun j => E j ∧ j ≠ i) L) (fun L t s hL ht hne hsl s0 s1 => ⟨by rw [List.length_set]; exact hL.1, pos_put now n0 _ L hL.1 hL.2 t ht hne s (hs t.f0 s (by have := ht.2.1; omega) (by have := ht.2.2.1; omega) hsl) s0 s1⟩) L[i] _ d c h (fun t ht => by
        rcases hp i hi t ht with h2 | h2
        · exact h2.2
        · exact absurd (hem hq) h2.1) ⟨by rw [List.length_set]; exact h24, pos_out now E L hp i⟩
      exact fun j hj t ht => (h1.2 j hj t ht).imp (fun h2 => ⟨⟨h2.1.1, fun _ => h2.1.2⟩, h2.2⟩) (fun h2 => h2)
    · cases h
  · rw [if_neg hq] at h
    simp only [Option.some.injEq, Prod.mk.injEq] at h
    rw [← h.1]
    exact fun j hj t ht => (hp j hj t ht).imp (fun h2 => ⟨⟨h2.1, fun h3 => absurd h3 hq⟩, h2.2⟩) (fun h2 => h2)
theorem tick_good (n : Int) (L : List (List S45)) (n0 : 0 ≤ n) (n1 : n < 100000) (h24 : L.length = 24) (g1 : ∀ j (hj : j < L.length), ∀ t ∈ L[j], okT n j t) (hfl : L.flatten.length ≤ 60) (K : Nat) (hK : 5000 ≤ K) : ∃ L' ids cs ci, spec_l5Tick.f K n L = some (n + 1, L', ids, cs) ∧ impl_tick.f K n L = some (n + 1, L', ids, ci) ∧ L'.length = 24 ∧ L'.flatten.length + ids.length = L.flatten.length ∧ cs = ci + ids.length ∧ 0 ≤ ci ∧ ci ≤ 10000 ∧ ∀ j (hj : j < L'.length), ∀ t ∈ L'[j], okT (n + 1) j t := by
  have hpos := pos_start n n0 (by omega) L h24 g1
  have hL : ∀ t ∈ L.flatten, Gt (n + 1) t.f0 := by
    intro t ht
    obtain ⟨row, hr, ht⟩ := List.mem_flatten.1 ht
    obtain ⟨j, hj, rfl⟩ := List.getElem_of_mem hr
    have := g1 j hj t ht
    exact gt_of n n0 (by omega) j (by omega) t this
  have hw : wrap64 (n + 1) = n + 1 := wrap_small (by omega) (by omega)
  obtain ⟨now, hnow⟩ : ∃ now, now = n + 1 := ⟨_, rfl⟩
  rw [← hnow] at hL hpos
  unfold spec_l5Tick.f impl_tick.f
  rw [hw, ← hnow, if_pos (by omega), if_pos (by omega)]
  obtain ⟨k, rfl⟩ : ∃ k, K = k + 9 := ⟨K - 9, by omega⟩
  obtain ⟨p0, p1, p2, _⟩ := pow_spec (k + 4)
  obtain ⟨q0, q1, q2, _⟩ := pow_impl (k + 4)
  obtain ⟨a1, a2, a3, a4⟩ := slot_lev (k + 9) now 2 64 (by omega) (by omega) (by omega) (by omega) (by omega) p2 q2
  obtain ⟨b1, b2, b3, b4⟩ := slot_lev (k + 9) now 1 8 (by omega) (by omega) (by omega) (by omega) (by omega) p1 q1
  obtain ⟨_, _, _, c4⟩ := slot_lev (k + 9) now 0 1 (by omega) (by omega) (by omega) (by omega) (by omega) p0 q0
  have hps : ∀ ds x, ds.length ≤ 1000 → ds.Pairwise (· ≤ ·) → ∃ ds', spec_l5PutInt.f (k + 9) ds x = some ds' ∧ ds'.Perm (x :: ds) ∧ ds'.Pairwise (· ≤ ·) := fun ds x h1 h2 => putInt_eq ds x h1 h2 (k + 9) (by omega)
  have hss : ∀ x, Gt now x → x ≠ now → ∃ s, spec_l5Slot.f (k + 9) now x = some s ∧ imSlot (k + 9) now x = some s ∧ 0 ≤ s ∧ s < 24 := by
    intro x hx hne
    obtain ⟨x0, x1, x2⟩ := hx
    have hs0 : 0 ≤ slotOf now x := by rcases x2 with h | h; exact absurd h hne; exact h
    have hr := slotOf_range now x x0
    refine ⟨slotOf now x, spec_slot_eq k now x (by omega) (by omega) x0 (by omega), ?_, hs0, by omega⟩
    unfold imSlot
    rw [impl_slot_eq k now x (by omega) (by omega) x0 (by omega), if_neg (by omega)]
    rfl
  obtain ⟨L1, ds1, di1, cs1, ci1, e1, e2, e3, e4, e5, e6, e7, e8, e9, e10, e11, e12⟩ := run_lev hps hss (rs := spRem (k + 9) now) (ri := imRem (k + 9) now) (sas := spSat (k + 9) now) (sai := impl_slotAt.f (k + 9) now) 2 ⟨_, a1, a2⟩ ⟨_, a3, a4, by omega, by omega⟩ L [] [] 0 0 hL h24 (by simp only [List.length_nil]; omega) (List.Perm.refl _) List.Pairwise.nil (by omega) (by omega) (by omega) (by omega)
  simp only [List.length_nil] at e5 e8
  obtain ⟨L2, ds2, di2, cs2, ci2, f1, f2, f3, f4, f5, f6, f7, f8, f9, f10, f11, f12⟩ := run_lev hps hss (rs := spRem (k + 9) now) (ri := imRem (k + 9) now) (sas := spSat (k + 9) now) (sai := impl_slotAt.f (k + 9) now) 1 ⟨_, b1, b2⟩ ⟨_, b3, b4, by omega, by omega⟩ L1 ds1 di1 cs1 ci1 e3 e4 (by omega) e6 e7 (by omega) (by omega) (by omega) (by omega)
  have hm : Int.tmod now 8 = now % 8 := Int.tmod_eq_emod_of_nonneg (by omega)
  obtain ⟨i, hi⟩ : ∃ i : Nat, now % 8 = i := ⟨(now % 8).toNat, by omega⟩
  have hil : i < L2.length := by omega
  have hrl := row_le L2 i hil
  obtain ⟨ds3, di3, h1, h2, h3, h4, h5⟩ := run_due hps L2[i] ds2 di2 cs2 ci2 (by omega) f6 f7 (by omega) (by omega)
  have hd1 : di1.length ≤ 60 := by omega
  have hd2 : di2.length ≤ 60 := by omega
  have hsl := h4.length_eq
  have d1 : tkRest (spec_l5PutInt.f (k + 9)) (spec_l5Slot.f (k + 9) now) true now (spRem (k + 9) now) (spSat (k + 9) now) (some (Int.tmod now 8)) 2 L [] 0 = some (L2.set i [], ds3, cs2 + L2[i].length) := by
    simp only [tkRest]
    rw [show (((1 + 1 : Nat)) : Int) = 2 from rfl, e1]
    simp only [Option.bind_some]
    rw [show (((0 + 1 : Nat)) : Int) = 1 from rfl, f1]
    simp only [Option.bind_some]
    rw [hm, hi, Int.toNat_natCast, getD_at L2 i hil, if_pos ⟨by omega, by omega, by omega⟩, h1]
    rfl
  have d2 : tkRest imPut (imSlot (k + 9) now) false now (imRem (k + 9) now) (impl_slotAt.f (k + 9) now) (impl_slotAt.f (k + 9) now 0) 2 L [] 0 = some (L2.set i [], di3, ci2) := by
    simp only [tkRest]
    rw [show (((1 + 1 : Nat)) : Int) = 2 from rfl, e2]
    simp only [Option.bind_some]
    rw [show (((0 + 1 : Nat)) : Int) = 1 from rfl, f2]
    simp only [Option.bind_some]
    rw [c4, show 0 * 8 + now / 1 % 8 = (i : Int) by rw [← hi]; omega]
    simp only [Option.bind_some]
    rw [Int.toNat_natCast, getD_at L2 i hil, if_pos ⟨by omega, by omega, by omega⟩, h2]
    rfl
  rw [d1, d2]
  simp only [Option.bind_some]
  rw [if_pos (by omega), sorted_eq h4 h5]
  have hsl2 : ∀ x s, 0 ≤ x → x ≤ 1000000 → spec_l5Slot.f (k + 9) now x = some s → slotOf now x = s := by
    intro x s x0 x1 h
    rw [spec_slot_eq k now x (by omega) (by omega) x0 (by omega)] at h
    exact Option.some.inj h
  have hm64 : Int.tmod now 64 = now % 64 := Int.tmod_eq_emod_of_nonneg (by omega)
  have p1_ := lev_inv (E := Em now) (by omega) (by omega) hsl2 e1 a1 a3 hpos h24 (fun j h => h) (by omega) (by omega) (fun hq => by
    obtain ⟨a, ha⟩ : ∃ a : Nat, (2 * 8 + now / 64 % 8 : Int) = a := ⟨(2 * 8 + now / 64 % 8 : Int).toNat, by omega⟩
    rw [ha, Int.toNat_natCast]
    unfold Em
    rw [show gP a = 64 by unfold gP; rw [if_neg (by omega), if_neg (by omega)]]
    omega)
  have p2_ := lev_inv (by omega) (by omega) hsl2 f1 b1 b3 p1_ e4 (fun j h => h.1) (by omega) (by omega) (fun hq => by
    obtain ⟨a, ha⟩ : ∃ a : Nat, (1 * 8 + now / 8 % 8 : Int) = a := ⟨(1 * 8 + now / 8 % 8 : Int).toNat, by omega⟩
    rw [ha, Int.toNat_natCast]
    unfold Em
    rw [show gP a = 8 by unfold gP; rw [if_neg (by omega), if_pos (by omega)]]
    omega)
  have p3_ := pos_out now _ L2 p2_ i
  refine ⟨_, _, _, _, rfl, rfl, by rw [List.length_set]; exact f4, by omega, by omega, by omega, by omega, fun j hj t ht => ?_⟩
  have hj24 : j < 24 := by rw [List.length_set] at hj; omega
  rcases p3_ j hj t ht with ⟨⟨⟨⟨hE, hq2⟩, hq1⟩, hi2⟩, _⟩ | h
  · exfalso
    unfold Em at hE
    have hp : (j < 8 ∧ gP j = 1) ∨ (8 ≤ j ∧ j < 16 ∧ gP j = 8) ∨ (16 ≤ j ∧ gP j = 64) := by unfold gP; split; exact .inl ⟨by assumption, rfl⟩; split; exact .inr (.inl ⟨by omega, by omega, rfl⟩); exact .inr (.inr ⟨by omega, rfl⟩)
    rw [hm] at hq1
    rw [hm64] at hq2
    rcases hp with ⟨a, hp⟩ | ⟨a, b, hp⟩ | ⟨a, hp⟩ <;> rw [hp] at hE
    · omega
    · have := hq1 hE.1; omega
    · have := hq2 hE.1; omega
  · first | exact h.2 | (rw [← hnow]; exact h.2)

theorem adv_both (till : Int) (ht : till ≤ 100000) (K : Nat) (hK : 5000 ≤ K) (d : Nat) : ∀ (k : Nat) (n : Int) (L : List (List S45)) (all : List Int) (c : Int), (till - n).toNat ≤ d → d < k → 0 ≤ n → n ≤ till → L.length = 24 → (∀ j (hj : j < L.length), ∀ t ∈ L[j], okT n j t) → L.flatten.length + all.length ≤ 60 → 0 ≤ c → c + 20000 * d ≤ 1000000000 →
    ∃ r, advG (spec_l5Tick.f K) false till k n L all c = some r ∧ advG (impl_tick.f K) true till k n L all c = some r ∧ r.2.1.length = 24 ∧ r.2.1.flatten.length + r.2.2.1.length ≤ 60 := by
  induction d with
  | zero =>
    intro k n L all c h1 h2 n0 n1 h24 hok hl c0 c1
    obtain ⟨k, rfl⟩ : ∃ q, k = q + 1 := ⟨k - 1, by omega⟩
    unfold advG
    rw [if_neg (by omega), if_neg (by omega)]
    exact ⟨_, rfl, rfl, h24, hl⟩
  | succ d ih =>
    intro k n L all c h1 h2 n0 n1 h24 hok hl c0 c1
    obtain ⟨k, rfl⟩ : ∃ q, k = q + 1 := ⟨k - 1, by omega⟩
    unfold advG
    by_cases hlt : n < till
    · rw [if_pos hlt, if_pos hlt]
      obtain ⟨L', ids, cs, ci, e1, e2, e3, e4, e5, e6, e7, e8⟩ := tick_good n L n0 (by omega) h24 hok (by omega) K hK
      rw [e1, e2]
      simp only [Option.bind_some, Bool.false_eq_true, if_false, if_true]
      rw [if_pos (by omega), if_pos (by omega)]
      have w1 : wrap64 (c + cs) = c + cs := wrap_small (by omega) (by omega)
      have w2 : wrap64 (wrap64 (c + ci) + (ids.length : Int)) = c + cs := by
        rw [wrap_small (x := c + ci) (by omega) (by omega), wrap_small (by omega) (by omega)]
        omega
      rw [w1, w2]
      exact ih k (n + 1) L' (all ++ ids) (c + cs) (by omega) (by omega) (by omega) (by omega) e3 e8 (by rw [List.length_append]; omega) (by omega) (by omega)
    · rw [if_neg hlt, if_neg hlt]
      exact ⟨_, rfl, rfl, h24, hl⟩

theorem advw_both (n : Int) (L : List (List S45)) (a : Int) (hL : L.length ≤ 1048576) (ht : gTot L ≤ 1048576) (K : Nat) (hK : 4000000 ≤ K) : ∃ r, spec_AdvanceWheel.f K n L a = some r ∧ impl_AdvanceWheel.f K n L a = some r ∧ r.2.1.length ≤ 1048576 ∧ gTot r.2.1 ≤ 1048576 ∧ r.2.2.1.length ≤ 1048576 := by
  obtain ⟨e1, e2⟩ := good_val n L ht K (by omega)
  have hfl : L.flatten.length ≤ 1048576 := by rw [← tot_flat]; exact ht
  unfold spec_AdvanceWheel.f impl_AdvanceWheel.f
  rw [e1, e2, own_eq n L (by omega) (by omega) K (by omega), clone_eq n L (by omega) (by omega) K (by omega)]
  simp only [Option.bind_some]
  have no : ∃ r : Int × List (List S45) × List Int × Int × Bool, some ((0 : Int), ([] : List (List S45)), ([] : List Int), (0 : Int), false) = some r ∧ some ((0 : Int), ([] : List (List S45)), ([] : List Int), (0 : Int), false) = some r ∧ r.2.1.length ≤ 1048576 ∧ gTot r.2.1 ≤ 1048576 ∧ r.2.2.1.length ≤ 1048576 := ⟨_, rfl, rfl, by simp, by simp [gTot], by simp⟩
  by_cases hg : (decide (0 ≤ n ∧ n ≤ 100000) && (decide (L.length = 24) && gAll n 0 L [])) = true
  case neg => rw [if_neg hg, if_neg hg]; exact no
  rw [if_pos hg, if_pos hg]
  simp only [Bool.and_eq_true, decide_eq_true_eq] at hg
  obtain ⟨hn, h24, hga⟩ := hg
  have hw : wrap64 (n + 1000) = n + 1000 := wrap_small (by omega) (by omega)
  rw [hw]
  unfold impl_isNow.f spec_l1In.f impl_in.f
  by_cases h1 : n ≤ a ∧ a ≤ n + 1000
  · have c1 : a ≥ n := h1.1
    rw [if_pos c1, if_pos (show a ≥ 0 by omega)]
    simp only [Option.bind_some, decide_eq_true_eq]
    rw [if_pos h1.2, if_pos h1.2]
    by_cases h2 : a ≤ 100000
    · rw [if_neg (show ¬ a > 100000 by omega), if_pos h2, if_pos (by omega), if_pos (by omega)]
      obtain ⟨g1, _, g3⟩ := (gAll_iff n 0 L [] List.nodup_nil).1 hga
      obtain ⟨r, f1, f2, f3, f4⟩ := adv_both a h2 K (by omega) 1000 K n L [] 0 (by omega) (by omega) hn.1 h1.1 h24 (fun j hj t ht => by have := g1 j hj t ht; rw [Nat.zero_add] at this; exact this) (by simpa using g3) (by omega) (by omega)
      rw [f1, f2]
      refine ⟨_, rfl, rfl, ?_, ?_, ?_⟩
      · show r.2.1.length ≤ 1048576
        omega
      · show gTot r.2.1 ≤ 1048576
        rw [tot_flat]; omega
      · show r.2.2.1.length ≤ 1048576
        omega
    · rw [if_pos (show a > 100000 by omega), if_neg h2]; exact no
  · by_cases c1 : a ≥ n
    · rw [if_pos c1]
      simp only [Option.bind_some, decide_eq_true_eq]
      rw [if_neg (show ¬ a ≤ n + 1000 by omega), if_neg (show ¬ a ≤ n + 1000 by omega)]; exact no
    · rw [if_neg c1]
      simp only [Option.bind_some, Bool.false_eq_true, if_false]
      exact no

/-- THE PURE STATEMENT of the law. -/
def FnExactAdvanceWheel_Pure : Prop := ∀ (a0_0 : Int) (l0_1 : (List (List S43))) (a1 : Int), (Lit.int .i64 a0_0).wf = true → (l0_1.length ≤ 9223372036854775807 ∧ ∀ y ∈ l0_1, (y.length ≤ 9223372036854775807 ∧ ∀ y1 ∈ y, ((Lit.int .i64 y1.f0).wf = true ∧ (Lit.int .i64 y1.f1).wf = true))) → (Lit.int .i64 a1).wf = true → ∃ k, laws_FnExactAdvanceWheel.f k a0_0 l0_1 a1 = some true

theorem FnExactAdvanceWheel : FnExactAdvanceWheel_Pure := by
  intro a0 l a1 _ hlr _
  obtain ⟨hl, hr⟩ := hlr
  obtain ⟨K, hK⟩ : ∃ K, K = 5000000 := ⟨_, rfl⟩
  refine ⟨K, ?_⟩
  unfold laws_FnExactAdvanceWheel.f
  obtain ⟨r, h1, h2⟩ := sz_wheel l a0 hl (fun y hy => (hr y hy).1) K (by omega)
  rw [h1]
  simp only [Option.bind_some]
  by_cases c : r < 0
  · rw [if_pos c]
  · rw [if_neg c]
    obtain ⟨h3, h4⟩ := h2 (by omega)
    unfold laws_toWheel.f
    rw [toSS_eq l h3 h4 _ (by omega)]
    simp only [Option.bind_some]
    have hx1 : (l.map (·.map conv)).length ≤ 1048576 := by simpa using h3
    have hx2 : gTot (l.map (·.map conv)) ≤ 1048576 := by rw [tot_conv]; exact h4
    obtain ⟨s, e1, e2, e3, e4, e5⟩ := advw_both a0 (l.map (·.map conv)) a1 hx1 hx2 K (by omega)
    rw [e1, e2]
    simp only [Option.bind_some]
    rw [eqW_self s.1 s.2.1 e3 e4 K (by omega), eqW_self a0 _ hx1 hx2 K (by omega), eqIntS_self s.2.2.1 (by omega) K (by omega)]
    simp only [Option.bind_some]
    rw [markTT_eq K (by omega) _ 1 (by omega) (by omega) (by omega), markTT_eq K (by omega) s.2.1 1 (by omega) (by omega) (by omega)]
    simp only [Option.bind_some]
    rw [markIntS_eq s.2.2.1 _ (by omega) (by omega) (by omega) K (by omega)]
    simp only [Option.bind_some]
    rw [heldTT_eq s.1 s.2.1 K 1 (by omega) (by omega) (by omega) (by omega) (by omega)]
    simp only [Option.bind_some]
    rw [heldIntS_eq _ s.2.2.1.length (by omega) (by omega) (by omega) K (by omega)]
    simp only [Option.bind_some]
    rw [if_pos (by refine ⟨?_, ?_, ?_, ?_, ?_, ?_, ?_, ?_⟩ <;> first | trivial | omega)]

end Go.Proofs.Ytgmjfdehladelaa.Pure
