/- The program drops a timer as the reference does: the law answers true. No conditions but the reach of a slice. -/
import Derived.Test.YtgmjfdehladelaaPFnExactDropTimerx9
namespace Go.Proofs.Ytgmjfdehladelaa.Pure
open Go.RowKit Go.Proofs.Ytgmjfdehladelaa.PFnExactDropTimer Go.Proofs.YtgmjfdehladelaaW.PrintWords Go.Proofs.YtgmjfdehladelaaW.PrintLast
set_option linter.unusedVariables false
set_option linter.unusedSimpArgs false

theorem wrap_small {x : Int} (h0 : -9223372036854775808 ≤ x) (h1 : x ≤ 9223372036854775807) : wrap64 x = x := by
  unfold wrap64
  omega

theorem wrap_next {j n : Nat} (h : j < n) (hn : n ≤ 140737488351232) : wrap64 ((j : Int) + 1) = ((j + 1 : Nat) : Int) := by
  rw [wrap_small (by omega) (by omega)]; rfl

theorem rd_at (l : List Int) (j : Nat) : rd l (j : Int) = l.getD j 0 := by
  unfold rd; rw [Int.toNat_natCast]

theorem drop_at (l : List Int) (j : Nat) (h : j < l.length) : l.drop j = l.getD j 0 :: l.drop (j + 1) := by
  rw [List.drop_eq_getElem_cons h, List.getD_eq_getElem?_getD, List.getElem?_eq_getElem h]; rfl

theorem take_at (l : List Int) (j : Nat) (h : j < l.length) : l.take (j + 1) = l.take j ++ [l.getD j 0] := by
  rw [List.take_succ_eq_append_getElem h, List.getD_eq_getElem?_getD, List.getElem?_eq_getElem h]; rfl

theorem in_eq (a b c : Int) : impl_in.f a b c = some (decide (b ≤ a ∧ a ≤ c)) := by
  unfold impl_in.f
  by_cases h : a ≥ b
  · rw [if_pos h]; congr 1; simp only [decide_eq_decide]; omega
  · rw [if_neg h, decide_eq_false (by omega)]
theorem l1In_eq (a b c : Int) : spec_l1In.f a b c = some (decide (b ≤ a ∧ a ≤ c)) := by
  unfold spec_l1In.f
  by_cases h : a ≥ b
  · rw [if_pos h]; congr 1; simp only [decide_eq_decide]; omega
  · rw [if_neg h, decide_eq_false (by omega)]

theorem l1Has_loop (l : List Int) (x : Int) (hn : l.length ≤ 1048576) (d : Nat) : ∀ (k j : Nat), j ≤ l.length → l.length - j = d → d < k →
    spec_l1Has.l0 k x l l.length j = some (decide (x ∈ l.drop j)) := by
  induction d with
  | zero =>
    intro k j hj hd hk
    obtain ⟨k, rfl⟩ : ∃ m, k = m + 1 := ⟨k - 1, by omega⟩
    simp only [spec_l1Has.l0]; rw [if_neg (by omega), List.drop_of_length_le (by omega)]; simp
  | succ d ih =>
    intro k j hj hd hk
    obtain ⟨k, rfl⟩ : ∃ m, k = m + 1 := ⟨k - 1, by omega⟩
    simp only [spec_l1Has.l0]; rw [if_pos (by omega), if_pos (by omega), if_pos (by omega), wrap_next (n := l.length) (by omega) (by omega), rd_at, drop_at l j (by omega)]
    by_cases h : l.getD j 0 = x
    · rw [if_pos h, ← h]; simp
    · rw [if_neg h, ih k (j + 1) (by omega) (by omega) (by omega)]; congr 1; simp only [decide_eq_decide, List.mem_cons]
      constructor
      · exact .inr
      · rintro (h1 | h1)
        · exact absurd h1.symm h
        · exact h1

theorem l1Has_eq (l : List Int) (x : Int) (hn : l.length ≤ 1048576) (k : Nat) (hk : l.length < k) : spec_l1Has.f k l x = some (decide (x ∈ l)) := by
  unfold spec_l1Has.f
  have := l1Has_loop l x hn l.length k 0 (by omega) (by omega) hk
  simpa using this

theorem wr (n : Nat) (h : n ≤ 1000) : wrap64 (n : Int) = n := wrap_small (by omega) (by omega)
theorem pow_spec (k : Nat) : spec_l5Pow.f (k + 5) 0 = some 1 ∧ spec_l5Pow.f (k + 5) 1 = some 8 ∧ spec_l5Pow.f (k + 5) 2 = some 64 ∧ spec_l5Pow.f (k + 5) 3 = some 512 := by
  have a0 : wrap64 0 = 0 := wr 0 (by omega)
  have a1 : wrap64 1 = 1 := wr 1 (by omega)
  have a2 : wrap64 2 = 2 := wr 2 (by omega)
  have b1 : wrap64 8 = 8 := wr 8 (by omega)
  have b2 : wrap64 64 = 64 := wr 64 (by omega)
  have b3 : wrap64 512 = 512 := wr 512 (by omega)
  simp [spec_l5Pow.f, spec_l5Pow.l0, a0, a1, a2, b1, b2, b3]

theorem pow_impl (k : Nat) : impl_units.f (k + 5) 0 = some 1 ∧ impl_units.f (k + 5) 1 = some 8 ∧ impl_units.f (k + 5) 2 = some 64 ∧ impl_units.f (k + 5) 3 = some 512 := by
  have a1 : wrap64 1 = 1 := wr 1 (by omega)
  have a2 : wrap64 2 = 2 := wr 2 (by omega)
  have a3 : wrap64 3 = 3 := wr 3 (by omega)
  have b1 : wrap64 8 = 8 := wr 8 (by omega)
  have b2 : wrap64 64 = 64 := wr 64 (by omega)
  have b3 : wrap64 512 = 512 := wr 512 (by omega)
  simp [impl_units.f, impl_units.l0, a1, a2, a3, b1, b2, b3]

/-- a time lies at a level of units p -/
def fitP (now t p : Int) : Bool := decide (1 ≤ t / p - now / p ∧ t / p - now / p ≤ 7)

theorem div_wrap {x p : Int} (h0 : 0 ≤ x) (h1 : x ≤ 9223372036854775807) (hp : 1 ≤ p) : wrap64 (Int.tdiv x p) = x / p := by
  rw [Int.tdiv_eq_ediv_of_nonneg h0]
  have := Int.ediv_nonneg h0 (show 0 ≤ p by omega)
  have := Int.ediv_le_self p h0
  exact wrap_small (by omega) (by omega)

theorem fit_core {a : Int} (k : Nat) (now t p : Int) (hp : 1 ≤ p) (n0 : 0 ≤ now) (n1 : now ≤ 9000000000000000000) (t0 : 0 ≤ t) (t1 : t ≤ 9000000000000000000) (e : spec_l5Pow.f k a = some p) :
    spec_l5Fits.f k now t a = some (fitP now t p) := by
  unfold spec_l5Fits.f fitP
  rw [e]; simp only [Option.bind_some]
  rw [if_neg (by omega), div_wrap t0 (by omega) hp, div_wrap n0 (by omega) hp, l1In_eq]
  have h1 := Int.ediv_nonneg t0 (show 0 ≤ p by omega)
  have h2 := Int.ediv_le_self p t0
  have h3 := Int.ediv_nonneg n0 (show 0 ≤ p by omega)
  have h4 := Int.ediv_le_self p n0
  rw [wrap_small (by omega) (by omega)]

theorem fit_core2 {a : Int} (k : Nat) (now t p : Int) (hp : 1 ≤ p) (n0 : 0 ≤ now) (n1 : now ≤ 9000000000000000000) (t0 : 0 ≤ t) (t1 : t ≤ 9000000000000000000) (e : impl_units.f k a = some p) :
    impl_fitsLevel.f k now t a = some (fitP now t p) := by
  unfold impl_fitsLevel.f fitP
  rw [e]; simp only [Option.bind_some]
  rw [if_neg (by omega), div_wrap t0 (by omega) hp, div_wrap n0 (by omega) hp, in_eq]
  have h1 := Int.ediv_nonneg t0 (show 0 ≤ p by omega)
  have h2 := Int.ediv_le_self p t0
  have h3 := Int.ediv_nonneg n0 (show 0 ≤ p by omega)
  have h4 := Int.ediv_le_self p n0
  rw [wrap_small (by omega) (by omega)]

theorem slot_at (t a p : Int) (hp : 1 ≤ p) (t0 : 0 ≤ t) (t1 : t ≤ 9000000000000000000) (a0 : 0 ≤ a) (a1 : a ≤ 2) : wrap64 ((wrap64 (a * 8)) + (Int.tmod (wrap64 (Int.tdiv t p)) 8)) = a * 8 + t / p % 8 := by
  rw [div_wrap t0 (by omega) hp, Int.tmod_eq_emod_of_nonneg (Int.ediv_nonneg t0 (by omega)), wrap_small (x := a * 8) (by omega) (by omega), wrap_small (by omega) (by omega)]

def gP (i : Nat) : Int := if i < 8 then 1 else if i < 16 then 8 else 64
def gOk (now : Int) (i : Nat) (t : S45) : Bool := decide (now < t.f0 ∧ t.f0 < now + 512) && fitP now t.f0 (gP i) && decide (t.f0 / gP i % 8 = (i : Int) % 8)
def gRow (now : Int) (i : Nat) : List S45 → List Int → Option (List Int)
  | [], ids => some ids
  | t :: r, ids => if (0 ≤ t.f1 ∧ t.f1 ≤ 1000) ∧ gOk now i t = true ∧ t.f1 ∉ ids then gRow now i r (ids ++ [t.f1]) else none
theorem lev (i : Nat) (hi : i < 24) : wrap64 (Int.tdiv (i : Int) 8) = (i / 8 : Nat) := by
  rw [Int.tdiv_eq_ediv_of_nonneg (by omega), wrap_small (by omega) (by omega)]
  omega
theorem gP_spec (i : Nat) (hi : i < 24) (k : Nat) (hk : 5 ≤ k) : spec_l5Pow.f k ((i / 8 : Nat) : Int) = some (gP i) := by
  obtain ⟨k, rfl⟩ : ∃ m, k = m + 5 := ⟨k - 5, by omega⟩
  obtain ⟨p0, p1, p2, _⟩ := pow_spec k
  unfold gP
  by_cases h1 : i < 8
  · rw [if_pos h1, show i / 8 = 0 by omega]; exact p0
  rw [if_neg h1]
  by_cases h2 : i < 16
  · rw [if_pos h2, show i / 8 = 1 by omega]; exact p1
  · rw [if_neg h2, show i / 8 = 2 by omega]; exact p2
theorem gP_impl (i : Nat) (hi : i < 24) (k : Nat) (hk : 5 ≤ k) : impl_units.f k ((i / 8 : Nat) : Int) = some (gP i) := by
  obtain ⟨k, rfl⟩ : ∃ m, k = m + 5 := ⟨k - 5, by omega⟩
  obtain ⟨p0, p1, p2, _⟩ := pow_impl k
  unfold gP
  by_cases h1 : i < 8
  · rw [if_pos h1, show i / 8 = 0 by omega]; exact p0
  rw [if_neg h1]
  by_cases h2 : i < 16
  · rw [if_pos h2, show i / 8 = 1 by omega]; exact p1
  · rw [if_neg h2, show i / 8 = 2 by omega]; exact p2
theorem gP_pos (i : Nat) : 1 ≤ gP i := by unfold gP; split <;> (try split) <;> omega
theorem fit_impl (now : Int) (n0 : 0 ≤ now) (n1 : now ≤ 100000) (i : Nat) (hi : i < 24) (t : S45) (k : Nat) (hk : 5 ≤ k) : gwFit k now i t = some (gOk now i t) := by
  have hw : wrap64 (now + 512) = now + 512 := wrap_small (by omega) (by omega)
  unfold gwFit impl_reach.f gOk
  rw [lev i hi, hw]
  by_cases h1 : t.f0 > now
  · rw [if_pos h1]
    by_cases h2 : t.f0 < now + 512
    · simp only [Option.bind_some, decide_eq_true h2, if_true]
      rw [fit_core2 k now t.f0 (gP i) (gP_pos i) n0 (by omega) (by omega) (by omega) (gP_impl i hi k hk)]
      simp only [Option.bind_some]
      have hd : decide (now < t.f0 ∧ t.f0 < now + 512) = true := decide_eq_true ⟨h1, h2⟩
      rw [hd]
      cases fitP now t.f0 (gP i) with
      | false => simp
      | true =>
        unfold impl_slotAt.f
        rw [gP_impl i hi k hk]
        simp only [Option.bind_some, if_true, Bool.true_and]
        have hp := gP_pos i
        rw [if_neg (by omega)]
        simp only [Option.bind_some]
        rw [slot_at t.f0 ((i / 8 : Nat) : Int) (gP i) (gP_pos i) (by omega) (by omega) (by omega) (by omega)]
        congr 1
        simp only [decide_eq_decide]
        generalize t.f0 / gP i % 8 = x
        omega
    · simp [h2]
  · rw [if_neg h1]
    simp [show ¬ now < t.f0 by omega]
theorem rd45_at (l : List S45) (j : Nat) : rd_T45 l (j : Int) = l.getD j z45 := by unfold rd_T45; rw [Int.toNat_natCast]
theorem drop45 (l : List S45) (j : Nat) (h : j < l.length) : l.drop j = l.getD j z45 :: l.drop (j + 1) := by
  rw [List.drop_eq_getElem_cons h, List.getD_eq_getElem?_getD, List.getElem?_eq_getElem h]; rfl
theorem impl_row (now : Int) (n0 : 0 ≤ now) (n1 : now ≤ 100000) (i : Nat) (hi : i < 24) (L : List (List S45)) (row : List S45) (hn : row.length ≤ 1048576) (d : Nat) : ∀ (k j : Nat) (ids : List Int), j ≤ row.length → row.length - j = d → 5 ≤ k → ids.length + d ≤ 1048576 →
    impl_GoodWheel.l1 (k + d + 1) ids i row j now L = match gRow now i (row.drop j) ids with | none => some false | some ids' => impl_GoodWheel.l0 k ids' (wrap64 ((i : Int) + 1)) now L := by
  induction d with
  | zero =>
    intro k j ids hj hd hk hl
    simp only [impl_GoodWheel.l1, Nat.add_zero]; rw [if_neg (by omega), List.drop_of_length_le (by omega)]; rfl
  | succ d ih =>
    intro k j ids hj hd hk hl
    rw [show k + (d + 1) + 1 = (k + d + 1) + 1 by omega]
    simp only [impl_GoodWheel.l1]
    rw [if_pos (by omega), if_pos (by omega), rd45_at, drop45 row j (by omega), fit_impl now n0 n1 i hi _ _ (by omega), in_eq, wrap_next (n := row.length) (by omega) (by omega)]
    simp only [Option.bind_some, gRow]
    generalize row.getD j z45 = t
    by_cases h1 : 0 ≤ t.f1 ∧ t.f1 ≤ 1000
    · rw [decide_eq_true h1, if_pos rfl]
      cases h2 : gOk now i t with
      | false => simp
      | true =>
        rw [if_pos rfl]
        by_cases h3 : t.f1 ∈ ids
        · rw [if_pos h3, if_neg (by simp [h3])]
        · rw [if_neg h3, if_pos (show ids.length < 4000000 by omega), if_pos (show (0 ≤ t.f1 ∧ t.f1 ≤ 1000) ∧ true = true ∧ t.f1 ∉ ids from ⟨h1, rfl, h3⟩)]
          exact ih k (j + 1) _ (by omega) (by omega) hk (by rw [List.length_append, List.length_singleton]; omega)
    · rw [decide_eq_false h1, if_neg (by decide), if_neg (fun h => h1 h.1)]
theorem spec_row (now : Int) (n0 : 0 ≤ now) (n1 : now ≤ 100000) (i : Nat) (hi : i < 24) (n : Int) (L : List (List S45)) (row : List S45) (hn : row.length ≤ 1048576) (d : Nat) : ∀ (k j : Nat) (ids : List Int), j ≤ row.length → row.length - j = d → 1048577 ≤ k → ids.length + d ≤ 1048576 →
    spec_GoodWheel.l1 (k + d + 1) ids i ((i / 8 : Nat) : Int) L n i row row.length j now L = match gRow now i (row.drop j) ids with | none => some false | some ids' => spec_GoodWheel.l0 k ids' L n (wrap64 ((i : Int) + 1)) now L := by
  have hw : wrap64 (now + 512) = now + 512 := wrap_small (by omega) (by omega)
  induction d with
  | zero =>
    intro k j ids hj hd hk hl
    simp only [spec_GoodWheel.l1, Nat.add_zero]; rw [if_neg (by omega), List.drop_of_length_le (by omega)]; rfl
  | succ d ih =>
    intro k j ids hj hd hk hl
    rw [show k + (d + 1) + 1 = (k + d + 1) + 1 by omega]
    simp only [spec_GoodWheel.l1]
    rw [if_pos (by omega), if_pos (by omega), if_pos (by omega), rd45_at, drop45 row j (by omega), wrap_next (n := row.length) (by omega) (by omega)]
    simp only [gRow]
    generalize row.getD j z45 = t
    obtain ⟨q, hq⟩ : ∃ q, k + d + 1 = q + 5 := ⟨k + d - 4, by omega⟩
    have h512 : spec_l5Pow.f (k + d + 1) 3 = some 512 := by rw [hq]; exact (pow_spec q).2.2.2
    have hT : spec_l5Timer.f (k + d + 1) t.f0 t.f1 now = some (decide ((0 ≤ t.f1 ∧ t.f1 ≤ 1000) ∧ (now < t.f0 ∧ t.f0 < now + 512))) := by
      unfold spec_l5Timer.f
      rw [l1In_eq, h512]
      simp only [Option.bind_some, hw]
      by_cases h1 : 0 ≤ t.f1 ∧ t.f1 ≤ 1000
      · rw [decide_eq_true h1, if_pos rfl]
        by_cases h2 : t.f0 > now
        · rw [if_pos h2]; simp [h1, show now < t.f0 from h2]
        · rw [if_neg h2]; simp [show ¬ now < t.f0 from h2]
      · rw [decide_eq_false h1, if_neg (by decide)]; simp [h1]
    rw [hT, l1Has_eq ids t.f1 (by omega) _ (by omega)]
    simp only [Option.bind_some]
    by_cases h1 : (0 ≤ t.f1 ∧ t.f1 ≤ 1000) ∧ (now < t.f0 ∧ t.f0 < now + 512)
    · rw [decide_eq_true h1, if_pos rfl]
      by_cases h3 : t.f1 ∈ ids
      · rw [decide_eq_true h3, if_pos rfl, if_neg (fun h => h.2.2 h3)]
      · rw [decide_eq_false h3, if_neg (by decide), fit_core (k + d + 1) now t.f0 (gP i) (gP_pos i) n0 (by omega) (by omega) (by omega) (gP_spec i hi _ (by omega)), gP_spec i hi _ (by omega)]
        simp only [Option.bind_some]
        have hp := gP_pos i
        have hg : gOk now i t = (fitP now t.f0 (gP i) && decide (t.f0 / gP i % 8 = (i : Int) % 8)) := by unfold gOk; rw [decide_eq_true h1.2, Bool.true_and]
        rw [hg]
        cases fitP now t.f0 (gP i) with
        | false => simp
        | true =>
          rw [if_pos rfl, if_neg (by omega), div_wrap (by omega) (by omega) hp, Int.tmod_eq_emod_of_nonneg (Int.ediv_nonneg (by omega) (by omega)), Int.tmod_eq_emod_of_nonneg (by omega)]
          by_cases h4 : t.f0 / gP i % 8 = (i : Int) % 8
          · rw [if_pos h4, if_pos (show ids.length < 17592186044416 by omega), if_pos (show (0 ≤ t.f1 ∧ t.f1 ≤ 1000) ∧ (true && decide (t.f0 / gP i % 8 = (i : Int) % 8)) = true ∧ t.f1 ∉ ids from ⟨h1.1, by simp [h4], h3⟩)]
            exact ih k (j + 1) _ (by omega) (by omega) hk (by rw [List.length_append, List.length_singleton]; omega)
          · rw [if_neg h4]; simp [h4]
    · rw [decide_eq_false h1, if_neg (by decide)]
      rw [if_neg]
      rintro ⟨a, b, _⟩
      unfold gOk at b
      simp only [Bool.and_eq_true, decide_eq_true_eq] at b
      exact h1 ⟨a, b.1.1⟩
def gAll (now : Int) : Nat → List (List S45) → List Int → Bool
  | _, [], ids => decide ((ids.length : Int) ≤ 60)
  | i, row :: r, ids => match gRow now i row ids with | none => false | some ids' => gAll now (i + 1) r ids'
def gTot : List (List S45) → Nat
  | [] => 0
  | row :: r => row.length + gTot r
theorem gRow_len (now : Int) (i : Nat) : ∀ (row : List S45) (ids ids' : List Int), gRow now i row ids = some ids' → ids'.length = ids.length + row.length
  | [], ids, ids', h => by simp [gRow] at h; simp [h]
  | t :: r, ids, ids', h => by
    unfold gRow at h
    split at h
    · have := gRow_len now i r _ _ h
      simp at this ⊢; omega
    · exact absurd h (by simp)
theorem rdL2_at (L : List (List S45)) (j : Nat) : rd_L2 L (j : Int) = L.getD j [] := by unfold rd_L2; rw [Int.toNat_natCast]
theorem dropL2 (L : List (List S45)) (j : Nat) (h : j < L.length) : L.drop j = L.getD j [] :: L.drop (j + 1) := by
  rw [List.drop_eq_getElem_cons h, List.getD_eq_getElem?_getD, List.getElem?_eq_getElem h]; rfl
theorem impl_all (now : Int) (n0 : 0 ≤ now) (n1 : now ≤ 100000) (L : List (List S45)) (hL : L.length = 24) (d : Nat) : ∀ (k i : Nat) (ids : List Int), i ≤ L.length → L.length - i = d → 5 ≤ k → ids.length + gTot (L.drop i) ≤ 1048576 →
    impl_GoodWheel.l0 (k + gTot (L.drop i) + 2 * d + 1) ids i now L = some (gAll now i (L.drop i) ids) := by
  induction d with
  | zero =>
    intro k i ids hi hd hk hl
    simp only [impl_GoodWheel.l0]; rw [if_neg (by omega), List.drop_of_length_le (by omega)]; rfl
  | succ d ih =>
    intro k i ids hi hd hk hl
    have e := dropL2 L i (by omega)
    rw [e] at hl ⊢
    simp only [gTot] at hl ⊢
    generalize hrow : L.getD i [] = row at hl ⊢
    simp only [impl_GoodWheel.l0]
    rw [if_pos (by omega), if_pos (by omega), rdL2_at, hrow, show k + (row.length + gTot (L.drop (i + 1))) + 2 * (d + 1) = (k + gTot (L.drop (i + 1)) + 2 * d + 1) + row.length + 1 by omega]
    have h1 := impl_row now n0 n1 i (by omega) L row (by omega) row.length (k + gTot (L.drop (i + 1)) + 2 * d + 1) 0 ids (by omega) (by omega) (by omega) (by omega)
    rw [show ((0 : Nat) : Int) = 0 from rfl, List.drop_zero] at h1
    rw [h1]
    unfold gAll
    cases h2 : gRow now i row ids with
    | none => rfl
    | some ids' =>
      have h3 := gRow_len now i row ids ids' h2
      show impl_GoodWheel.l0 _ _ _ _ _ = _
      rw [wrap_next (n := L.length) (by omega) (by omega)]
      exact ih k (i + 1) ids' (by omega) (by omega) hk (by omega)
theorem spec_all (now : Int) (n0 : 0 ≤ now) (n1 : now ≤ 100000) (L : List (List S45)) (hL : L.length = 24) (d : Nat) : ∀ (k i : Nat) (ids : List Int), i ≤ L.length → L.length - i = d → 1048577 ≤ k → ids.length + gTot (L.drop i) ≤ 1048576 →
    spec_GoodWheel.l0 (k + gTot (L.drop i) + 2 * d + 1) ids L L.length i now L = some (gAll now i (L.drop i) ids) := by
  induction d with
  | zero =>
    intro k i ids hi hd hk hl
    simp only [spec_GoodWheel.l0]; rw [if_neg (by omega), List.drop_of_length_le (by omega)]; rfl
  | succ d ih =>
    intro k i ids hi hd hk hl
    have e := dropL2 L i (by omega)
    rw [e] at hl ⊢
    simp only [gTot] at hl ⊢
    generalize hrow : L.getD i [] = row at hl ⊢
    simp only [spec_GoodWheel.l0]
    rw [if_pos (by omega), if_pos (by omega), if_pos (by omega), rdL2_at, hrow, lev i (by omega), show k + (row.length + gTot (L.drop (i + 1))) + 2 * (d + 1) = (k + gTot (L.drop (i + 1)) + 2 * d + 1) + row.length + 1 by omega]
    have h1 := spec_row now n0 n1 i (by omega) L.length L row (by omega) row.length (k + gTot (L.drop (i + 1)) + 2 * d + 1) 0 ids (by omega) (by omega) (by omega) (by omega)
    rw [show ((0 : Nat) : Int) = 0 from rfl, List.drop_zero] at h1
    rw [h1]
    unfold gAll
    cases h2 : gRow now i row ids with
    | none => rfl
    | some ids' =>
      have h3 := gRow_len now i row ids ids' h2
      show spec_GoodWheel.l0 _ _ _ _ _ _ _ = _
      rw [wrap_next (n := L.length) (by omega) (by omega)]
      exact ih k (i + 1) ids' (by omega) (by omega) hk (by omega)
theorem both_good (now : Int) (L : List (List S45)) (ht : gTot L ≤ 1048576) (K : Nat) (hK : 3000000 ≤ K) : ∃ b, spec_GoodWheel.f K now L = some b ∧ impl_GoodWheel.f K now L = some b := by
  unfold spec_GoodWheel.f impl_GoodWheel.f impl_isNow.f
  rw [in_eq, l1In_eq]
  simp only [Option.bind_some]
  obtain ⟨q, rfl⟩ : ∃ q, K = q + 1 := ⟨K - 1, by omega⟩
  by_cases h : 0 ≤ now ∧ now ≤ 100000
  · rw [decide_eq_true h, if_pos rfl, if_pos rfl]
    simp only [spec_GoodWheel.j0]
    by_cases h2 : L.length = 24
    · have e1 := spec_all now h.1 h.2 L h2 24 (q - gTot L - 49) 0 [] (by omega) (by omega) (by omega) (by simpa using ht)
      have e2 := impl_all now h.1 h.2 L h2 24 (q + 1 - gTot L - 49) 0 [] (by omega) (by omega) (by omega) (by simpa using ht)
      rw [List.drop_zero] at e1 e2
      rw [show q - gTot L - 49 + gTot L + 2 * 24 + 1 = q by omega] at e1
      rw [show q + 1 - gTot L - 49 + gTot L + 2 * 24 + 1 = q + 1 by omega] at e2
      refine ⟨gAll now 0 L [], ?_, ?_⟩
      · rw [if_neg (by rw [h2]; decide)]; exact e1
      · rw [if_pos (by omega)]; exact e2
    · refine ⟨false, ?_, ?_⟩
      · rw [if_pos (by simp; omega)]
      · rw [if_neg (by omega)]
  · rw [decide_eq_false h]
    exact ⟨false, by simp [spec_GoodWheel.j0], by simp⟩

theorem rd_L2_at (L : List (List S45)) (i : Nat) (h : i < L.length) : rd_L2 L (i : Int) = L[i] := by
  unfold rd_L2
  rw [Int.toNat_natCast, List.getD_eq_getElem?_getD, List.getElem?_eq_getElem h]
  rfl
theorem flat_drop (L : List (List S45)) (i : Nat) (h : i < L.length) : (L.drop i).flatten = L[i] ++ (L.drop (i + 1)).flatten := by
  rw [List.drop_eq_getElem_cons h, List.flatten_cons]
theorem wrap_id {x : Int} (h0 : -9223372036854775808 ≤ x) (h1 : x ≤ 9223372036854775807) : wrap64 x = x := by
  unfold wrap64
  omega
theorem concat_l1 (L : List (List S45)) (hL : L.length ≤ 1000000000) (d : Nat) : ∀ (k : Nat) (x : List S45) (i : Nat), i ≤ L.length → L.length - i = d → x.length + (L.drop i).flatten.length < 8796093022208 → d < k → impl_Timer_77.l1 k x L (L.length : Int) (i : Int) = some (x ++ (L.drop i).flatten) := by
  induction d with
  | zero =>
    intro k x i h1 hd hs hk
    obtain ⟨k, rfl⟩ : ∃ m, k = m + 1 := ⟨k - 1, by omega⟩
    simp only [impl_Timer_77.l1]
    rw [if_neg (by omega), List.drop_eq_nil_of_le (by omega)]
    simp
  | succ d ih =>
    intro k x i h1 hd hs hk
    obtain ⟨k, rfl⟩ : ∃ m, k = m + 1 := ⟨k - 1, by omega⟩
    have hi : i < L.length := by omega
    rw [flat_drop L i hi, List.length_append] at hs
    have e := ih k (x ++ L[i]) (i + 1) (by omega) (by omega) (by rw [List.length_append]; omega) (by omega)
    simp only [impl_Timer_77.l1]
    rw [if_pos (by omega), if_pos (by omega), if_pos (by omega), rd_L2_at L i hi, if_pos (by omega), wrap_id (x := (i : Int) + 1) (by omega) (by omega), show (i : Int) + 1 = ((i + 1 : Nat) : Int) from rfl, e, flat_drop L i hi, List.append_assoc]
theorem concat_l0 (L : List (List S45)) (hL : L.length ≤ 1000000000) (d : Nat) : ∀ (k n i : Nat), i ≤ L.length → L.length - i = d → n + (L.drop i).flatten.length < 8796093022208 → L.flatten.length < 8796093022208 → d + L.length + 1 < k → impl_Timer_77.l0 k L (n : Int) L (L.length : Int) (i : Int) = some L.flatten := by
  induction d with
  | zero =>
    intro k n i h1 hd hs hf hk
    obtain ⟨k, rfl⟩ : ∃ m, k = m + 1 := ⟨k - 1, by omega⟩
    have e := concat_l1 L hL L.length k [] 0 (by omega) (by omega) (by rw [List.drop_zero, List.length_nil]; omega) (by omega)
    rw [List.drop_zero, List.nil_append] at e
    simp only [impl_Timer_77.l0]
    rw [if_neg (by omega), if_pos (by omega)]
    exact e
  | succ d ih =>
    intro k n i h1 hd hs hf hk
    obtain ⟨k, rfl⟩ : ∃ m, k = m + 1 := ⟨k - 1, by omega⟩
    have hi : i < L.length := by omega
    rw [flat_drop L i hi, List.length_append] at hs
    have e := ih k (n + L[i].length) (i + 1) (by omega) (by omega) (by omega) hf (by omega)
    simp only [impl_Timer_77.l0]
    rw [if_pos (by omega), if_pos (by omega), if_pos (by omega), rd_L2_at L i hi, wrap_id (x := (n : Int) + (L[i].length : Int)) (by omega) (by omega), wrap_id (x := (i : Int) + 1) (by omega) (by omega), if_neg (by omega), show (i : Int) + 1 = ((i + 1 : Nat) : Int) from rfl, show (n : Int) + (L[i].length : Int) = ((n + L[i].length : Nat) : Int) from rfl, e]
theorem concat_eq (L : List (List S45)) (hL : L.length ≤ 1000000000) (hf : L.flatten.length < 8796093022208) (k : Nat) (hk : 2 * L.length + 2 ≤ k) : impl_Timer_77.f k L = some L.flatten :=
  concat_l0 L hL L.length k 0 0 (by omega) (by omega) (by rw [List.drop_zero]; omega) hf (by omega)

theorem any_eq (p : S45 → Bool) : ∀ l : List S45, anyO45 (fun x => some (p x)) l = some (l.any p)
  | [] => rfl
  | x :: l => by
    simp only [anyO45, Option.bind_some, List.any_cons]
    cases h : p x
    · simp [any_eq p l]
    · simp
theorem has_eq (n : Int) (L : List (List S45)) (id : Int) (hL : L.length ≤ 1000000000) (hf : L.flatten.length < 8796093022208) (k : Nat) (hk : 2 * L.length + 2 ≤ k) : impl_Wheel_has.f k n L id = some (L.flatten.any fun x => x.f1 == id) := by
  unfold impl_Wheel_has.f
  rw [concat_eq L hL hf k hk, Option.bind_some, any_eq]

theorem flat_getElem (L : List (List S45)) (i : Nat) (h : i < L.length) : L[i].length ≤ L.flatten.length := by
  have e : L.flatten = (L.take i).flatten ++ (L.drop i).flatten := by rw [← List.flatten_append, List.take_append_drop]
  rw [e, flat_drop L i h, List.length_append, List.length_append]
  omega
theorem own_loop (n : Int) (L : List (List S45)) (hL : L.length ≤ 1000000000) (hf : L.flatten.length < 8796093022208) (d : Nat) : ∀ (k i : Nat), i ≤ L.length → L.length - i = d → d < k → spec_l5Own.l0 k (L.take i) L (L.length : Int) (i : Int) n L = some (n, L) := by
  induction d with
  | zero =>
    intro k i h1 hd hk
    obtain ⟨k, rfl⟩ : ∃ m, k = m + 1 := ⟨k - 1, by omega⟩
    simp only [spec_l5Own.l0]
    rw [if_neg (by omega), List.take_of_length_le (by omega)]
  | succ d ih =>
    intro k i h1 hd hk
    obtain ⟨k, rfl⟩ : ∃ m, k = m + 1 := ⟨k - 1, by omega⟩
    have hi : i < L.length := by omega
    have hr := flat_getElem L i hi
    have e := ih k (i + 1) (by omega) (by omega) (by omega)
    simp only [spec_l5Own.l0, Option.bind_some]
    rw [if_pos (by omega), if_pos (by omega), if_pos (by omega), rd_L2_at L i hi, if_pos (by simp only [List.length_nil]; omega), if_pos (by rw [List.length_take]; omega), wrap_id (x := (i : Int) + 1) (by omega) (by omega), show (i : Int) + 1 = ((i + 1 : Nat) : Int) from rfl, List.nil_append, List.take_append_getElem hi, e]
theorem own_eq (n : Int) (L : List (List S45)) (hL : L.length ≤ 1000000000) (hf : L.flatten.length < 8796093022208) (k : Nat) (hk : L.length < k) : spec_l5Own.f k n L = some (n, L) :=
  own_loop n L hL hf L.length k 0 (by omega) (by omega) hk
theorem clone_loop (n : Int) (L : List (List S45)) (hL : L.length ≤ 1000000000) (hf : L.flatten.length < 8796093022208) (d : Nat) : ∀ (k i : Nat), i ≤ L.length → L.length - i = d → d < k → impl_cloneWheel.l0 k L (L.length : Int) (i : Int) n (L.take i) = some (n, L) := by
  induction d with
  | zero =>
    intro k i h1 hd hk
    obtain ⟨k, rfl⟩ : ∃ m, k = m + 1 := ⟨k - 1, by omega⟩
    simp only [impl_cloneWheel.l0]
    rw [if_neg (by omega), List.take_of_length_le (by omega)]
  | succ d ih =>
    intro k i h1 hd hk
    obtain ⟨k, rfl⟩ : ∃ m, k = m + 1 := ⟨k - 1, by omega⟩
    have hi : i < L.length := by omega
    have hr := flat_getElem L i hi
    have e := ih k (i + 1) (by omega) (by omega) (by omega)
    simp only [impl_cloneWheel.l0]
    rw [if_pos (by omega), if_pos (by omega), if_pos (by omega), rd_L2_at L i hi, show impl_Timer_75.f L[i] = some L[i] by unfold impl_Timer_75.f; rw [if_pos (by omega)]]
    simp only [Option.bind_some]
    rw [if_pos (by rw [List.length_take]; omega), wrap_id (x := (i : Int) + 1) (by omega) (by omega), show (i : Int) + 1 = ((i + 1 : Nat) : Int) from rfl, List.take_append_getElem hi, e]
theorem clone_eq (n : Int) (L : List (List S45)) (hL : L.length ≤ 1000000000) (hf : L.flatten.length < 8796093022208) (k : Nat) (hk : L.length < k) : impl_cloneWheel.f k n L = some (n, L) :=
  clone_loop n L hL hf L.length k 0 (by omega) (by omega) hk

/-- a timer that may lie in a slot -/
def okT (now : Int) (i : Nat) (t : S45) : Prop := (0 ≤ t.f1 ∧ t.f1 ≤ 1000) ∧ gOk now i t = true
theorem gRow_yes (now : Int) (i : Nat) : ∀ (row : List S45) (ids : List Int), (∀ t ∈ row, okT now i t) → (ids ++ row.map (·.f1)).Nodup → gRow now i row ids = some (ids ++ row.map (·.f1))
  | [], ids, _, _ => by simp [gRow]
  | t :: r, ids, h1, h2 => by
    have ht := h1 t List.mem_cons_self
    have h3 : (ids ++ [t.f1] ++ r.map (·.f1)).Nodup := by simpa using h2
    have h4 : t.f1 ∉ ids := fun hm => by
      rw [List.map_cons, List.nodup_append] at h2
      exact h2.2.2 _ hm _ List.mem_cons_self rfl
    unfold gRow
    rw [if_pos ⟨ht.1, ht.2, h4⟩, gRow_yes now i r _ (fun x hx => h1 x (List.mem_cons_of_mem _ hx)) h3]
    simp
theorem gRow_no (now : Int) (i : Nat) : ∀ (row : List S45) (ids ids' : List Int), ids.Nodup → gRow now i row ids = some ids' → (∀ t ∈ row, okT now i t) ∧ (ids ++ row.map (·.f1)).Nodup ∧ ids' = ids ++ row.map (·.f1)
  | [], ids, ids', hn, h => by
    simp only [gRow, Option.some.injEq] at h
    subst h
    refine ⟨fun t ht => (List.not_mem_nil ht).elim, ?_, ?_⟩ <;> simp [hn]
  | t :: r, ids, ids', hn, h => by
    unfold gRow at h
    split at h
    · rename_i c
      have hn2 : (ids ++ [t.f1]).Nodup := by
        rw [List.nodup_append]
        refine ⟨hn, by simp, fun a ha b hb => ?_⟩
        rw [List.mem_singleton] at hb
        subst hb
        exact fun e => c.2.2 (e ▸ ha)
      obtain ⟨h1, h2, h3⟩ := gRow_no now i r _ _ hn2 h
      refine ⟨fun x hx => ?_, by simpa using h2, by simpa using h3⟩
      rcases List.mem_cons.1 hx with rfl | hx
      · exact ⟨c.1, c.2.1⟩
      · exact h1 x hx
    · cases h
theorem gAll_iff (now : Int) : ∀ (i : Nat) (L : List (List S45)) (ids : List Int), ids.Nodup → (gAll now i L ids = true ↔ (∀ j (hj : j < L.length), ∀ t ∈ L[j], okT now (i + j) t) ∧ (ids ++ L.flatten.map (·.f1)).Nodup ∧ ids.length + L.flatten.length ≤ 60)
  | i, [], ids, hn => by
    simp only [gAll, decide_eq_true_eq]
    constructor
    · intro h
      exact ⟨fun j hj => (Nat.not_lt_zero _ hj).elim, by simpa using hn, by simp; omega⟩
    · rintro ⟨_, _, h⟩
      simp at h
      omega
  | i, row :: r, ids, hn => by
    unfold gAll
    constructor
    · intro h
      split at h
      · cases h
      · rename_i ids' hg
        obtain ⟨h1, h2, h3⟩ := gRow_no now i row ids ids' hn hg
        subst h3
        obtain ⟨g1, g2, g3⟩ := (gAll_iff now (i + 1) r _ h2).1 h
        refine ⟨fun j hj t ht => ?_, by simpa using g2, by simp at g3 ⊢; omega⟩
        cases j with
        | zero => exact h1 t ht
        | succ j =>
          have := g1 j (by simpa using hj) t (by simpa using ht)
          rwa [show i + 1 + j = i + (j + 1) by omega] at this
    · rintro ⟨g1, g2, g3⟩
      have n2 : (ids ++ row.map (·.f1)).Nodup := by
        have : (ids ++ row.map (·.f1) ++ r.flatten.map (·.f1)).Nodup := by simpa using g2
        exact (List.nodup_append.1 this).1
      rw [gRow_yes now i row ids (fun t ht => g1 0 (by simp) t ht) n2]
      refine (gAll_iff now (i + 1) r _ n2).2 ⟨fun j hj t ht => ?_, by simpa using g2, by simp at g3 ⊢; omega⟩
      have := g1 (j + 1) (by simpa using hj) t (by simpa using ht)
      rwa [show i + (j + 1) = i + 1 + j by omega] at this

theorem good_val (now : Int) (L : List (List S45)) (ht : gTot L ≤ 1048576) (K : Nat) (hK : 3000000 ≤ K) : spec_GoodWheel.f K now L = some (decide (0 ≤ now ∧ now ≤ 100000) && (decide (L.length = 24) && gAll now 0 L [])) ∧ impl_GoodWheel.f K now L = some (decide (0 ≤ now ∧ now ≤ 100000) && (decide (L.length = 24) && gAll now 0 L [])) := by
  unfold spec_GoodWheel.f impl_GoodWheel.f impl_isNow.f
  rw [in_eq, l1In_eq]
  simp only [Option.bind_some]
  obtain ⟨q, rfl⟩ : ∃ q, K = q + 1 := ⟨K - 1, by omega⟩
  by_cases h : 0 ≤ now ∧ now ≤ 100000
  · rw [decide_eq_true h, if_pos rfl, if_pos rfl]
    simp only [spec_GoodWheel.j0]
    by_cases h2 : L.length = 24
    · have e1 := spec_all now h.1 h.2 L h2 24 (q - gTot L - 49) 0 [] (by omega) (by omega) (by omega) (by simpa using ht)
      have e2 := impl_all now h.1 h.2 L h2 24 (q + 1 - gTot L - 49) 0 [] (by omega) (by omega) (by omega) (by simpa using ht)
      rw [List.drop_zero] at e1 e2
      rw [show q - gTot L - 49 + gTot L + 2 * 24 + 1 = q by omega] at e1
      rw [show q + 1 - gTot L - 49 + gTot L + 2 * 24 + 1 = q + 1 by omega] at e2
      rw [decide_eq_true h2, Bool.true_and, Bool.true_and]
      refine ⟨?_, ?_⟩
      · rw [if_neg (by rw [h2]; decide)]; exact e1
      · rw [if_pos (by omega)]; exact e2
    · rw [decide_eq_false h2, Bool.false_and, Bool.and_false]
      refine ⟨?_, ?_⟩
      · rw [if_pos (by simp; omega)]
      · rw [if_neg (by omega)]
  · rw [decide_eq_false h]
    exact ⟨by simp [spec_GoodWheel.j0], by simp⟩

def conv (x : S43) : S45 := ⟨x.f0, x.f1⟩
def gTot3 : List (List S43) → Nat
  | [] => 0
  | row :: r => row.length + gTot3 r
theorem set_take {α : Type} (acc : List α) (v : α) (j : Nat) (h : j < acc.length) : (acc.set j v).take (j + 1) = acc.take j ++ [v] := by
  rw [List.take_succ_eq_append_getElem (by simpa using h), List.getElem_set_self]
  simp [List.take_set_of_le]
theorem rd43_at (l : List S43) (j : Nat) : rd_T43 l (j : Int) = l.getD j z43 := by unfold rd_T43; rw [Int.toNat_natCast]
theorem drop43 (l : List S43) (j : Nat) (h : j < l.length) : l.drop j = l.getD j z43 :: l.drop (j + 1) := by
  rw [List.drop_eq_getElem_cons h, List.getD_eq_getElem?_getD, List.getElem?_eq_getElem h]; rfl
theorem rdL4_at (L : List (List S43)) (j : Nat) : rd_L4 L (j : Int) = L.getD j [] := by unfold rd_L4; rw [Int.toNat_natCast]
theorem dropL4 (L : List (List S43)) (j : Nat) (h : j < L.length) : L.drop j = L.getD j [] :: L.drop (j + 1) := by
  rw [List.drop_eq_getElem_cons h, List.getD_eq_getElem?_getD, List.getElem?_eq_getElem h]; rfl
theorem toS_loop (l : List S43) (hn : l.length ≤ 1048576) (d : Nat) : ∀ (k j : Nat) (acc : List S45), j ≤ l.length → l.length - j = d → d < k → acc.length = l.length → laws_toTimerS.l0 k l acc j = some (acc.take j ++ (l.drop j).map conv) := by
  induction d with
  | zero =>
    intro k j acc hj hd hk ha
    obtain ⟨k, rfl⟩ : ∃ m, k = m + 1 := ⟨k - 1, by omega⟩
    simp only [laws_toTimerS.l0]; rw [if_neg (by omega), List.drop_of_length_le (by omega), List.take_of_length_le (by omega)]; simp
  | succ d ih =>
    intro k j acc hj hd hk ha
    obtain ⟨k, rfl⟩ : ∃ m, k = m + 1 := ⟨k - 1, by omega⟩
    simp only [laws_toTimerS.l0, laws_toTimer.f]
    rw [if_pos (by omega), if_pos (by omega)]
    simp only [Option.bind_some]
    rw [if_pos (by omega), wrap_next (n := l.length) (by omega) (by omega), Int.toNat_natCast, rd43_at, ih k (j + 1) _ (by omega) (by omega) (by omega) (by simpa using ha), set_take _ _ _ (by omega), drop43 l j (by omega)]
    simp [conv]
theorem toS_eq (l : List S43) (hn : l.length ≤ 1048576) (k : Nat) (hk : 1048576 < k) : laws_toTimerS.f k l = some (l.map conv) := by
  unfold laws_toTimerS.f
  rw [if_pos (by omega), if_pos (by omega)]
  have := toS_loop l hn l.length k 0 (List.replicate ((l.length : Int) : Int).toNat z45) (by omega) (by omega) (by omega) (by simp)
  simpa using this
theorem len_tot (L : List (List S43)) (j : Nat) : (L.getD j []).length ≤ gTot3 L := by
  induction L generalizing j with
  | nil => simp
  | cons r R ih =>
    cases j with
    | zero => simp [gTot3]
    | succ j => have := ih j; simp [gTot3] at this ⊢; omega
theorem toSS_loop (l : List (List S43)) (hn : l.length ≤ 1048576) (ht : gTot3 l ≤ 1048576) (d : Nat) : ∀ (k j : Nat) (acc : List (List S45)), j ≤ l.length → l.length - j = d → d + 1048577 < k → acc.length = l.length → laws_toTimerSS.l0 k l acc j = some (acc.take j ++ (l.drop j).map (·.map conv)) := by
  induction d with
  | zero =>
    intro k j acc hj hd hk ha
    obtain ⟨k, rfl⟩ : ∃ m, k = m + 1 := ⟨k - 1, by omega⟩
    simp only [laws_toTimerSS.l0]; rw [if_neg (by omega), List.drop_of_length_le (by omega), List.take_of_length_le (by omega)]; simp
  | succ d ih =>
    intro k j acc hj hd hk ha
    obtain ⟨k, rfl⟩ : ∃ m, k = m + 1 := ⟨k - 1, by omega⟩
    simp only [laws_toTimerSS.l0]
    have hr := len_tot l j
    rw [if_pos (by omega), if_pos (by omega), rdL4_at, toS_eq _ (by omega) _ (by omega)]
    simp only [Option.bind_some]
    rw [if_pos (by omega), wrap_next (n := l.length) (by omega) (by omega), Int.toNat_natCast, ih k (j + 1) _ (by omega) (by omega) (by omega) (by simpa using ha), set_take _ _ _ (by omega), dropL4 l j (by omega)]
    simp
theorem toSS_eq (l : List (List S43)) (hn : l.length ≤ 1048576) (ht : gTot3 l ≤ 1048576) (k : Nat) (hk : 3000000 < k) : laws_toTimerSS.f k l = some (l.map (·.map conv)) := by
  unfold laws_toTimerSS.f
  rw [if_pos (by omega), if_pos (by omega)]
  have := toSS_loop l hn ht l.length k 0 (List.replicate ((l.length : Int) : Int).toNat []) (by omega) (by omega) (by omega) (by simp)
  simpa using this
theorem tot_conv : ∀ L : List (List S43), gTot (L.map (·.map conv)) = gTot3 L
  | [] => rfl
  | r :: R => by simp [gTot, gTot3, tot_conv R]
theorem eqS_loop (a : List S45) (hn : a.length ≤ 1048576) (d : Nat) : ∀ (k j : Nat), j ≤ a.length → a.length - j = d → d < k → laws_eqTimerS.l0 k a a j = some true := by
  induction d with
  | zero =>
    intro k j hj hd hk
    obtain ⟨k, rfl⟩ : ∃ m, k = m + 1 := ⟨k - 1, by omega⟩
    simp only [laws_eqTimerS.l0]; rw [if_neg (by omega)]
  | succ d ih =>
    intro k j hj hd hk
    obtain ⟨k, rfl⟩ : ∃ m, k = m + 1 := ⟨k - 1, by omega⟩
    simp only [laws_eqTimerS.l0]; rw [if_pos (by omega), if_pos (by omega), if_pos (by omega)]
    unfold laws_eqTimer.f
    simp only [if_true, Option.bind_some]
    rw [wrap_next (n := a.length) (by omega) (by omega)]
    exact ih k (j + 1) (by omega) (by omega) (by omega)
theorem eqS_self (a : List S45) (hn : a.length ≤ 1048576) (k : Nat) (hk : 1048576 < k) : laws_eqTimerS.f k a a = some true := by
  unfold laws_eqTimerS.f
  rw [if_pos rfl]
  exact eqS_loop a hn a.length k 0 (by omega) (by omega) (by omega)
theorem len_tot5 (L : List (List S45)) (j : Nat) : (L.getD j []).length ≤ gTot L := by
  induction L generalizing j with
  | nil => simp
  | cons r R ih =>
    cases j with
    | zero => simp [gTot]
    | succ j => have := ih j; simp [gTot] at this ⊢; omega
theorem eqSS_loop (a : List (List S45)) (hn : a.length ≤ 1048576) (ht : gTot a ≤ 1048576) (d : Nat) : ∀ (k j : Nat), j ≤ a.length → a.length - j = d → d + 1048577 < k → laws_eqTimerSS.l0 k a a j = some true := by
  induction d with
  | zero =>
    intro k j hj hd hk
    obtain ⟨k, rfl⟩ : ∃ m, k = m + 1 := ⟨k - 1, by omega⟩
    simp only [laws_eqTimerSS.l0]; rw [if_neg (by omega)]
  | succ d ih =>
    intro k j hj hd hk
    obtain ⟨k, rfl⟩ : ∃ m, k = m + 1 := ⟨k - 1, by omega⟩
    have hr := len_tot5 a j
    simp only [laws_eqTimerSS.l0]; rw [if_pos (by omega), if_pos (by omega), if_pos (by omega), rdL2_at, eqS_self _ (by omega) _ (by omega)]
    simp only [if_true, Option.bind_some]
    rw [wrap_next (n := a.length) (by omega) (by omega)]
    exact ih k (j + 1) (by omega) (by omega) (by omega)
theorem sz_loop (l : List (List S43)) (hn : l.length ≤ 1048576) (hr : ∀ y ∈ l, y.length ≤ 9223372036854775807) (d : Nat) : ∀ (k j : Nat) (a : Int), j ≤ l.length → l.length - j = d → d < k → 0 ≤ a → a ≤ 1048576 → ∃ r, laws_szTimerSS.l0 k l a j = some r ∧ (0 ≤ r → (gTot3 (l.drop j) : Int) ≤ a) := by
  induction d with
  | zero =>
    intro k j a hj hd hk h0 h1
    obtain ⟨k, rfl⟩ : ∃ m, k = m + 1 := ⟨k - 1, by omega⟩
    refine ⟨a, ?_, fun _ => ?_⟩
    · simp only [laws_szTimerSS.l0]; rw [if_neg (by omega)]
    · rw [List.drop_of_length_le (by omega)]; simpa [gTot3] using h0
  | succ d ih =>
    intro k j a hj hd hk h0 h1
    obtain ⟨k, rfl⟩ : ∃ m, k = m + 1 := ⟨k - 1, by omega⟩
    have hy : (l.getD j []).length ≤ 9223372036854775807 := by
      rw [List.getD_eq_getElem?_getD, List.getElem?_eq_getElem (by omega)]; exact hr _ (List.getElem_mem _)
    simp only [laws_szTimerSS.l0, laws_szTimerS.f]
    rw [if_pos (by omega), if_pos (by omega), rdL4_at, dropL4 l j (by omega), wrap_next (n := l.length) (by omega) (by omega)]
    simp only [gTot3]
    generalize l.getD j [] = row at hy ⊢
    rw [wrap_small (x := a - (row.length : Int)) (by omega) (by omega)]
    by_cases c : a - (row.length : Int) < 0
    · rw [if_pos c]; exact ⟨-1, by simp, fun h => absurd h (by decide)⟩
    · rw [if_neg c]
      simp only [Option.bind_some]
      rw [if_neg c]
      obtain ⟨r, h2, h3⟩ := ih k (j + 1) (a - row.length) (by omega) (by omega) (by omega) (by omega) (by omega)
      exact ⟨r, h2, fun h => by have := h3 h; omega⟩
theorem sz_wheel (l : List (List S43)) (a0 : Int) (hl : l.length ≤ 9223372036854775807) (hr : ∀ y ∈ l, y.length ≤ 9223372036854775807) (k : Nat) (hk : 1048576 < k) : ∃ r, laws_szWheel.f k a0 l 1048576 = some r ∧ (0 ≤ r → l.length ≤ 1048576 ∧ gTot3 l ≤ 1048576) := by
  unfold laws_szWheel.f laws_szTimerSS.f
  rw [wrap_small (x := 1048576 - (l.length : Int)) (by omega) (by omega)]
  by_cases c : 1048576 - (l.length : Int) < 0
  · rw [if_pos c]; exact ⟨-1, by simp, fun h => absurd h (by decide)⟩
  · rw [if_neg c]
    obtain ⟨r, h2, h3⟩ := sz_loop l (by omega) hr l.length k 0 (1048576 - l.length) (by omega) (by omega) (by omega) (by omega) (by omega)
    rw [show ((0 : Nat) : Int) = 0 from rfl] at h2
    rw [h2]
    simp only [Option.bind_some]
    by_cases c2 : r < 0
    · rw [if_pos c2]; exact ⟨-1, rfl, fun h => absurd h (by decide)⟩
    · rw [if_neg c2]; exact ⟨r, rfl, fun h => ⟨by omega, by have := h3 h; rw [List.drop_zero] at this; omega⟩⟩

theorem tot_flat : ∀ L : List (List S45), gTot L = L.flatten.length
  | [] => rfl
  | r :: R => by simp [gTot, tot_flat R]
/-- what a mark leaves of a row, of rows -/
def mkT (a : Int) : List S45 → List S45
  | [] => []
  | _ :: l => ⟨a, a + 1⟩ :: mkT (a + 2) l
theorem mkT_length : ∀ (l : List S45) (a : Int), (mkT a l).length = l.length
  | [], _ => rfl
  | _ :: l, a => by simp [mkT, mkT_length l]
def mkTT (a : Int) : List (List S45) → List (List S45)
  | [] => []
  | r :: L => mkT a r :: mkTT (a + 2 * (r.length : Int)) L
theorem markT_loop : ∀ (l : List S45) (k : Nat) (acc : List S45) (a : Int), acc.length + l.length ≤ 140737488351232 → 0 ≤ a → a + 2 * (l.length : Int) ≤ 1000000000000000000 → l.length < k →
    laws_markTimerS.l0 k (acc ++ l) a (acc.length : Int) = some (a + 2 * (l.length : Int), acc ++ mkT a l)
  | [], k, acc, a, h1, h2, h3, hk => by
    obtain ⟨k, rfl⟩ : ∃ m, k = m + 1 := ⟨k - 1, by omega⟩
    simp only [laws_markTimerS.l0]
    rw [if_neg (by simp)]
    simp [mkT]
  | x :: l, k, acc, a, h1, h2, h3, hk => by
    simp only [List.length_cons] at h1 h3 hk
    obtain ⟨k, rfl⟩ : ∃ m, k = m + 1 := ⟨k - 1, by omega⟩
    simp only [laws_markTimerS.l0, Option.bind_some]
    rw [if_pos (by simp; omega), if_pos (by omega), Int.toNat_natCast, rd45_at, rd45_at]
    have e1 : (acc ++ x :: l).set acc.length (⟨a, ((acc ++ x :: l).getD acc.length z45).f1⟩ : S45) = acc ++ ⟨a, x.f1⟩ :: l := by simp
    rw [e1]
    have e2 : (acc ++ (⟨a, x.f1⟩ : S45) :: l).set acc.length (⟨((acc ++ (⟨a, x.f1⟩ : S45) :: l).getD acc.length z45).f0, wrap64 (a + 1)⟩ : S45) = (acc ++ [⟨a, a + 1⟩]) ++ l := by
      rw [wrap_small (x := a + 1) (by omega) (by omega)]; simp
    have ih := markT_loop l k (acc ++ [⟨a, a + 1⟩]) (a + 2) (by simp; omega) (by omega) (by omega) (by omega)
    rw [e2, wrap_small (x := a + 1) (by omega) (by omega), wrap_small (x := a + 1 + 1) (by omega) (by omega), wrap_next (n := acc.length + (l.length + 1)) (by omega) (by omega), show a + 1 + 1 = a + 2 by omega]
    rw [List.length_append, List.length_singleton] at ih
    rw [ih]
    simp only [mkT, List.append_assoc, List.singleton_append, List.length_cons]
    congr 2
    omega
theorem markT_eq (l : List S45) (k : Nat) (a : Int) (h1 : l.length ≤ 1048640) (h2 : 0 ≤ a) (h3 : a ≤ 100000000000) (hk : 1048640 < k) : laws_markTimerS.f k l a = some (a + 2 * (l.length : Int), mkT a l) := by
  have := markT_loop l k [] a (by simp; omega) h2 (by omega) (by omega)
  simpa [laws_markTimerS.f] using this
theorem markTT_eq (k : Nat) (hk : 1048640 < k) : ∀ (L : List (List S45)) (a : Int), gTot L ≤ 1048640 → 0 ≤ a → a + 2 * (gTot L : Int) ≤ 100000000000 → markTTGo k L a = some (a + 2 * (gTot L : Int), mkTT a L)
  | [], a, _, _, _ => by simp [markTTGo, gTot, mkTT]
  | r :: L, a, h1, h2, h3 => by
    simp only [gTot] at h1 h3
    simp only [markTTGo]
    rw [markT_eq r k a (by omega) h2 (by omega) hk]
    simp only [Option.bind_some]
    rw [markTT_eq k hk L (a + 2 * (r.length : Int)) (by omega) (by omega) (by omega)]
    simp only [Option.bind_some, mkTT, gTot]
    congr 2
    omega
theorem heldT_loop : ∀ (l : List S45) (k : Nat) (acc : List S45) (a : Int), acc.length + l.length ≤ 140737488351232 → 0 ≤ a → a + 2 * (l.length : Int) ≤ 1000000000000000000 → l.length < k →
    laws_heldTimerS.l0 k (acc ++ mkT a l) a (acc.length : Int) = some (a + 2 * (l.length : Int))
  | [], k, acc, a, h1, h2, h3, hk => by
    obtain ⟨k, rfl⟩ : ∃ m, k = m + 1 := ⟨k - 1, by omega⟩
    rw [show mkT a [] = [] from rfl]
    simp only [laws_heldTimerS.l0]
    rw [if_neg (by simp)]
    simp
  | x :: l, k, acc, a, h1, h2, h3, hk => by
    simp only [List.length_cons] at h1 h3 hk
    obtain ⟨k, rfl⟩ : ∃ m, k = m + 1 := ⟨k - 1, by omega⟩
    rw [show mkT a (x :: l) = ⟨a, a + 1⟩ :: mkT (a + 2) l from rfl]
    simp only [laws_heldTimerS.l0]
    rw [if_pos (by simp; omega), if_pos (by omega), rd45_at]
    have e1 : (acc ++ (⟨a, a + 1⟩ : S45) :: mkT (a + 2) l).getD acc.length z45 = ⟨a, a + 1⟩ := by simp
    have ih := heldT_loop l k (acc ++ [⟨a, a + 1⟩]) (a + 2) (by simp; omega) (by omega) (by omega) (by omega)
    rw [List.length_append, List.length_singleton, List.append_assoc, List.singleton_append] at ih
    rw [e1, if_pos rfl, wrap_small (x := a + 1) (by omega) (by omega), if_pos rfl, wrap_small (x := a + 1 + 1) (by omega) (by omega), wrap_next (n := acc.length + (l.length + 1)) (by omega) (by omega), show a + 1 + 1 = a + 2 by omega, ih]
    congr 1
    simp only [List.length_cons]
    omega
theorem heldT_eq (l : List S45) (k : Nat) (a : Int) (h1 : l.length ≤ 1048640) (h2 : 0 ≤ a) (h3 : a ≤ 100000000000) (hk : 1048640 < k) : laws_heldTimerS.f k (mkT a l) a = some (a + 2 * (l.length : Int)) := by
  have := heldT_loop l k [] a (by simp; omega) h2 (by omega) (by omega)
  simpa [laws_heldTimerS.f] using this
theorem mkTT_length : ∀ (L : List (List S45)) (a : Int), (mkTT a L).length = L.length
  | [], _ => rfl
  | r :: L, a => by simp [mkTT, mkTT_length L]

theorem eqW_self (n : Int) (L : List (List S45)) (h1 : L.length ≤ 1048576) (h2 : gTot L ≤ 1048576) (k : Nat) (hk : 3000000 < k) : laws_eqWheel.f k n L n L = some true := by
  unfold laws_eqWheel.f laws_eqTimerSS.f
  rw [if_pos rfl, if_pos rfl]
  have := eqSS_loop L h1 h2 L.length k 0 (by omega) rfl (by omega)
  rw [show ((0 : Nat) : Int) = 0 from rfl] at this
  rw [this]
  rfl

theorem heldTT_loop : ∀ (L : List (List S45)) (k : Nat) (acc : List (List S45)) (a : Int), acc.length + L.length ≤ 1048640 → gTot L ≤ 1048640 → 0 ≤ a → a + 2 * (gTot L : Int) ≤ 100000000000 → 1048641 + L.length < k →
    laws_heldTimerSS.l0 k (acc ++ mkTT a L) a (acc.length : Int) = some (a + 2 * (gTot L : Int))
  | [], k, acc, a, h1, h4, h2, h3, hk => by
    obtain ⟨k, rfl⟩ : ∃ m, k = m + 1 := ⟨k - 1, by omega⟩
    rw [show mkTT a [] = [] from rfl]
    simp only [laws_heldTimerSS.l0]
    rw [if_neg (by simp)]
    simp [gTot]
  | r :: L, k, acc, a, h1, h4, h2, h3, hk => by
    simp only [gTot, List.length_cons] at h1 h3 h4 hk
    obtain ⟨k, rfl⟩ : ∃ m, k = m + 1 := ⟨k - 1, by omega⟩
    rw [show mkTT a (r :: L) = mkT a r :: mkTT (a + 2 * (r.length : Int)) L from rfl]
    simp only [laws_heldTimerSS.l0]
    rw [if_pos (by simp; omega), if_pos (by omega), rdL2_at]
    have e1 : (acc ++ mkT a r :: mkTT (a + 2 * (r.length : Int)) L).getD acc.length [] = mkT a r := by simp
    have ih := heldTT_loop L k (acc ++ [mkT a r]) (a + 2 * (r.length : Int)) (by simp; omega) (by omega) (by omega) (by omega) (by omega)
    rw [List.length_append, List.length_singleton, List.append_assoc, List.singleton_append] at ih
    rw [e1, heldT_eq r k a (by omega) h2 (by omega) (by omega)]
    simp only [Option.bind_some]
    rw [if_neg (by omega), wrap_next (n := acc.length + (L.length + 1)) (by omega) (by omega), ih]
    congr 1
    simp only [gTot]
    omega
theorem heldTT_eq (n : Int) (L : List (List S45)) (k : Nat) (a : Int) (h1 : L.length ≤ 1048640) (h4 : gTot L ≤ 1048640) (h2 : 0 ≤ a) (h3 : a + 2 * (gTot L : Int) ≤ 100000000000) (hk : 3000000 < k) : laws_heldWheel.f k n (mkTT a L) a = some (a + 2 * (gTot L : Int)) := by
  unfold laws_heldWheel.f laws_heldTimerSS.f
  have := heldTT_loop L k [] a (by simp; omega) h4 h2 h3 (by omega)
  rw [List.nil_append, show (([] : List (List S45)).length : Int) = 0 from rfl] at this
  rw [this]
  simp only [Option.bind_some]
  rw [if_neg (by omega)]

theorem filter_none (id : Int) (l : List S45) (h : id ∉ l.map (·.f1)) : (l.filter fun t => !(t.f1 == id)) = l := by
  refine List.filter_eq_self.2 (fun t ht => ?_)
  have : t.f1 ≠ id := fun e => h (List.mem_map.2 ⟨t, ht, e⟩)
  simp [this]
theorem rowDrop_filter (id : Int) : ∀ l : List S45, (l.map (·.f1)).Nodup → id ∈ l.map (·.f1) → rowDrop id l = some (l.filter fun t => !(t.f1 == id))
  | [], _, h => by simp at h
  | t :: l, hn, h => by
    rw [List.map_cons, List.nodup_cons] at hn
    unfold rowDrop
    by_cases e : t.f1 = id
    · rw [if_pos e, List.filter_cons_of_neg (by simp [e]), filter_none id l (by rw [← e]; exact hn.1)]
    · rw [if_neg e, rowDrop_filter id l hn.2 (by rw [List.map_cons, List.mem_cons] at h; rcases h with h | h; exact absurd h.symm e; exact h), List.filter_cons_of_pos (by simp [e])]
      rfl
theorem maps_none (id : Int) : ∀ L : List (List S45), id ∉ L.flatten.map (·.f1) → L.map (fun row => row.filter fun t => !(t.f1 == id)) = L
  | [], _ => rfl
  | row :: L, h => by
    rw [List.flatten_cons, List.map_append, List.mem_append, not_or] at h
    rw [List.map_cons, filter_none id row h.1, maps_none id L h.2]
theorem rowsDrop_filter (id : Int) : ∀ L : List (List S45), (L.flatten.map (·.f1)).Nodup → id ∈ L.flatten.map (·.f1) → rowsDrop id L = some (L.map (fun row => row.filter fun t => !(t.f1 == id)))
  | [], _, h => by simp at h
  | row :: L, hn, h => by
    rw [List.flatten_cons, List.map_append] at hn h
    rw [List.nodup_append] at hn
    unfold rowsDrop
    by_cases e : id ∈ row.map (·.f1)
    · have h2 : id ∉ L.flatten.map (·.f1) := fun h3 => hn.2.2 id e id h3 rfl
      rw [rowDrop_filter id row hn.1 e, List.map_cons, maps_none id L h2]
    · have h2 : id ∈ L.flatten.map (·.f1) := by rcases List.mem_append.1 h with h | h; exact absurd h e; exact h
      rw [rowDrop_none id row (fun t ht et => e (List.mem_map.2 ⟨t, ht, et⟩)), rowsDrop_filter id L hn.2.1 h2, List.map_cons, filter_none id row e]
      rfl
theorem tot_filter (p : S45 → Bool) : ∀ L : List (List S45), gTot (L.map fun row => row.filter p) ≤ gTot L
  | [] => Nat.le_refl _
  | row :: L => by
    have h1 := tot_filter p L
    have h2 := List.length_filter_le p row
    simp only [List.map_cons, gTot]
    omega
theorem drop_both (n : Int) (L : List (List S45)) (id : Int) (hL : L.length ≤ 1048576) (ht : gTot L ≤ 1048576) (K : Nat) (hK : 4000000 ≤ K) : ∃ r, spec_DropTimer.f K n L id = some r ∧ impl_DropTimer.f K n L id = some r ∧ r.2.1.length ≤ 1048576 ∧ gTot r.2.1 ≤ 1048576 := by
  obtain ⟨e1, e2⟩ := good_val n L ht K (by omega)
  have hfl : L.flatten.length ≤ 1048576 := by rw [← tot_flat]; exact ht
  unfold spec_DropTimer.f impl_DropTimer.f
  rw [e1, e2, own_eq n L (by omega) (by omega) K (by omega), has_eq n L id (by omega) (by omega) K (by omega), clone_eq n L (by omega) (by omega) K (by omega)]
  simp only [Option.bind_some]
  have no : ∃ r : Int × List (List S45) × Bool, some ((0 : Int), ([] : List (List S45)), false) = some r ∧ some ((0 : Int), ([] : List (List S45)), false) = some r ∧ r.2.1.length ≤ 1048576 ∧ gTot r.2.1 ≤ 1048576 := ⟨_, rfl, rfl, by simp, by simp [gTot]⟩
  by_cases hg : (decide (0 ≤ n ∧ n ≤ 100000) && (decide (L.length = 24) && gAll n 0 L [])) = true
  case neg => rw [if_neg hg, if_neg hg]; exact no
  rw [if_pos hg, if_pos hg]
  simp only [Bool.and_eq_true, decide_eq_true_eq] at hg
  obtain ⟨_, h24, hga⟩ := hg
  have hnd : (L.flatten.map (·.f1)).Nodup := by have := ((gAll_iff n 0 L [] List.nodup_nil).1 hga).2.1; simpa using this
  have hrows : ∀ row ∈ L, row.length < 4000000 := fun row hr => by
    obtain ⟨j, hj, rfl⟩ := List.getElem_of_mem hr
    have := len_tot5 L j
    rw [List.getD_eq_getElem?_getD, List.getElem?_eq_getElem hj] at this
    have h2 : L[j].length ≤ gTot L := this
    omega
  rw [if_pos ⟨by omega, hrows⟩]
  unfold dropIn
  cases hany : (L.flatten.any fun x => x.f1 == id) with
  | true =>
    have hmem : id ∈ L.flatten.map (·.f1) := by
      obtain ⟨x, hx, hx2⟩ := List.any_eq_true.1 hany
      exact List.mem_map.2 ⟨x, hx, by simpa using hx2⟩
    rw [rowsDrop_filter id L hnd hmem]
    simp only [if_true]
    rw [if_pos (by omega)]
    exact ⟨_, rfl, rfl, by simp only [List.length_map]; omega, Nat.le_trans (tot_filter _ L) ht⟩
  | false =>
    have hmem : ∀ row ∈ L, ∀ t ∈ row, t.f1 ≠ id := fun row hr t htr => by
      have := List.any_eq_false.1 hany t (List.mem_flatten.2 ⟨row, hr, htr⟩)
      simpa using this
    rw [rowsDrop_none id L hmem]
    simp only [Bool.false_eq_true, if_false]
    exact no

/-- THE PURE STATEMENT of the law. -/
def FnExactDropTimer_Pure : Prop := ∀ (a0_0 : Int) (l0_1 : (List (List S43))) (a1 : Int), (Lit.int .i64 a0_0).wf = true → (l0_1.length ≤ 9223372036854775807 ∧ ∀ y ∈ l0_1, (y.length ≤ 9223372036854775807 ∧ ∀ y1 ∈ y, ((Lit.int .i64 y1.f0).wf = true ∧ (Lit.int .i64 y1.f1).wf = true))) → (Lit.int .i64 a1).wf = true → ∃ k, laws_FnExactDropTimer.f k a0_0 l0_1 a1 = some true

theorem FnExactDropTimer : FnExactDropTimer_Pure := by
  intro a0 l a1 _ hlr _
  obtain ⟨hl, hr⟩ := hlr
  obtain ⟨K, hK⟩ : ∃ K, K = 5000000 := ⟨_, rfl⟩
  refine ⟨K, ?_⟩
  unfold laws_FnExactDropTimer.f
  obtain ⟨r, h1, h2⟩ := sz_wheel l a0 hl (fun y hy => (hr y hy).1) K (by omega)
  rw [h1]
  simp only [Option.bind_some]
  by_cases c : r < 0
  · rw [if_pos c]
  · rw [if_neg c]
    obtain ⟨h3, h4⟩ := h2 (by omega)
    unfold laws_toWheel.f
    rw [toSS_eq l h3 h4 _ (by omega)]
    simp only [Option.bind_some]
    have hx1 : (l.map (·.map conv)).length ≤ 1048576 := by simpa using h3
    have hx2 : gTot (l.map (·.map conv)) ≤ 1048576 := by rw [tot_conv]; exact h4
    obtain ⟨s, e1, e2, e3, e4⟩ := drop_both a0 (l.map (·.map conv)) a1 hx1 hx2 K (by omega)
    rw [e1, e2]
    simp only [Option.bind_some]
    rw [eqW_self s.1 s.2.1 e3 e4 K (by omega), eqW_self a0 _ hx1 hx2 K (by omega)]
    simp only [Option.bind_some]
    rw [markTT_eq K (by omega) _ 1 (by omega) (by omega) (by omega), markTT_eq K (by omega) s.2.1 1 (by omega) (by omega) (by omega)]
    simp only [Option.bind_some]
    rw [heldTT_eq s.1 s.2.1 K 1 (by omega) (by omega) (by omega) (by omega) (by omega)]
    simp only [Option.bind_some]
    rw [if_pos (by refine ⟨?_, ?_, ?_, ?_, ?_, ?_⟩ <;> first | trivial | omega)]

end Go.Proofs.Ytgmjfdehladelaa.Pure
