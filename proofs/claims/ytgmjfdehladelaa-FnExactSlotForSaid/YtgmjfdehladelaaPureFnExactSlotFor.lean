/- The program finds the slot of a time as the reference does: the law answers true. No conditions. -/
import Derived.Test.YtgmjfdehladelaaPFnExactSlotForx2
namespace Go.Proofs.Ytgmjfdehladelaa.Pure
open Go.RowKit Go.Proofs.Ytgmjfdehladelaa.PFnExactSlotFor Go.Proofs.YtgmjfdehladelaaW.PrintWords Go.Proofs.YtgmjfdehladelaaW.PrintLast
set_option linter.unusedVariables false
set_option linter.unusedSimpArgs false

theorem wrap_small {x : Int} (h0 : -9223372036854775808 ≤ x) (h1 : x ≤ 9223372036854775807) : wrap64 x = x := by
  unfold wrap64
  omega

theorem wrap_next {j n : Nat} (h : j < n) (hn : n ≤ 140737488351232) : wrap64 ((j : Int) + 1) = ((j + 1 : Nat) : Int) := by
  rw [wrap_small (by omega) (by omega)]; rfl

theorem rd_at (l : List Int) (j : Nat) : rd l (j : Int) = l.getD j 0 := by
  unfold rd; rw [Int.toNat_natCast]

theorem drop_at (l : List Int) (j : Nat) (h : j < l.length) : l.drop j = l.getD j 0 :: l.drop (j + 1) := by
  rw [List.drop_eq_getElem_cons h, List.getD_eq_getElem?_getD, List.getElem?_eq_getElem h]; rfl

theorem take_at (l : List Int) (j : Nat) (h : j < l.length) : l.take (j + 1) = l.take j ++ [l.getD j 0] := by
  rw [List.take_succ_eq_append_getElem h, List.getD_eq_getElem?_getD, List.getElem?_eq_getElem h]; rfl

theorem in_eq (a b c : Int) : impl_in.f a b c = some (decide (b ≤ a ∧ a ≤ c)) := by
  unfold impl_in.f
  by_cases h : a ≥ b
  · rw [if_pos h]; congr 1; simp only [decide_eq_decide]; omega
  · rw [if_neg h, decide_eq_false (by omega)]
theorem l1In_eq (a b c : Int) : spec_l1In.f a b c = some (decide (b ≤ a ∧ a ≤ c)) := by
  unfold spec_l1In.f
  by_cases h : a ≥ b
  · rw [if_pos h]; congr 1; simp only [decide_eq_decide]; omega
  · rw [if_neg h, decide_eq_false (by omega)]

theorem wr (n : Nat) (h : n ≤ 1000) : wrap64 (n : Int) = n := wrap_small (by omega) (by omega)
theorem pow_spec (k : Nat) : spec_l5Pow.f (k + 5) 0 = some 1 ∧ spec_l5Pow.f (k + 5) 1 = some 8 ∧ spec_l5Pow.f (k + 5) 2 = some 64 ∧ spec_l5Pow.f (k + 5) 3 = some 512 := by
  have a0 : wrap64 0 = 0 := wr 0 (by omega)
  have a1 : wrap64 1 = 1 := wr 1 (by omega)
  have a2 : wrap64 2 = 2 := wr 2 (by omega)
  have b1 : wrap64 8 = 8 := wr 8 (by omega)
  have b2 : wrap64 64 = 64 := wr 64 (by omega)
  have b3 : wrap64 512 = 512 := wr 512 (by omega)
  simp [spec_l5Pow.f, spec_l5Pow.l0, a0, a1, a2, b1, b2, b3]

theorem pow_impl (k : Nat) : impl_units.f (k + 5) 0 = some 1 ∧ impl_units.f (k + 5) 1 = some 8 ∧ impl_units.f (k + 5) 2 = some 64 ∧ impl_units.f (k + 5) 3 = some 512 := by
  have a1 : wrap64 1 = 1 := wr 1 (by omega)
  have a2 : wrap64 2 = 2 := wr 2 (by omega)
  have a3 : wrap64 3 = 3 := wr 3 (by omega)
  have b1 : wrap64 8 = 8 := wr 8 (by omega)
  have b2 : wrap64 64 = 64 := wr 64 (by omega)
  have b3 : wrap64 512 = 512 := wr 512 (by omega)
  simp [impl_units.f, impl_units.l0, a1, a2, a3, b1, b2, b3]

/-- a time lies at a level of units p -/
def fitP (now t p : Int) : Bool := decide (1 ≤ t / p - now / p ∧ t / p - now / p ≤ 7)

theorem div_wrap {x p : Int} (h0 : 0 ≤ x) (h1 : x ≤ 9223372036854775807) (hp : 1 ≤ p) : wrap64 (Int.tdiv x p) = x / p := by
  rw [Int.tdiv_eq_ediv_of_nonneg h0]
  have := Int.ediv_nonneg h0 (show 0 ≤ p by omega)
  have := Int.ediv_le_self p h0
  exact wrap_small (by omega) (by omega)

theorem fit_core {a : Int} (k : Nat) (now t p : Int) (hp : 1 ≤ p) (n0 : 0 ≤ now) (n1 : now ≤ 9000000000000000000) (t0 : 0 ≤ t) (t1 : t ≤ 9000000000000000000) (e : spec_l5Pow.f k a = some p) :
    spec_l5Fits.f k now t a = some (fitP now t p) := by
  unfold spec_l5Fits.f fitP
  rw [e]; simp only [Option.bind_some]
  rw [if_neg (by omega), div_wrap t0 (by omega) hp, div_wrap n0 (by omega) hp, l1In_eq]
  have h1 := Int.ediv_nonneg t0 (show 0 ≤ p by omega)
  have h2 := Int.ediv_le_self p t0
  have h3 := Int.ediv_nonneg n0 (show 0 ≤ p by omega)
  have h4 := Int.ediv_le_self p n0
  rw [wrap_small (by omega) (by omega)]

theorem fit_core2 {a : Int} (k : Nat) (now t p : Int) (hp : 1 ≤ p) (n0 : 0 ≤ now) (n1 : now ≤ 9000000000000000000) (t0 : 0 ≤ t) (t1 : t ≤ 9000000000000000000) (e : impl_units.f k a = some p) :
    impl_fitsLevel.f k now t a = some (fitP now t p) := by
  unfold impl_fitsLevel.f fitP
  rw [e]; simp only [Option.bind_some]
  rw [if_neg (by omega), div_wrap t0 (by omega) hp, div_wrap n0 (by omega) hp, in_eq]
  have h1 := Int.ediv_nonneg t0 (show 0 ≤ p by omega)
  have h2 := Int.ediv_le_self p t0
  have h3 := Int.ediv_nonneg n0 (show 0 ≤ p by omega)
  have h4 := Int.ediv_le_self p n0
  rw [wrap_small (by omega) (by omega)]

/-- the slot of a time, -1 without one -/
def slotOf (now t : Int) : Int := if fitP now t 1 = true then t % 8 else if fitP now t 8 = true then 8 + t / 8 % 8 else if fitP now t 64 = true then 16 + t / 64 % 8 else -1

theorem slotOf_range (now t : Int) (h0 : 0 ≤ t) : -1 ≤ slotOf now t ∧ slotOf now t ≤ 23 := by
  unfold slotOf
  split
  · omega
  split
  · omega
  split <;> omega

theorem slot_at (t a p : Int) (hp : 1 ≤ p) (t0 : 0 ≤ t) (t1 : t ≤ 9000000000000000000) (a0 : 0 ≤ a) (a1 : a ≤ 2) : wrap64 ((wrap64 (a * 8)) + (Int.tmod (wrap64 (Int.tdiv t p)) 8)) = a * 8 + t / p % 8 := by
  rw [div_wrap t0 (by omega) hp, Int.tmod_eq_emod_of_nonneg (Int.ediv_nonneg t0 (by omega)), wrap_small (x := a * 8) (by omega) (by omega), wrap_small (by omega) (by omega)]

theorem spec_slot_eq (k : Nat) (now t : Int) (n0 : 0 ≤ now) (n1 : now ≤ 9000000000000000000) (t0 : 0 ≤ t) (t1 : t ≤ 9000000000000000000) : spec_l5Slot.f (k + 9) now t = some (slotOf now t) := by
  obtain ⟨p0, _, _, _⟩ := pow_spec (k + 3)
  obtain ⟨_, p1, _, _⟩ := pow_spec (k + 2)
  obtain ⟨_, _, p2, _⟩ := pow_spec (k + 1)
  have f0 := fit_core (k + 8) now t 1 (by omega) n0 n1 t0 t1 p0
  have f1 := fit_core (k + 7) now t 8 (by omega) n0 n1 t0 t1 p1
  have f2 := fit_core (k + 6) now t 64 (by omega) n0 n1 t0 t1 p2
  have a1 : wrap64 (0 + 1) = 1 := wrap_small (by omega) (by omega)
  have a2 : wrap64 (1 + 1) = 2 := wrap_small (by omega) (by omega)
  have a3 : wrap64 (2 + 1) = 3 := wrap_small (by omega) (by omega)
  have s0 := slot_at t 0 1 (by omega) t0 t1 (by omega) (by omega)
  have s1 := slot_at t 1 8 (by omega) t0 t1 (by omega) (by omega)
  have s2 := slot_at t 2 64 (by omega) t0 t1 (by omega) (by omega)
  unfold spec_l5Slot.f slotOf
  simp only [spec_l5Slot.l0, a1, a2, a3]
  rw [if_pos (show (0 : Int) < 3 by omega), if_pos (show (1 : Int) < 3 by omega), if_pos (show (2 : Int) < 3 by omega), if_neg (show ¬ (3 : Int) < 3 by omega), f0, f1, f2, p0, p1, p2]
  simp only [Option.bind_some]
  rw [if_neg (show ¬ (1 : Int) = 0 by omega), if_neg (show ¬ (8 : Int) = 0 by omega), if_neg (show ¬ (64 : Int) = 0 by omega), s0, s1, s2]
  cases fitP now t 1 <;> cases fitP now t 8 <;> cases fitP now t 64 <;> simp

theorem impl_slot_eq (k : Nat) (now t : Int) (n0 : 0 ≤ now) (n1 : now ≤ 9000000000000000000) (t0 : 0 ≤ t) (t1 : t ≤ 9000000000000000000) : impl_slotFor.f (k + 9) now t = some (if slotOf now t < 0 then (0, false) else (slotOf now t, true)) := by
  obtain ⟨p0, _, _, _⟩ := pow_impl (k + 3)
  obtain ⟨_, p1, _, _⟩ := pow_impl (k + 2)
  obtain ⟨_, _, p2, _⟩ := pow_impl (k + 1)
  have f0 := fit_core2 (k + 8) now t 1 (by omega) n0 n1 t0 t1 p0
  have f1 := fit_core2 (k + 7) now t 8 (by omega) n0 n1 t0 t1 p1
  have f2 := fit_core2 (k + 6) now t 64 (by omega) n0 n1 t0 t1 p2
  have a1 : wrap64 (0 + 1) = 1 := wrap_small (by omega) (by omega)
  have a2 : wrap64 (1 + 1) = 2 := wrap_small (by omega) (by omega)
  have a3 : wrap64 (2 + 1) = 3 := wrap_small (by omega) (by omega)
  have s0 := slot_at t 0 1 (by omega) t0 t1 (by omega) (by omega)
  have s1 := slot_at t 1 8 (by omega) t0 t1 (by omega) (by omega)
  have s2 := slot_at t 2 64 (by omega) t0 t1 (by omega) (by omega)
  unfold impl_slotFor.f slotOf
  simp only [impl_slotFor.l0, impl_slotAt.f, a1, a2, a3]
  rw [if_pos (show (0 : Int) < 3 by omega), if_pos (show (1 : Int) < 3 by omega), if_pos (show (2 : Int) < 3 by omega), if_neg (show ¬ (3 : Int) < 3 by omega), f0, f1, f2, p0, p1, p2]
  simp only [Option.bind_some]
  rw [if_neg (show ¬ (1 : Int) = 0 by omega), if_neg (show ¬ (8 : Int) = 0 by omega), if_neg (show ¬ (64 : Int) = 0 by omega), s0, s1, s2]
  simp only [Option.bind_some]
  have r0 : ¬ t % 8 < 0 := by omega
  have r1 : ¬ 8 + t / 8 % 8 < 0 := by omega
  have r2 : ¬ 16 + t / 64 % 8 < 0 := by omega
  cases fitP now t 1 <;> cases fitP now t 8 <;> cases fitP now t 64 <;> simp [r0, r1, r2]

theorem slot_both (now t : Int) : ∃ r : Int × Bool, spec_SlotFor.f 20 now t = some r ∧ impl_SlotFor.f 20 now t = some r := by
  unfold spec_SlotFor.f impl_SlotFor.f impl_isNow.f spec_l5Timer.f impl_reach.f
  rw [in_eq, l1In_eq, l1In_eq, (pow_spec 15).2.2.2]
  simp only [Option.bind_some]
  by_cases h : 0 ≤ now ∧ now ≤ 100000
  · rw [decide_eq_true h]
    have hw : wrap64 (now + 512) = now + 512 := wrap_small (by omega) (by omega)
    simp only [if_true, hw, show decide ((0 : Int) ≤ 0 ∧ (0 : Int) ≤ 1000) = true from by decide]
    by_cases h1 : t > now
    · rw [if_pos h1]; simp only [Option.bind_some]
      by_cases h2 : t < now + 512
      · rw [decide_eq_true h2]
        have e1 := spec_slot_eq 10 now t h.1 (by omega) (by omega) (by omega)
        have e2 := impl_slot_eq 11 now t h.1 (by omega) (by omega) (by omega)
        simp only [Bool.not_true, spec_SlotFor.j0, Bool.false_eq_true, if_false, if_true]
        rw [e1, e2]; simp only [Option.bind_some]
        by_cases h3 : slotOf now t < 0
        · exact ⟨(0, false), by rw [if_pos h3], by rw [if_pos h3]⟩
        · exact ⟨(slotOf now t, true), by rw [if_neg h3], by rw [if_neg h3]⟩
      · rw [decide_eq_false h2]; exact ⟨(0, false), by simp [spec_SlotFor.j0], by simp⟩
    · rw [if_neg h1]; exact ⟨(0, false), by simp [spec_SlotFor.j0], by simp⟩
  · rw [decide_eq_false h]; exact ⟨(0, false), by simp [spec_SlotFor.j0], by simp⟩

/-- THE PURE STATEMENT of the law. -/
def FnExactSlotFor_Pure : Prop := ∀ (a0 : Int) (a1 : Int), (Lit.int .i64 a0).wf = true → (Lit.int .i64 a1).wf = true → ∃ k, laws_FnExactSlotFor.f k a0 a1 = some true

theorem FnExactSlotFor : FnExactSlotFor_Pure := by
  intro now t _ _
  obtain ⟨r, h1, h2⟩ := slot_both now t
  refine ⟨20, ?_⟩
  unfold laws_FnExactSlotFor.f
  rw [h1, h2]; simp

end Go.Proofs.Ytgmjfdehladelaa.Pure
