/- The program's new wheel is the reference's: the law answers true. No conditions. -/
import Derived.Test.YtgmjfdehladelaaPFnExactNewWheelx3
namespace Go.Proofs.Ytgmjfdehladelaa.Pure
open Go.RowKit Go.Proofs.Ytgmjfdehladelaa.PFnExactNewWheel Go.Proofs.YtgmjfdehladelaaW.PrintWords Go.Proofs.YtgmjfdehladelaaW.PrintLast
set_option linter.unusedVariables false
set_option linter.unusedSimpArgs false

theorem wrap_small {x : Int} (h0 : -9223372036854775808 ≤ x) (h1 : x ≤ 9223372036854775807) : wrap64 x = x := by
  unfold wrap64
  omega

theorem wrap_next {j n : Nat} (h : j < n) (hn : n ≤ 140737488351232) : wrap64 ((j : Int) + 1) = ((j + 1 : Nat) : Int) := by
  rw [wrap_small (by omega) (by omega)]; rfl

theorem rd_at (l : List Int) (j : Nat) : rd l (j : Int) = l.getD j 0 := by
  unfold rd; rw [Int.toNat_natCast]

theorem drop_at (l : List Int) (j : Nat) (h : j < l.length) : l.drop j = l.getD j 0 :: l.drop (j + 1) := by
  rw [List.drop_eq_getElem_cons h, List.getD_eq_getElem?_getD, List.getElem?_eq_getElem h]; rfl

theorem take_at (l : List Int) (j : Nat) (h : j < l.length) : l.take (j + 1) = l.take j ++ [l.getD j 0] := by
  rw [List.take_succ_eq_append_getElem h, List.getD_eq_getElem?_getD, List.getElem?_eq_getElem h]; rfl

theorem rdLW_at (l : List (List S45)) (j : Nat) : rd_L2 l (j : Int) = l.getD j [] := by unfold rd_L2; rw [Int.toNat_natCast]
theorem eqTS_nil (k : Nat) (hk : 0 < k) : laws_eqTimerS.f k [] [] = some true := by
  obtain ⟨k, rfl⟩ : ∃ m, k = m + 1 := ⟨k - 1, by omega⟩
  unfold laws_eqTimerS.f
  rw [if_pos (by rfl)]
  simp only [laws_eqTimerS.l0, List.length_nil]
  rw [if_neg (by omega)]
theorem heldTS_nil (k : Nat) (hk : 0 < k) (v : Int) : laws_heldTimerS.f k [] v = some v := by
  obtain ⟨k, rfl⟩ : ∃ m, k = m + 1 := ⟨k - 1, by omega⟩
  unfold laws_heldTimerS.f
  simp only [laws_heldTimerS.l0, List.length_nil]
  rw [if_neg (by omega)]
theorem markTS_nil (k : Nat) (hk : 0 < k) (v : Int) : laws_markTimerS.f k [] v = some (v, []) := by
  obtain ⟨k, rfl⟩ : ∃ m, k = m + 1 := ⟨k - 1, by omega⟩
  unfold laws_markTimerS.f
  simp only [laws_markTimerS.l0, List.length_nil]
  rw [if_neg (by omega)]
theorem nil_at (n j : Nat) : (List.replicate n ([] : List S45)).getD j [] = [] := by
  rw [List.getD_eq_getElem?_getD, List.getElem?_replicate]; split <;> rfl
theorem eqTSS_nil (n : Nat) (hn : n ≤ 1000) (d : Nat) : ∀ (k j : Nat), j ≤ n → n - j = d → d + 1 < k → laws_eqTimerSS.l0 k (List.replicate n []) (List.replicate n []) j = some true := by
  induction d with
  | zero =>
    intro k j hj hd hk
    obtain ⟨k, rfl⟩ : ∃ m, k = m + 1 := ⟨k - 1, by omega⟩
    simp only [laws_eqTimerSS.l0, List.length_replicate]
    rw [if_neg (by omega)]
  | succ d ih =>
    intro k j hj hd hk
    obtain ⟨k, rfl⟩ : ∃ m, k = m + 1 := ⟨k - 1, by omega⟩
    simp only [laws_eqTimerSS.l0, List.length_replicate]
    rw [if_pos (by omega), if_pos (by omega), if_pos (by omega), rdLW_at, nil_at, eqTS_nil k (by omega)]
    simp only [Option.bind_some, if_true]
    rw [wrap_next (n := n) (by omega) (by omega)]
    exact ih k (j + 1) (by omega) (by omega) (by omega)
theorem heldTSS_nil (n : Nat) (hn : n ≤ 1000) (v : Int) (hv : 0 ≤ v) (d : Nat) : ∀ (k j : Nat), j ≤ n → n - j = d → d + 1 < k → laws_heldTimerSS.l0 k (List.replicate n []) v j = some v := by
  induction d with
  | zero =>
    intro k j hj hd hk
    obtain ⟨k, rfl⟩ : ∃ m, k = m + 1 := ⟨k - 1, by omega⟩
    simp only [laws_heldTimerSS.l0, List.length_replicate]
    rw [if_neg (by omega)]
  | succ d ih =>
    intro k j hj hd hk
    obtain ⟨k, rfl⟩ : ∃ m, k = m + 1 := ⟨k - 1, by omega⟩
    simp only [laws_heldTimerSS.l0, List.length_replicate]
    rw [if_pos (by omega), if_pos (by omega), rdLW_at, nil_at, heldTS_nil k (by omega)]
    simp only [Option.bind_some]
    rw [if_neg (by omega), wrap_next (n := n) (by omega) (by omega)]
    exact ih k (j + 1) (by omega) (by omega) (by omega)
theorem markTT_nil (k : Nat) (hk : 0 < k) (n : Nat) : ∀ v, markTTGo k (List.replicate n []) v = some (v, List.replicate n []) := by
  induction n with
  | zero => intro v; rfl
  | succ n ih =>
    intro v
    simp only [List.replicate_succ, markTTGo]
    rw [markTS_nil k hk]; simp only [Option.bind_some]
    rw [ih]; rfl
/-- THE PURE STATEMENT of the law. -/
def FnExactNewWheel_Pure : Prop := ∃ k, laws_FnExactNewWheel.f k  = some true

theorem FnExactNewWheel : FnExactNewWheel_Pure := by
  refine ⟨100, ?_⟩
  unfold laws_FnExactNewWheel.f
  have h1 : spec_NewWheel.f = some (0, List.replicate 24 []) := by unfold spec_NewWheel.f; rw [if_pos (by omega)]
  have h2 : impl_NewWheel.f = some (0, List.replicate 24 []) := by unfold impl_NewWheel.f; rw [if_pos (by omega)]
  rw [h1, h2]; simp only [Option.bind_some]
  have h3 : laws_eqWheel.f 100 0 (List.replicate 24 []) 0 (List.replicate 24 []) = some true := by
    unfold laws_eqWheel.f laws_eqTimerSS.f
    rw [if_pos rfl, if_pos rfl]
    have := eqTSS_nil 24 (by omega) 24 100 0 (by omega) (by omega) (by omega)
    rw [show ((0 : Nat) : Int) = 0 from rfl] at this
    rw [this]; rfl
  rw [h3]; simp only [Option.bind_some]
  rw [markTT_nil 100 (by omega)]; simp only [Option.bind_some]
  have h4 : laws_heldWheel.f 100 0 (List.replicate 24 []) 1 = some 1 := by
    unfold laws_heldWheel.f laws_heldTimerSS.f
    have := heldTSS_nil 24 (by omega) 1 (by omega) 24 100 0 (by omega) (by omega) (by omega)
    rw [show ((0 : Nat) : Int) = 0 from rfl] at this
    rw [this]; rfl
  rw [h4]; simp only [Option.bind_some]
  rw [if_pos (by refine ⟨?_, ?_, ?_, ?_⟩ <;> first | trivial | omega)]

end Go.Proofs.Ytgmjfdehladelaa.Pure
