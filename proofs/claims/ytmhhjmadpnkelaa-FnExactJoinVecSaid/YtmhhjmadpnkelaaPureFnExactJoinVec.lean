/- The program joins every two vectors as the reference does: the law answers true. No conditions but the reach of a slice. -/
import Derived.Test.YtmhhjmadpnkelaaPFnExactJoinVecx2
namespace Go.Proofs.Ytmhhjmadpnkelaa.Pure
open Go.RowKit Go.Proofs.Ytmhhjmadpnkelaa.PFnExactJoinVec Go.Proofs.YtmhhjmadpnkelaaW.PrintWords Go.Proofs.YtmhhjmadpnkelaaW.PrintLast

theorem wrap_small {x : Int} (h0 : -9223372036854775808 ≤ x) (h1 : x ≤ 9223372036854775807) : wrap64 x = x := by
  unfold wrap64
  omega

theorem wrap_next {j n : Nat} (h : j < n) (hn : n ≤ 140737488351232) : wrap64 ((j : Int) + 1) = ((j + 1 : Nat) : Int) := by
  rw [wrap_small (by omega) (by omega)]; rfl

theorem rd_at (l : List Int) (j : Nat) : rd l (j : Int) = l.getD j 0 := by
  unfold rd; rw [Int.toNat_natCast]

theorem drop_at (l : List Int) (j : Nat) (h : j < l.length) : l.drop j = l.getD j 0 :: l.drop (j + 1) := by
  rw [List.drop_eq_getElem_cons h, List.getD_eq_getElem?_getD, List.getElem?_eq_getElem h]; rfl

theorem take_at (l : List Int) (j : Nat) (h : j < l.length) : l.take (j + 1) = l.take j ++ [l.getD j 0] := by
  rw [List.take_succ_eq_append_getElem h, List.getD_eq_getElem?_getD, List.getElem?_eq_getElem h]; rfl

theorem toIntS_loop (l : List Int) (hn : l.length ≤ 140737488351232) (d : Nat) : ∀ (k j : Nat) (x : List Int), x.length = l.length → x.take j = l.take j → j ≤ l.length → l.length - j = d → d < k →
    laws_toIntS.l0 k l x j = some l := by
  induction d with
  | zero =>
    intro k j x hx ht hj hd hk
    obtain ⟨k, rfl⟩ : ∃ m, k = m + 1 := ⟨k - 1, by omega⟩
    simp only [laws_toIntS.l0]; rw [if_neg (by omega)]
    rw [List.take_of_length_le (by omega), List.take_of_length_le (by omega)] at ht; rw [ht]
  | succ d ih =>
    intro k j x hx ht hj hd hk
    obtain ⟨k, rfl⟩ : ∃ m, k = m + 1 := ⟨k - 1, by omega⟩
    simp only [laws_toIntS.l0]; rw [if_pos (by omega), if_pos (by omega), if_pos (by omega), wrap_next (n := l.length) (by omega) hn, rd_at, Int.toNat_natCast]
    refine ih k (j + 1) _ (by rw [List.length_set]; exact hx) ?_ (by omega) (by omega) (by omega)
    rw [take_at l j (by omega), List.take_succ_eq_append_getElem (by rw [List.length_set]; omega), List.getElem_set_self, List.take_set_of_le (by omega), ht]

theorem toIntS_eq (l : List Int) (hn : l.length ≤ 17592186044416) (k : Nat) (hk : l.length < k) : laws_toIntS.f k l = some l := by
  unfold laws_toIntS.f
  rw [if_pos (by omega), Int.toNat_natCast, if_pos (by omega)]
  exact toIntS_loop l (by omega) l.length k 0 _ (by simp) (by simp) (by omega) (by omega) hk

theorem eqIntS_loop (a b : List Int) (hn : a.length ≤ 140737488351232) (hab : a.length = b.length) (d : Nat) : ∀ (k j : Nat), j ≤ a.length → a.length - j = d → d < k →
    laws_eqIntS.l0 k a b j = some (decide (a.drop j = b.drop j)) := by
  induction d with
  | zero =>
    intro k j hj hd hk
    obtain ⟨k, rfl⟩ : ∃ m, k = m + 1 := ⟨k - 1, by omega⟩
    simp only [laws_eqIntS.l0]; rw [if_neg (by omega), List.drop_of_length_le (by omega), List.drop_of_length_le (by omega)]; simp
  | succ d ih =>
    intro k j hj hd hk
    obtain ⟨k, rfl⟩ : ∃ m, k = m + 1 := ⟨k - 1, by omega⟩
    simp only [laws_eqIntS.l0]; rw [if_pos (by omega), if_pos (by omega), if_pos (by omega), wrap_next (n := a.length) (by omega) hn, rd_at, rd_at, drop_at a j (by omega), drop_at b j (by omega)]
    by_cases h : a.getD j 0 = b.getD j 0
    · rw [if_pos h, ih k (j + 1) (by omega) (by omega) (by omega)]; simp only [List.cons.injEq, h, true_and]
    · rw [if_neg h]; simp only [List.cons.injEq, h, false_and, decide_false]

theorem eqIntS_eq (a b : List Int) (hn : a.length ≤ 140737488351232) (k : Nat) (hk : a.length < k) : laws_eqIntS.f k a b = some (decide (a = b)) := by
  unfold laws_eqIntS.f
  by_cases h : a.length = b.length
  · rw [if_pos (by omega)]
    have := eqIntS_loop a b hn h a.length k 0 (by omega) (by omega) hk
    simpa using this
  · rw [if_neg (by omega), decide_eq_false (fun e => h (by rw [e]))]

theorem eqIntS_self (a : List Int) (hn : a.length ≤ 140737488351232) (k : Nat) (hk : a.length < k) : laws_eqIntS.f k a a = some true := by
  rw [eqIntS_eq a a hn k hk]; simp

/-- the numbers v, v + 1, .. -/
def run (v : Int) : Nat → List Int
  | 0 => []
  | n + 1 => v :: run (v + 1) n

theorem run_length (n : Nat) : ∀ v, (run v n).length = n := by
  induction n with
  | zero => intro v; rfl
  | succ n ih => intro v; simp [run, ih]

theorem markIntS_loop (d : Nat) : ∀ (k j : Nat) (v : Int) (l : List Int), l.length ≤ 140737488351232 → 0 ≤ v → v + d ≤ 1000000000000000000 → j ≤ l.length → l.length - j = d → d < k →
    laws_markIntS.l0 k l v j = some (v + d, l.take j ++ run v d) := by
  induction d with
  | zero =>
    intro k j v l hn hv0 hv1 hj hd hk
    obtain ⟨k, rfl⟩ : ∃ m, k = m + 1 := ⟨k - 1, by omega⟩
    simp only [laws_markIntS.l0]; rw [if_neg (by omega), List.take_of_length_le (by omega)]; simp [run]
  | succ d ih =>
    intro k j v l hn hv0 hv1 hj hd hk
    obtain ⟨k, rfl⟩ : ∃ m, k = m + 1 := ⟨k - 1, by omega⟩
    simp only [laws_markIntS.l0]; rw [if_pos (by omega), if_pos (by omega), wrap_next (n := l.length) (by omega) hn, wrap_small (x := v + 1) (by omega) (by omega), Int.toNat_natCast]
    rw [ih k (j + 1) (v + 1) (l.set j v) (by rw [List.length_set]; exact hn) (by omega) (by omega) (by rw [List.length_set]; omega) (by rw [List.length_set]; omega) (by omega)]
    congr 2
    · omega
    · rw [List.take_succ_eq_append_getElem (by rw [List.length_set]; omega), List.getElem_set_self, List.take_set_of_le (by omega)]; simp [run]

theorem markIntS_eq (l : List Int) (v : Int) (hn : l.length ≤ 140737488351232) (hv0 : 0 ≤ v) (hv1 : v ≤ 500000000000000000) (k : Nat) (hk : l.length < k) :
    laws_markIntS.f k l v = some (v + l.length, run v l.length) := by
  unfold laws_markIntS.f
  have := markIntS_loop l.length k 0 v l hn hv0 (by omega) (by omega) (by omega) hk
  simpa using this

theorem heldIntS_loop (d : Nat) : ∀ (k : Nat) (v : Int) (p : List Int), p.length + d ≤ 140737488351232 → 0 ≤ v → v + d ≤ 1000000000000000000 → d < k →
    laws_heldIntS.l0 k (p ++ run v d) v p.length = some (v + d) := by
  induction d with
  | zero =>
    intro k v p hn hv0 hv1 hk
    obtain ⟨k, rfl⟩ : ∃ m, k = m + 1 := ⟨k - 1, by omega⟩
    simp only [laws_heldIntS.l0]; rw [if_neg (by simp [run])]; simp
  | succ d ih =>
    intro k v p hn hv0 hv1 hk
    obtain ⟨k, rfl⟩ : ∃ m, k = m + 1 := ⟨k - 1, by omega⟩
    have hl : (p ++ run v (d + 1)).length = p.length + (d + 1) := by rw [List.length_append, run_length]
    have hg : (p ++ run v (d + 1)).getD p.length 0 = v := by simp [run]
    simp only [laws_heldIntS.l0]; rw [if_pos (by omega), if_pos (by omega), rd_at, hg, if_pos rfl, wrap_next (n := p.length + (d + 1)) (by omega) hn, wrap_small (x := v + 1) (by omega) (by omega)]
    have := ih k (v + 1) (p ++ [v]) (by simp; omega) (by omega) (by omega) (by omega)
    simp only [List.append_assoc, List.length_append, List.length_singleton, List.singleton_append] at this
    rw [show run v (d + 1) = v :: run (v + 1) d from rfl, this]
    congr 1; omega

theorem heldIntS_eq (v : Int) (n : Nat) (hn : n ≤ 140737488351232) (hv0 : 0 ≤ v) (hv1 : v ≤ 500000000000000000) (k : Nat) (hk : n < k) :
    laws_heldIntS.f k (run v n) v = some (v + n) := by
  unfold laws_heldIntS.f
  have := heldIntS_loop n k v [] (by simpa using hn) hv0 (by omega) hk
  simpa using this

theorem spec_join_loop (a b : List Int) (hab : a.length = b.length) (hn : a.length ≤ 140737488351232) (d : Nat) : ∀ (k j : Nat) (x : List Int), j ≤ a.length → a.length - j = d → x.length + d ≤ 17592186044416 → d < k →
    spec_JoinVec.l0 k a b x a.length j = some (x ++ List.zipWith mx (a.drop j) (b.drop j), true) := by
  induction d with
  | zero =>
    intro k j x hj hd hx hk
    obtain ⟨k, rfl⟩ : ∃ m, k = m + 1 := ⟨k - 1, by omega⟩
    simp only [spec_JoinVec.l0]; rw [if_neg (by omega), List.drop_of_length_le (by omega)]; simp
  | succ d ih =>
    intro k j x hj hd hx hk
    obtain ⟨k, rfl⟩ : ∃ m, k = m + 1 := ⟨k - 1, by omega⟩
    simp only [spec_JoinVec.l0]; rw [if_pos (by omega), if_pos (by omega), if_pos (by omega), if_pos (by omega), wrap_next (n := a.length) (by omega) hn, rd_at, rd_at, drop_at a j (by omega), drop_at b j (by omega)]
    have e : ∀ v, v = mx (a.getD j 0) (b.getD j 0) → spec_JoinVec.l0 k a b (x ++ [v]) a.length ((j + 1 : Nat) : Int) = some (x ++ List.zipWith mx (a.getD j 0 :: a.drop (j + 1)) (b.getD j 0 :: b.drop (j + 1)), true) := by
      intro v hv
      rw [ih k (j + 1) (x ++ [v]) (by omega) (by omega) (by simp; omega) (by omega), hv]; simp
    by_cases h : b.getD j 0 > a.getD j 0
    · rw [if_pos h, if_pos (by omega)]; exact e _ (by unfold mx; omega)
    · rw [if_neg h, if_pos (by omega)]; exact e _ (by unfold mx; omega)

theorem impl_join_loop (a b : List Int) (hab : a.length = b.length) (hn : a.length ≤ 140737488351232) (d : Nat) : ∀ (k j : Nat) (x : List Int), j ≤ a.length → a.length - j = d → x.length + d ≤ 17592186044416 → d < k →
    impl_joined.l0 k b x a a.length j = some (x ++ List.zipWith mx (a.drop j) (b.drop j)) := by
  induction d with
  | zero =>
    intro k j x hj hd hx hk
    obtain ⟨k, rfl⟩ : ∃ m, k = m + 1 := ⟨k - 1, by omega⟩
    simp only [impl_joined.l0]; rw [if_neg (by omega), List.drop_of_length_le (by omega)]; simp
  | succ d ih =>
    intro k j x hj hd hx hk
    obtain ⟨k, rfl⟩ : ∃ m, k = m + 1 := ⟨k - 1, by omega⟩
    simp only [impl_joined.l0]; rw [if_pos (by omega), if_pos (by omega), if_pos (by omega), if_pos (by omega), if_pos (by omega), wrap_next (n := a.length) (by omega) hn, rd_at, rd_at, drop_at a j (by omega), drop_at b j (by omega)]
    rw [ih k (j + 1) (x ++ [_]) (by omega) (by omega) (by simp; omega) (by omega)]; simp

/-- what both answer -/
def joinOf (a b : List Int) : List Int × Bool := if a.length = b.length ∧ a.length ≤ 6 then (List.zipWith mx a b, true) else ([], false)

theorem joinOf_length (a b : List Int) : (joinOf a b).1.length ≤ 6 := by
  unfold joinOf; split
  · simp; omega
  · simp

theorem spec_JoinVec_eq (a b : List Int) (k : Nat) (hk : 8 < k) : spec_JoinVec.f k a b = some (joinOf a b) := by
  obtain ⟨k, rfl⟩ : ∃ m, k = m + 1 := ⟨k - 1, by omega⟩
  unfold spec_JoinVec.f joinOf
  by_cases h : a.length = b.length
  · rw [if_pos (by omega)]
    simp only [spec_JoinVec.j0]
    by_cases h6 : a.length ≤ 6
    · rw [if_neg (by simp; omega), if_pos ⟨h, h6⟩]
      have := spec_join_loop a b h (by omega) a.length k 0 [] (by omega) (by omega) (by simp; omega) (by omega)
      simpa using this
    · rw [if_pos (by simp; omega), if_neg (by omega)]
  · rw [if_neg (by omega)]
    simp only [spec_JoinVec.j0]; rw [if_pos trivial, if_neg (by omega)]

theorem impl_joined_eq (a b : List Int) (h : a.length = b.length) (h6 : a.length ≤ 100) (k : Nat) (hk : a.length < k) : impl_joined.f k a b = some (List.zipWith mx a b) := by
  unfold impl_joined.f
  have := impl_join_loop a b h (by omega) a.length k 0 [] (by omega) (by omega) (by simp; omega) (by omega)
  simpa using this

theorem impl_JoinVec_eq (a b : List Int) (k : Nat) (hk : 8 < k) : impl_JoinVec.f k a b = some (joinOf a b) := by
  unfold impl_JoinVec.f impl_pairOk.f joinOf
  by_cases h : a.length = b.length
  · rw [if_pos (by omega)]
    by_cases h6 : a.length ≤ 6
    · rw [if_pos ⟨h, h6⟩, decide_eq_true (by omega)]
      simp only [Option.bind_some, if_true]
      rw [impl_joined_eq a b h (by omega) k (by omega)]; rfl
    · rw [if_neg (by omega), decide_eq_false (by omega)]; simp
  · rw [if_neg (by omega), if_neg (by omega)]; simp

/-- THE PURE STATEMENT of the law. -/
def FnExactJoinVec_Pure : Prop := ∀ (l0 : (List Int)) (l1 : (List Int)), (l0.length ≤ 9223372036854775807 ∧ ∀ y ∈ l0, (Lit.int .i64 y).wf = true) → (l1.length ≤ 9223372036854775807 ∧ ∀ y ∈ l1, (Lit.int .i64 y).wf = true) → ∃ k, laws_FnExactJoinVec.f k l0 l1 = some true

theorem FnExactJoinVec : FnExactJoinVec_Pure := by
  intro a b _ _
  by_cases ha : (a.length : Int) > 1048576
  · exact ⟨0, by unfold laws_FnExactJoinVec.f; rw [if_pos ha]⟩
  by_cases hb : (b.length : Int) > 1048576
  · exact ⟨0, by unfold laws_FnExactJoinVec.f; rw [if_neg ha, if_pos hb]⟩
  have hj := joinOf_length a b
  refine ⟨a.length + b.length + 15, ?_⟩
  unfold laws_FnExactJoinVec.f
  rw [if_neg ha, if_neg hb, toIntS_eq a (by omega) _ (by omega)]
  simp only [Option.bind_some]
  rw [toIntS_eq b (by omega) _ (by omega)]
  simp only [Option.bind_some]
  rw [spec_JoinVec_eq a b _ (by omega), impl_JoinVec_eq a b _ (by omega)]
  simp only [Option.bind_some]
  rw [eqIntS_self _ (by omega) _ (by omega)]
  simp only [Option.bind_some, if_true, bne_self_eq_false]
  rw [show a.length + b.length + 15 = (a.length + b.length + 14) + 1 from rfl]
  simp only [laws_FnExactJoinVec.j0, Bool.false_eq_true, if_false]
  rw [toIntS_eq a (by omega) _ (by omega)]; simp only [Option.bind_some]
  rw [eqIntS_self _ (by omega) _ (by omega)]; simp only [Option.bind_some, if_true]
  rw [toIntS_eq b (by omega) _ (by omega)]; simp only [Option.bind_some]
  rw [eqIntS_self _ (by omega) _ (by omega)]; simp only [Option.bind_some, if_true]
  rw [markIntS_eq a 1 (by omega) (by omega) (by omega) _ (by omega)]; simp only [Option.bind_some]
  rw [markIntS_eq b _ (by omega) (by omega) (by omega) _ (by omega)]; simp only [Option.bind_some]
  rw [if_neg (by omega), eqIntS_self _ (by omega) _ (by omega)]; simp only [Option.bind_some, if_true, bne_self_eq_false]
  rw [show a.length + b.length + 14 = (a.length + b.length + 13) + 1 from rfl]
  simp only [laws_FnExactJoinVec.j1, Bool.false_eq_true, if_false]
  rw [markIntS_eq _ 1 (by omega) (by omega) (by omega) _ (by omega)]; simp only [Option.bind_some]
  rw [heldIntS_eq 1 _ (by omega) (by omega) (by omega) _ (by omega)]; simp only [Option.bind_some]
  rw [if_neg (by omega), if_pos trivial]
  rw [toIntS_eq a (by omega) _ (by omega)]; simp only [Option.bind_some]
  rw [toIntS_eq b (by omega) _ (by omega)]; simp only [Option.bind_some]
  rw [impl_JoinVec_eq a b _ (by omega)]; simp only [Option.bind_some]
  rw [eqIntS_self _ (by omega) _ (by omega)]; simp only [Option.bind_some, if_true, bne_self_eq_false]
  rw [show a.length + b.length + 13 = (a.length + b.length + 12) + 1 from rfl]
  simp only [laws_FnExactJoinVec.j2, Bool.false_eq_true, if_false]
  rw [heldIntS_eq 1 _ (by omega) (by omega) (by omega) _ (by omega)]; simp only [Option.bind_some]
  rw [if_neg (by omega), if_pos trivial]

end Go.Proofs.Ytmhhjmadpnkelaa.Pure
