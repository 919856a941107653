/- The program's vectors are the reference's: the law answers true. No conditions but the reach of a slice. -/
import Derived.Test.YtmhhjmadpnkelaaPFnExactVectorsOfx9
namespace Go.Proofs.Ytmhhjmadpnkelaa.Pure
open Go.RowKit Go.Proofs.Ytmhhjmadpnkelaa.PFnExactVectorsOf Go.Proofs.YtmhhjmadpnkelaaW.PrintWords Go.Proofs.YtmhhjmadpnkelaaW.PrintLast
set_option linter.unusedVariables false
set_option linter.unusedSimpArgs false

theorem wrap_small {x : Int} (h0 : -9223372036854775808 ≤ x) (h1 : x ≤ 9223372036854775807) : wrap64 x = x := by
  unfold wrap64
  omega

theorem wrap_next {j n : Nat} (h : j < n) (hn : n ≤ 140737488351232) : wrap64 ((j : Int) + 1) = ((j + 1 : Nat) : Int) := by
  rw [wrap_small (by omega) (by omega)]; rfl

theorem rd_at (l : List Int) (j : Nat) : rd l (j : Int) = l.getD j 0 := by
  unfold rd; rw [Int.toNat_natCast]

theorem drop_at (l : List Int) (j : Nat) (h : j < l.length) : l.drop j = l.getD j 0 :: l.drop (j + 1) := by
  rw [List.drop_eq_getElem_cons h, List.getD_eq_getElem?_getD, List.getElem?_eq_getElem h]; rfl

theorem take_at (l : List Int) (j : Nat) (h : j < l.length) : l.take (j + 1) = l.take j ++ [l.getD j 0] := by
  rw [List.take_succ_eq_append_getElem h, List.getD_eq_getElem?_getD, List.getElem?_eq_getElem h]; rfl

theorem eqIntS_loop (a b : List Int) (hn : a.length ≤ 140737488351232) (hab : a.length = b.length) (d : Nat) : ∀ (k j : Nat), j ≤ a.length → a.length - j = d → d < k →
    laws_eqIntS.l0 k a b j = some (decide (a.drop j = b.drop j)) := by
  induction d with
  | zero =>
    intro k j hj hd hk
    obtain ⟨k, rfl⟩ : ∃ m, k = m + 1 := ⟨k - 1, by omega⟩
    simp only [laws_eqIntS.l0]; rw [if_neg (by omega), List.drop_of_length_le (by omega), List.drop_of_length_le (by omega)]; simp
  | succ d ih =>
    intro k j hj hd hk
    obtain ⟨k, rfl⟩ : ∃ m, k = m + 1 := ⟨k - 1, by omega⟩
    simp only [laws_eqIntS.l0]; rw [if_pos (by omega), if_pos (by omega), if_pos (by omega), wrap_next (n := a.length) (by omega) hn, rd_at, rd_at, drop_at a j (by omega), drop_at b j (by omega)]
    by_cases h : a.getD j 0 = b.getD j 0
    · rw [if_pos h, ih k (j + 1) (by omega) (by omega) (by omega)]; simp only [List.cons.injEq, h, true_and]
    · rw [if_neg h]; simp only [List.cons.injEq, h, false_and, decide_false]

theorem eqIntS_eq (a b : List Int) (hn : a.length ≤ 140737488351232) (k : Nat) (hk : a.length < k) : laws_eqIntS.f k a b = some (decide (a = b)) := by
  unfold laws_eqIntS.f
  by_cases h : a.length = b.length
  · rw [if_pos (by omega)]
    have := eqIntS_loop a b hn h a.length k 0 (by omega) (by omega) hk
    simpa using this
  · rw [if_neg (by omega), decide_eq_false (fun e => h (by rw [e]))]

theorem eqIntS_self (a : List Int) (hn : a.length ≤ 140737488351232) (k : Nat) (hk : a.length < k) : laws_eqIntS.f k a a = some true := by
  rw [eqIntS_eq a a hn k hk]; simp

/-- the numbers v, v + 1, .. -/
def run (v : Int) : Nat → List Int
  | 0 => []
  | n + 1 => v :: run (v + 1) n

theorem run_length (n : Nat) : ∀ v, (run v n).length = n := by
  induction n with
  | zero => intro v; rfl
  | succ n ih => intro v; simp [run, ih]

theorem markIntS_loop (d : Nat) : ∀ (k j : Nat) (v : Int) (l : List Int), l.length ≤ 140737488351232 → 0 ≤ v → v + d ≤ 1000000000000000000 → j ≤ l.length → l.length - j = d → d < k →
    laws_markIntS.l0 k l v j = some (v + d, l.take j ++ run v d) := by
  induction d with
  | zero =>
    intro k j v l hn hv0 hv1 hj hd hk
    obtain ⟨k, rfl⟩ : ∃ m, k = m + 1 := ⟨k - 1, by omega⟩
    simp only [laws_markIntS.l0]; rw [if_neg (by omega), List.take_of_length_le (by omega)]; simp [run]
  | succ d ih =>
    intro k j v l hn hv0 hv1 hj hd hk
    obtain ⟨k, rfl⟩ : ∃ m, k = m + 1 := ⟨k - 1, by omega⟩
    simp only [laws_markIntS.l0]; rw [if_pos (by omega), if_pos (by omega), wrap_next (n := l.length) (by omega) hn, wrap_small (x := v + 1) (by omega) (by omega), Int.toNat_natCast]
    rw [ih k (j + 1) (v + 1) (l.set j v) (by rw [List.length_set]; exact hn) (by omega) (by omega) (by rw [List.length_set]; omega) (by rw [List.length_set]; omega) (by omega)]
    congr 2
    · omega
    · rw [List.take_succ_eq_append_getElem (by rw [List.length_set]; omega), List.getElem_set_self, List.take_set_of_le (by omega)]; simp [run]

theorem markIntS_eq (l : List Int) (v : Int) (hn : l.length ≤ 140737488351232) (hv0 : 0 ≤ v) (hv1 : v ≤ 500000000000000000) (k : Nat) (hk : l.length < k) :
    laws_markIntS.f k l v = some (v + l.length, run v l.length) := by
  unfold laws_markIntS.f
  have := markIntS_loop l.length k 0 v l hn hv0 (by omega) (by omega) (by omega) hk
  simpa using this

theorem heldIntS_loop (d : Nat) : ∀ (k : Nat) (v : Int) (p : List Int), p.length + d ≤ 140737488351232 → 0 ≤ v → v + d ≤ 1000000000000000000 → d < k →
    laws_heldIntS.l0 k (p ++ run v d) v p.length = some (v + d) := by
  induction d with
  | zero =>
    intro k v p hn hv0 hv1 hk
    obtain ⟨k, rfl⟩ : ∃ m, k = m + 1 := ⟨k - 1, by omega⟩
    simp only [laws_heldIntS.l0]; rw [if_neg (by simp [run])]; simp
  | succ d ih =>
    intro k v p hn hv0 hv1 hk
    obtain ⟨k, rfl⟩ : ∃ m, k = m + 1 := ⟨k - 1, by omega⟩
    have hl : (p ++ run v (d + 1)).length = p.length + (d + 1) := by rw [List.length_append, run_length]
    have hg : (p ++ run v (d + 1)).getD p.length 0 = v := by simp [run]
    simp only [laws_heldIntS.l0]; rw [if_pos (by omega), if_pos (by omega), rd_at, hg, if_pos rfl, wrap_next (n := p.length + (d + 1)) (by omega) hn, wrap_small (x := v + 1) (by omega) (by omega)]
    have := ih k (v + 1) (p ++ [v]) (by simp; omega) (by omega) (by omega) (by omega)
    simp only [List.append_assoc, List.length_append, List.length_singleton, List.singleton_append] at this
    rw [show run v (d + 1) = v :: run (v + 1) d from rfl, this]
    congr 1; omega

theorem heldIntS_eq (v : Int) (n : Nat) (hn : n ≤ 140737488351232) (hv0 : 0 ≤ v) (hv1 : v ≤ 500000000000000000) (k : Nat) (hk : n < k) :
    laws_heldIntS.f k (run v n) v = some (v + n) := by
  unfold laws_heldIntS.f
  have := heldIntS_loop n k v [] (by simpa using hn) hv0 (by omega) hk
  simpa using this

/-- how many numbers there are in all -/
def totI (l : List (List Int)) : Nat := (l.map List.length).sum
def runSS (v : Int) : List (List Int) → List (List Int)
  | [] => []
  | x :: l => run v x.length :: runSS (v + x.length) l
theorem runSS_length (l : List (List Int)) : ∀ v, (runSS v l).length = l.length := by
  induction l with
  | nil => intro v; rfl
  | cons x l ih => intro v; simp [runSS, ih]
theorem totI_cons (x : List Int) (l : List (List Int)) : totI (x :: l) = x.length + totI l := by simp [totI]
theorem markSSGo_eq (k : Nat) (l : List (List Int)) : ∀ v : Int, (∀ x ∈ l, x.length ≤ 1000000 ∧ x.length < k) → 0 ≤ v → v + totI l ≤ 400000000000000000 → markSSGo k l v = some (v + totI l, runSS v l) := by
  induction l with
  | nil => intro v _ _ _; simp [markSSGo, runSS, totI]
  | cons x l ih =>
    intro v hs h0 h1
    rw [totI_cons] at h1 ⊢
    have hx := hs x List.mem_cons_self
    simp only [markSSGo]
    rw [markIntS_eq x v (by omega) h0 (by omega) k hx.2]; simp only [Option.bind_some]
    rw [ih (v + x.length) (fun y hy => hs y (List.mem_cons_of_mem _ hy)) (by omega) (by omega)]; simp only [Option.bind_some, runSS]
    congr 2
    omega
theorem rdLH_at (l : List (List Int)) (j : Nat) : rd_L6 l (j : Int) = l.getD j [] := by unfold rd_L6; rw [Int.toNat_natCast]
theorem rdLQ_at (l : List (List Int)) (j : Nat) : rd_L6 l (j : Int) = l.getD j [] := by unfold rd_L6; rw [Int.toNat_natCast]
theorem heldSS_loop (rest : List (List Int)) : ∀ (k j : Nat) (v : Int) (x : List (List Int)), x.drop j = runSS v rest → j + rest.length = x.length → x.length ≤ 1000000 → (∀ y ∈ rest, y.length ≤ 1000000) → 0 ≤ v → v + totI rest ≤ 400000000000000000 → rest.length + 1000000 < k →
    laws_heldIntSS.l0 k x v j = some (v + totI rest) := by
  induction rest with
  | nil =>
    intro k j v x hx hj hn hs h0 h1 hk
    obtain ⟨k, rfl⟩ : ∃ m, k = m + 1 := ⟨k - 1, by omega⟩
    simp only [List.length_nil, Nat.add_zero] at hj
    simp only [laws_heldIntSS.l0]
    rw [if_neg (by omega)]
    simp [totI]
  | cons y rest ih =>
    intro k j v x hx hj hn hs h0 h1 hk
    obtain ⟨k, rfl⟩ : ∃ m, k = m + 1 := ⟨k - 1, by omega⟩
    simp only [List.length_cons] at hj hk
    rw [totI_cons] at h1 ⊢
    have hjl : j < x.length := by omega
    have hd : x.drop j = x.getD j [] :: x.drop (j + 1) := by rw [List.drop_eq_getElem_cons hjl, List.getD_eq_getElem?_getD, List.getElem?_eq_getElem hjl]; rfl
    rw [hd] at hx
    simp only [runSS, List.cons.injEq] at hx
    have hy := hs y List.mem_cons_self
    simp only [laws_heldIntSS.l0]
    rw [if_pos (by omega), if_pos (by omega), rdLH_at, hx.1, heldIntS_eq v y.length (by omega) h0 (by omega) k (by omega)]
    simp only [Option.bind_some]
    rw [if_neg (by omega), wrap_next hjl (by omega), ih k (j + 1) (v + y.length) x hx.2 (by omega) hn (fun z hz => hs z (List.mem_cons_of_mem _ hz)) (by omega) (by omega) (by omega)]
    congr 1
    omega
theorem heldSS_eq (l : List (List Int)) (v : Int) (hn : l.length ≤ 1000000) (hs : ∀ y ∈ l, y.length ≤ 1000000) (h0 : 0 ≤ v) (h1 : v + totI l ≤ 400000000000000000) (k : Nat) (hk : 2000001 < k) : laws_heldIntSS.f k (runSS v l) v = some (v + totI l) := by
  unfold laws_heldIntSS.f
  exact heldSS_loop l k 0 v (runSS v l) rfl (by rw [runSS_length]; omega) (by rw [runSS_length]; exact hn) hs h0 h1 (by omega)
theorem eqSS_loop (a : List (List Int)) (hn : a.length ≤ 1000000) (hs : ∀ y ∈ a, y.length ≤ 1000000) (d : Nat) : ∀ (k j : Nat), j ≤ a.length → a.length - j = d → d + 1000000 < k → laws_eqIntSS.l0 k a a j = some true := by
  induction d with
  | zero =>
    intro k j hj hd hk
    obtain ⟨k, rfl⟩ : ∃ m, k = m + 1 := ⟨k - 1, by omega⟩
    simp only [laws_eqIntSS.l0]
    rw [if_neg (by omega)]
  | succ d ih =>
    intro k j hj hd hk
    obtain ⟨k, rfl⟩ : ∃ m, k = m + 1 := ⟨k - 1, by omega⟩
    have hjl : j < a.length := by omega
    have hm := hs (a.getD j []) (by rw [List.getD_eq_getElem?_getD, List.getElem?_eq_getElem hjl]; exact List.getElem_mem hjl)
    simp only [laws_eqIntSS.l0]
    rw [if_pos (by omega), if_pos (by omega), if_pos (by omega), rdLQ_at, eqIntS_self _ (by omega) k (by omega)]
    simp only [Option.bind_some, if_true]
    rw [wrap_next hjl (by omega)]
    exact ih k (j + 1) (by omega) (by omega) (by omega)
theorem eqSS_self (a : List (List Int)) (hn : a.length ≤ 1000000) (hs : ∀ y ∈ a, y.length ≤ 1000000) (k : Nat) (hk : 2000001 < k) : laws_eqIntSS.f k a a = some true := by
  unfold laws_eqIntSS.f
  rw [if_pos (by first | rfl | omega)]
  exact eqSS_loop a hn hs a.length k 0 (by omega) (by omega) (by omega)
theorem totI_le (l : List (List Int)) (m : Nat) (hs : ∀ y ∈ l, y.length ≤ m) : totI l ≤ l.length * m := by
  induction l with
  | nil => simp [totI]
  | cons x l ih =>
    rw [totI_cons, List.length_cons, Nat.add_mul, Nat.one_mul]
    have := hs x List.mem_cons_self
    have := ih (fun y hy => hs y (List.mem_cons_of_mem _ hy))
    omega

theorem rdS_at (l : List S57) (j : Nat) : rd_T57 l (j : Int) = l.getD j z57 := by unfold rd_T57; rw [Int.toNat_natCast]
theorem rdR_at (l : List S64) (j : Nat) : rd_T64 l (j : Int) = l.getD j z64 := by unfold rd_T64; rw [Int.toNat_natCast]

/-- an act as the program has it -/
def actOf (x : S64) : S57 := ⟨x.f0, x.f1⟩
/-- the acts as the program has them -/
def acts (l : List S64) : List S57 := l.map actOf
theorem acts_length (l : List S64) : (acts l).length = l.length := by unfold acts; rw [List.length_map]

theorem getD_map_acts (l : List S64) (j : Nat) (h : j < l.length) : (acts l).getD j z57 = actOf (l.getD j z64) := by
  unfold acts; rw [List.getD_eq_getElem?_getD, List.getElem?_map, List.getElem?_eq_getElem h, List.getD_eq_getElem?_getD, List.getElem?_eq_getElem h]; rfl

theorem takeS_at {α : Type} (z : α) (l : List α) (j : Nat) (h : j < l.length) : l.take (j + 1) = l.take j ++ [l.getD j z] := by
  rw [List.take_succ_eq_append_getElem h, List.getD_eq_getElem?_getD, List.getElem?_eq_getElem h]; rfl

theorem dropS_at {α : Type} (z : α) (l : List α) (j : Nat) (h : j < l.length) : l.drop j = l.getD j z :: l.drop (j + 1) := by
  rw [List.drop_eq_getElem_cons h, List.getD_eq_getElem?_getD, List.getElem?_eq_getElem h]; rfl

theorem sz_acts (l : List S64) (h : l.length ≤ 9223372036854775807) : laws_szActS.f l 1048576 = some (if l.length ≤ 1048576 then 1048576 - (l.length : Int) else -1) := by
  unfold laws_szActS.f
  rw [wrap_small (by omega) (by omega)]
  by_cases h1 : l.length ≤ 1048576
  · rw [if_neg (by omega), if_pos h1]
  · rw [if_pos (by omega), if_neg h1]

theorem toActS_loop (l : List S64) (hn : l.length ≤ 140737488351232) (d : Nat) : ∀ (k j : Nat) (x : List S57), x.length = l.length → x.take j = (acts l).take j → j ≤ l.length → l.length - j = d → d < k →
    laws_toActS.l0 k l x j = some (acts l) := by
  induction d with
  | zero =>
    intro k j x hx ht hj hd hk
    obtain ⟨k, rfl⟩ : ∃ m, k = m + 1 := ⟨k - 1, by omega⟩
    simp only [laws_toActS.l0]; rw [if_neg (by omega)]
    rw [List.take_of_length_le (by omega), List.take_of_length_le (by rw [acts_length]; omega)] at ht; rw [ht]
  | succ d ih =>
    intro k j x hx ht hj hd hk
    obtain ⟨k, rfl⟩ : ∃ m, k = m + 1 := ⟨k - 1, by omega⟩
    simp only [laws_toActS.l0, laws_toAct.f, Option.bind_some]; rw [if_pos (by omega), if_pos (by omega), if_pos (by omega), wrap_next (n := l.length) (by omega) hn, rdR_at, Int.toNat_natCast]
    refine ih k (j + 1) _ (by rw [List.length_set]; exact hx) ?_ (by omega) (by omega) (by omega)
    rw [takeS_at z57 (acts l) j (by rw [acts_length]; omega), List.take_succ_eq_append_getElem (by rw [List.length_set]; omega), List.getElem_set_self, List.take_set_of_le (by omega), ht, getD_map_acts l j (by omega)]; rfl

theorem toActS_eq (l : List S64) (hn : l.length ≤ 1048576) (k : Nat) (hk : l.length < k) : laws_toActS.f k l = some (acts l) := by
  unfold laws_toActS.f
  rw [if_pos (by omega), Int.toNat_natCast, if_pos (by omega)]
  exact toActS_loop l (by omega) l.length k 0 _ (by simp) (by simp) (by omega) (by omega) hk

theorem eqActS_loop (a : List S57) (hn : a.length ≤ 140737488351232) (d : Nat) : ∀ (k j : Nat), j ≤ a.length → a.length - j = d → d < k →
    laws_eqActS.l0 k a a j = some true := by
  induction d with
  | zero =>
    intro k j hj hd hk
    obtain ⟨k, rfl⟩ : ∃ m, k = m + 1 := ⟨k - 1, by omega⟩
    simp only [laws_eqActS.l0]; rw [if_neg (by omega)]
  | succ d ih =>
    intro k j hj hd hk
    obtain ⟨k, rfl⟩ : ∃ m, k = m + 1 := ⟨k - 1, by omega⟩
    simp only [laws_eqActS.l0, laws_eqAct.f]; rw [if_pos (by omega), if_pos (by omega), if_pos (by omega), if_pos trivial, if_pos trivial]
    simp only [Option.bind_some, if_true]; rw [wrap_next (n := a.length) (by omega) hn]
    exact ih k (j + 1) (by omega) (by omega) (by omega)

theorem eqActS_self (a : List S57) (hn : a.length ≤ 140737488351232) (k : Nat) (hk : a.length < k) : laws_eqActS.f k a a = some true := by
  unfold laws_eqActS.f
  rw [if_pos rfl]
  exact eqActS_loop a hn a.length k 0 (by omega) (by omega) hk

/-- what is asked of act j, the last proc being q -/
def okAct (l : List S57) (q : Int) (j : Nat) : Bool :=
  decide (0 ≤ (l.getD j z57).f0 ∧ (l.getD j z57).f0 ≤ q ∧ -1 ≤ (l.getD j z57).f1 ∧ (l.getD j z57).f1 ≤ (j : Int) - 1 ∧ (0 ≤ (l.getD j z57).f1 → (l.getD (l.getD j z57).f1.toNat z57).f0 ≠ (l.getD j z57).f0))

/-- .. of d acts from j on -/
def okFrom (l : List S57) (q : Int) (j : Nat) : Nat → Bool
  | 0 => true
  | d + 1 => okAct l q j && okFrom l q (j + 1) d

theorem okFrom_all (l : List S57) (q : Int) (d : Nat) : ∀ j, okFrom l q j d = true ↔ ∀ i, j ≤ i → i < j + d → okAct l q i = true := by
  induction d with
  | zero => intro j; simp only [okFrom, true_iff]; intro i h1 h2; omega
  | succ d ih =>
    intro j
    simp only [okFrom, Bool.and_eq_true, ih]
    constructor
    · rintro ⟨h1, h2⟩ i hi hl
      by_cases e : i = j
      · rw [e]; exact h1
      · exact h2 i (by omega) (by omega)
    · intro h; exact ⟨h j (by omega) (by omega), fun i hi hl => h i (by omega) (by omega)⟩

/-- acts are good -/
def goodB (p : Int) (l : List S57) : Bool := decide (1 ≤ p ∧ p ≤ 6) && decide (l.length ≤ 60) && okFrom l (wrap64 (p - 1)) 0 l.length

theorem in_eq (a b c : Int) : impl_in.f a b c = some (decide (b ≤ a ∧ a ≤ c)) := by
  unfold impl_in.f
  by_cases h : a ≥ b
  · rw [if_pos h]; congr 1; simp only [decide_eq_decide]; omega
  · rw [if_neg h, decide_eq_false (by omega)]
theorem l1In_eq (a b c : Int) : spec_l1In.f a b c = some (decide (b ≤ a ∧ a ≤ c)) := by
  unfold spec_l1In.f
  by_cases h : a ≥ b
  · rw [if_pos h]; congr 1; simp only [decide_eq_decide]; omega
  · rw [if_neg h, decide_eq_false (by omega)]

theorem spec_good_loop (p : Int) (l : List S57) (hn : l.length ≤ 1048576) (d : Nat) : ∀ (k j : Nat), j ≤ l.length → l.length - j = d → d < k →
    spec_GoodActs.l0 k p l l l.length j = some (okFrom l (wrap64 (p - 1)) j d && (decide (1 ≤ p ∧ p ≤ 6) && decide (l.length ≤ 60))) := by
  induction d with
  | zero =>
    intro k j hj hd hk
    obtain ⟨k, rfl⟩ : ∃ m, k = m + 1 := ⟨k - 1, by omega⟩
    simp only [spec_GoodActs.l0]; rw [if_neg (by omega), l1In_eq]; simp only [Option.bind_some, okFrom, Bool.true_and]
    by_cases h : 1 ≤ p ∧ p ≤ 6
    · rw [decide_eq_true h, if_pos rfl]; congr 1; simp only [Bool.true_and, decide_eq_decide]; omega
    · rw [decide_eq_false h, if_neg (by simp)]; rfl
  | succ d ih =>
    intro k j hj hd hk
    obtain ⟨k, rfl⟩ : ∃ m, k = m + 1 := ⟨k - 1, by omega⟩
    simp only [spec_GoodActs.l0]; rw [if_pos (by omega), if_pos (by omega), if_pos (by omega), l1In_eq, l1In_eq, wrap_next (n := l.length) (by omega) (by omega), rdS_at, wrap_small (x := (j : Int) - 1) (by omega) (by omega)]
    simp only [Option.bind_some, okFrom]
    have i1 := ih k (j + 1) (by omega) (by omega) (by omega)
    have hF : spec_GoodActs.l0 k p l l l.length ((j + 1 : Nat) : Int) = some (okFrom l (wrap64 (p - 1)) (j + 1) d && (decide (1 ≤ p ∧ p ≤ 6) && decide (l.length ≤ 60))) := i1
    generalize hx : l.getD j z57 = x at *
    by_cases h1 : 0 ≤ x.f0 ∧ x.f0 ≤ wrap64 (p - 1)
    · rw [decide_eq_true h1, if_pos rfl]
      by_cases h2 : -1 ≤ x.f1 ∧ x.f1 ≤ (j : Int) - 1
      · rw [decide_eq_true h2, if_pos rfl]
        by_cases h3 : x.f1 ≥ 0
        · rw [if_pos h3, if_pos h3, if_pos (by omega)]
          have e : rd_T57 l x.f1 = l.getD x.f1.toNat z57 := rfl
          rw [e]
          by_cases h4 : (l.getD x.f1.toNat z57).f0 = x.f0
          · rw [if_pos h4]
            have : okAct l (wrap64 (p - 1)) j = false := by unfold okAct; rw [hx]; exact decide_eq_false (fun h => h.2.2.2.2 h3 h4)
            rw [this]; rfl
          · rw [if_neg h4, hF]
            have : okAct l (wrap64 (p - 1)) j = true := by unfold okAct; rw [hx]; exact decide_eq_true ⟨h1.1, h1.2, h2.1, h2.2, fun _ => h4⟩
            rw [this]; rfl
        · rw [if_neg h3, hF]
          have : okAct l (wrap64 (p - 1)) j = true := by unfold okAct; rw [hx]; exact decide_eq_true ⟨h1.1, h1.2, h2.1, h2.2, fun h => absurd h h3⟩
          rw [this]; rfl
      · rw [decide_eq_false h2, if_neg (by simp)]
        have : okAct l (wrap64 (p - 1)) j = false := by unfold okAct; rw [hx]; exact decide_eq_false (fun h => h2 ⟨h.2.2.1, h.2.2.2.1⟩)
        rw [this]; rfl
    · rw [decide_eq_false h1, if_neg (by simp)]
      have : okAct l (wrap64 (p - 1)) j = false := by unfold okAct; rw [hx]; exact decide_eq_false (fun h => h1 ⟨h.1, h.2.1⟩)
      rw [this]; rfl

theorem spec_good (p : Int) (l : List S57) (hn : l.length ≤ 1048576) (k : Nat) (hk : l.length < k) : spec_GoodActs.f k p l = some (goodB p l) := by
  unfold spec_GoodActs.f goodB
  rw [show (0 : Int) = ((0 : Nat) : Int) from rfl, spec_good_loop p l hn l.length k 0 (by omega) (by omega) hk, Bool.and_comm]

theorem impl_good_loop (p : Int) (l : List S57) (hn : l.length ≤ 1048576) (d : Nat) : ∀ (k j : Nat), j ≤ l.length → l.length - j = d → d < k →
    impl_GoodActs.l0 k p l l l.length j = some (okFrom l (wrap64 (p - 1)) j d) := by
  induction d with
  | zero =>
    intro k j hj hd hk
    obtain ⟨k, rfl⟩ : ∃ m, k = m + 1 := ⟨k - 1, by omega⟩
    simp only [impl_GoodActs.l0]; rw [if_neg (by omega)]; rfl
  | succ d ih =>
    intro k j hj hd hk
    obtain ⟨k, rfl⟩ : ∃ m, k = m + 1 := ⟨k - 1, by omega⟩
    simp only [impl_GoodActs.l0]; rw [if_pos (by omega), if_pos (by omega), if_pos (by omega), in_eq, in_eq, wrap_next (n := l.length) (by omega) (by omega), rdS_at, wrap_small (x := (j : Int) - 1) (by omega) (by omega)]
    simp only [Option.bind_some, okFrom]
    have hF : impl_GoodActs.l0 k p l l l.length ((j + 1 : Nat) : Int) = some (okFrom l (wrap64 (p - 1)) (j + 1) d) := ih k (j + 1) (by omega) (by omega) (by omega)
    generalize hx : l.getD j z57 = x at *
    by_cases h1 : 0 ≤ x.f0 ∧ x.f0 ≤ wrap64 (p - 1)
    · rw [decide_eq_true h1, if_pos rfl]
      by_cases h2 : -1 ≤ x.f1 ∧ x.f1 ≤ (j : Int) - 1
      · rw [decide_eq_true h2, if_pos rfl]
        by_cases h3 : x.f1 = -1
        · rw [if_pos h3, hF]
          have : okAct l (wrap64 (p - 1)) j = true := by unfold okAct; rw [hx]; exact decide_eq_true ⟨h1.1, h1.2, h2.1, h2.2, fun h => absurd h (by omega)⟩
          rw [this]; rfl
        · rw [if_neg h3, if_pos (by omega), if_pos (by omega)]
          have e : rd_T57 l x.f1 = l.getD x.f1.toNat z57 := rfl
          rw [e]
          by_cases h4 : (l.getD x.f1.toNat z57).f0 = x.f0
          · rw [if_pos h4]
            have : okAct l (wrap64 (p - 1)) j = false := by unfold okAct; rw [hx]; exact decide_eq_false (fun h => h.2.2.2.2 (by omega) h4)
            rw [this]; rfl
          · rw [if_neg h4, hF]
            have : okAct l (wrap64 (p - 1)) j = true := by unfold okAct; rw [hx]; exact decide_eq_true ⟨h1.1, h1.2, h2.1, h2.2, fun _ => h4⟩
            rw [this]; rfl
      · rw [decide_eq_false h2, if_neg (by simp)]
        have : okAct l (wrap64 (p - 1)) j = false := by unfold okAct; rw [hx]; exact decide_eq_false (fun h => h2 ⟨h.2.2.1, h.2.2.2.1⟩)
        rw [this]; rfl
    · rw [decide_eq_false h1, if_neg (by simp)]
      have : okAct l (wrap64 (p - 1)) j = false := by unfold okAct; rw [hx]; exact decide_eq_false (fun h => h1 ⟨h.1, h.2.1⟩)
      rw [this]; rfl

theorem impl_good (p : Int) (l : List S57) (hn : l.length ≤ 1048576) (k : Nat) (hk : l.length + 1 < k) : impl_GoodActs.f k p l = some (goodB p l) := by
  obtain ⟨k, rfl⟩ : ∃ m, k = m + 1 := ⟨k - 1, by omega⟩
  unfold impl_GoodActs.f goodB
  rw [in_eq]; simp only [Option.bind_some]
  by_cases h : 1 ≤ p ∧ p ≤ 6
  · rw [decide_eq_true h, if_pos rfl]
    simp only [impl_GoodActs.j0]
    by_cases h6 : l.length ≤ 60
    · rw [if_neg (by simp; omega), decide_eq_true h6, show (0 : Int) = ((0 : Nat) : Int) from rfl, impl_good_loop p l hn l.length k 0 (by omega) (by omega) (by omega)]; rfl
    · rw [if_pos (by simp; omega), decide_eq_false h6]; rfl
  · rw [decide_eq_false h, if_neg (by simp)]
    simp [impl_GoodActs.j0]

/-- the proc and the from of an act -/
def pr (l : List S57) (i : Nat) : Int := (l.getD i z57).f0
def fm (l : List S57) (i : Nat) : Int := (l.getD i z57).f1

/-- k is told to be ahead of i at once -/
def Next (l : List S57) (i k : Nat) : Prop := k < i ∧ (pr l k = pr l i ∨ (k : Int) = fm l i)
def AhN (l : List S57) : Nat → Nat → Nat → Prop
  | 0, _, _ => False
  | n + 1, i, j => ∃ k, Next l i k ∧ (j = k ∨ AhN l n k j)
/-- j is ahead of i -/
def Ahead (l : List S57) (i j : Nat) : Prop := ∃ n, AhN l n i j

theorem ahead_iff (l : List S57) (i j : Nat) : Ahead l i j ↔ ∃ k, Next l i k ∧ (j = k ∨ Ahead l k j) := by
  constructor
  · rintro ⟨n, h⟩
    cases n with
    | zero => exact h.elim
    | succ n =>
      obtain ⟨k, hk, h | h⟩ := h
      · exact ⟨k, hk, .inl h⟩
      · exact ⟨k, hk, .inr ⟨n, h⟩⟩
  · rintro ⟨k, hk, h | ⟨n, h⟩⟩
    · exact ⟨1, k, hk, .inl h⟩
    · exact ⟨n + 1, k, hk, .inr h⟩

theorem ahead_lt {l : List S57} : ∀ (i j : Nat), Ahead l i j → j < i := by
  intro i
  induction i using Nat.strongRecOn with
  | ind i ih =>
    intro j h
    obtain ⟨k, hk, h | h⟩ := (ahead_iff l i j).1 h
    · rw [h]; exact hk.1
    · have := ih k hk.1 j h; have := hk.1; omega

theorem ahead_trans {l : List S57} : ∀ (i k j : Nat), Ahead l i k → Ahead l k j → Ahead l i j := by
  intro i
  induction i using Nat.strongRecOn with
  | ind i ih =>
    intro k j h1 h2
    obtain ⟨m, hm, h | h⟩ := (ahead_iff l i k).1 h1
    · subst h; exact (ahead_iff l i j).2 ⟨k, hm, .inr h2⟩
    · exact (ahead_iff l i j).2 ⟨m, hm, .inr (ih m hm.1 k j h h2)⟩

theorem ahead_next {l : List S57} {i k : Nat} (h : Next l i k) : Ahead l i k := (ahead_iff l i k).2 ⟨k, h, .inl rfl⟩

theorem rdOf_at {α : Type} (d : α) (xs : List α) (j : Nat) : rdOf d xs (j : Int) = xs.getD j d := by unfold rdOf; rw [Int.toNat_natCast]
theorem rdL4_at (xs : List (List Bool)) (j : Nat) : rd_L4 xs (j : Int) = xs.getD j [] := by unfold rd_L4; rw [Int.toNat_natCast]

theorem getD_set {α : Type} (d : α) (x : List α) (i j : Nat) (v : α) (h : i < x.length) : (x.set i v).getD j d = if j = i then v else x.getD j d := by
  rw [List.getD_eq_getElem?_getD, List.getElem?_set]
  by_cases e : i = j
  · subst e; rw [if_pos rfl, if_pos h, if_pos rfl]; rfl
  · rw [if_neg e, if_neg (fun h => e h.symm), List.getD_eq_getElem?_getD]

theorem getD_snoc {α : Type} (d : α) (x : List α) (v : α) (j : Nat) : (x ++ [v]).getD j d = if j = x.length then v else x.getD j d := by
  rw [List.getD_eq_getElem?_getD, List.getD_eq_getElem?_getD]
  by_cases e : j = x.length
  · subst e; rw [if_pos rfl]; simp
  · rw [if_neg e]
    rcases Nat.lt_or_ge j x.length with h | h
    · rw [List.getElem?_append_left h]
    · rw [List.getElem?_eq_none (by simp; omega), List.getElem?_eq_none h]

section
variable (l : List S57) (hn : l.length ≤ 1000) (out : List (List Bool)) (i : Nat) (hi : i < l.length) (ho : out.length = i) (hrow : ∀ k, k < i → (out.getD k []).length = l.length) (r : List (List Bool))
include hn hi ho hrow
/-- the inner loop: what is ahead of k comes to x -/
theorem ahead_l2 (k : Nat) (hk : k < i) (d : Nat) : ∀ (j : Nat) (x : List Bool), j ≤ k → k - j = d → x.length = l.length →
    (∀ y : List Bool, y.length = l.length → (∀ m, y.getD m false = if j ≤ m ∧ m < k then (x.getD m false || (out.getD k []).getD m false) else x.getD m false) → Ev (fun q => spec_l2Ahead.l1 q l out i y ((k + 1 : Nat) : Int) l l.length i (pr l i) (fm l i)) r) →
    Ev (fun q => spec_l2Ahead.l2 q l out i x k j l l.length i (pr l i) (fm l i)) r := by
  induction d with
  | zero =>
    intro j x hj hd hx hc
    refine Ev.step (f := fun q => spec_l2Ahead.l1 q l out i x ((k + 1 : Nat) : Int) l l.length i (pr l i) (fm l i)) (fun q => ?_) (hc x hx (fun m => by rw [if_neg (by omega)]))
    simp only [spec_l2Ahead.l2]; rw [if_neg (by omega), wrap_next (n := l.length) (by omega) (by omega)]
  | succ d ih =>
    intro j x hj hd hx hc
    have hrk := hrow k hk
    have key : ∀ v : Bool, v = (x.getD j false || (out.getD k []).getD j false) → Ev (fun q => spec_l2Ahead.l2 q l out i (x.set j v) k ((j + 1 : Nat) : Int) l l.length i (pr l i) (fm l i)) r := by
      intro v hv
      refine ih (j + 1) (x.set j v) (by omega) (by omega) (by rw [List.length_set]; exact hx) (fun y hy hm => hc y hy (fun m => ?_))
      rw [hm m, getD_set false x j m v (by omega)]
      by_cases e : m = j
      · subst e; rw [if_neg (by omega), if_pos rfl, if_pos (by omega), hv]
      · rw [if_neg e]
        by_cases h2 : j + 1 ≤ m ∧ m < k
        · rw [if_pos h2, if_pos (by omega)]
        · rw [if_neg h2, if_neg (by omega)]
    cases hb : x.getD j false with
    | true =>
      refine Ev.step (f := fun q => spec_l2Ahead.l2 q l out i (x.set j true) k ((j + 1 : Nat) : Int) l l.length i (pr l i) (fm l i)) (fun q => ?_) (key true (by rw [hb]; rfl))
      simp only [spec_l2Ahead.l2]; rw [if_pos (by omega), if_pos (by omega), if_pos (by omega), rdOf_at, hb, if_pos rfl, wrap_next (n := l.length) (by omega) (by omega), Int.toNat_natCast]
    | false =>
      refine Ev.step (f := fun q => spec_l2Ahead.l2 q l out i (x.set j ((out.getD k []).getD j false)) k ((j + 1 : Nat) : Int) l l.length i (pr l i) (fm l i)) (fun q => ?_) (key _ (by rw [hb]; rfl))
      simp only [spec_l2Ahead.l2]; rw [if_pos (by omega), if_pos (by omega), if_pos (by omega), rdOf_at, hb, if_neg (by decide), if_pos (by omega), if_pos (by omega), rdL4_at, if_pos (by omega), rdOf_at, wrap_next (n := l.length) (by omega) (by omega), Int.toNat_natCast]

/-- the loop over what may be ahead of i -/
theorem ahead_l1 (hrows : ∀ k, k < i → ∀ j, (out.getD k []).getD j false = true ↔ Ahead l k j) (d : Nat) : ∀ (k : Nat) (x : List Bool), k ≤ i → i - k = d → x.length = l.length →
    (∀ m, x.getD m false = true ↔ ∃ k', k' < k ∧ Next l i k' ∧ (m = k' ∨ Ahead l k' m)) →
    (∀ y : List Bool, y.length = l.length → (∀ m, y.getD m false = true ↔ Ahead l i m) → Ev (fun q => spec_l2Ahead.l0 q l (out ++ [y]) l l.length ((i + 1 : Nat) : Int)) r) →
    Ev (fun q => spec_l2Ahead.l1 q l out i x k l l.length i (pr l i) (fm l i)) r := by
  induction d with
  | zero =>
    intro k x hk hd hx hm hc
    obtain rfl : k = i := by omega
    refine Ev.step (f := fun q => spec_l2Ahead.l0 q l (out ++ [x]) l l.length ((k + 1 : Nat) : Int)) (fun q => ?_) (hc x hx (fun m => ?_))
    · simp only [spec_l2Ahead.l1]; rw [if_neg (by omega), if_pos (by omega), wrap_next (n := l.length) (by omega) (by omega)]
    · rw [hm m, ahead_iff]
      constructor
      · rintro ⟨k', _, h⟩; exact ⟨k', h⟩
      · rintro ⟨k', h⟩; exact ⟨k', h.1.1, h⟩
  | succ d ih =>
    intro k x hk hd hx hm hc
    have hki : k < i := by omega
    have grow : ∀ y : List Bool, y.length = l.length → (∀ m, y.getD m false = true ↔ (x.getD m false = true ∨ (Next l i k ∧ (m = k ∨ Ahead l k m)))) → Ev (fun q => spec_l2Ahead.l1 q l out i y ((k + 1 : Nat) : Int) l l.length i (pr l i) (fm l i)) r := by
      intro y hy hym
      refine ih (k + 1) y (by omega) (by omega) hy (fun m => ?_) hc
      rw [hym m, hm m]
      constructor
      · rintro (⟨k', h1, h2⟩ | h)
        · exact ⟨k', by omega, h2⟩
        · exact ⟨k, by omega, h⟩
      · rintro ⟨k', h1, h2⟩
        by_cases e : k' = k
        · subst e; exact .inr h2
        · exact .inl ⟨k', by omega, h2⟩
    have jump : ∀ b : Bool, (b = true ↔ ¬ Next l i k) → Ev (fun q => spec_l2Ahead.j2 q l out i x k l l.length i b (pr l i) (fm l i)) r := by
      intro b hb
      cases b with
      | true =>
        refine Ev.step (f := fun q => spec_l2Ahead.l1 q l out i x ((k + 1 : Nat) : Int) l l.length i (pr l i) (fm l i)) (fun q => ?_) (grow x hx (fun m => ?_))
        · simp only [spec_l2Ahead.j2, if_true]; rw [wrap_next (n := l.length) (by omega) (by omega)]
        · constructor
          · exact .inl
          · rintro (h | h)
            · exact h
            · exact absurd h.1 (hb.1 rfl)
      | false =>
        have hnx : Next l i k := Classical.byContradiction (fun h => by have := hb.2 h; cases this)
        refine Ev.step (f := fun q => spec_l2Ahead.l2 q l out i (x.set k true) k ((0 : Nat) : Int) l l.length i (pr l i) (fm l i)) (fun q => ?_) ?_
        · simp only [spec_l2Ahead.j2, Bool.false_eq_true, if_false]; rw [if_pos (by omega), if_pos (by omega), Int.toNat_natCast]; rfl
        · refine ahead_l2 l hn out i hi ho hrow r k hki k 0 (x.set k true) (by omega) (by omega) (by rw [List.length_set]; exact hx) (fun y hy hym => grow y hy (fun m => ?_))
          rw [hym m, getD_set false x k m true (by omega)]
          by_cases e : m = k
          · subst e; rw [if_neg (by omega), if_pos rfl]; simp [hnx]
          · rw [if_neg e]
            by_cases h2 : 0 ≤ m ∧ m < k
            · rw [if_pos h2, Bool.or_eq_true, hrows k hki m]; simp [hnx, e]
            · rw [if_neg h2]
              constructor
              · exact .inl
              · rintro (h | ⟨_, h | h⟩)
                · exact h
                · exact absurd h e
                · have := ahead_lt k m h; omega
    by_cases hp : pr l k = pr l i
    · refine Ev.step (f := fun q => spec_l2Ahead.j2 q l out i x k l l.length i false (pr l i) (fm l i)) (fun q => ?_) (jump false (Iff.intro (fun h => Bool.noConfusion h) (fun h => absurd (show Next l i k from ⟨hki, .inl hp⟩) h)))
      simp only [spec_l2Ahead.l1]; rw [if_pos (by omega), if_pos (by omega), if_pos (by omega), rdS_at, if_pos (show (l.getD k z57).f0 = pr l i from hp)]
    · refine Ev.step (f := fun q => spec_l2Ahead.j2 q l out i x k l l.length i ((k : Int) != fm l i) (pr l i) (fm l i)) (fun q => ?_) (jump _ ?_)
      · simp only [spec_l2Ahead.l1]; rw [if_pos (by omega), if_pos (by omega), if_pos (by omega), rdS_at, if_neg (show ¬ (l.getD k z57).f0 = pr l i from hp)]
      · rw [bne_iff_ne]
        constructor
        · rintro h1 ⟨_, h2 | h2⟩
          · exact hp h2
          · exact h1 h2
        · intro h1 h2; exact h1 ⟨hki, .inr h2⟩
end

theorem ahead_l0 (l : List S57) (hn : l.length ≤ 1000) (d : Nat) : ∀ (i : Nat) (out : List (List Bool)), i ≤ l.length → l.length - i = d → out.length = i → (∀ k, k < i → (out.getD k []).length = l.length) →
    (∀ k, k < i → ∀ j, (out.getD k []).getD j false = true ↔ Ahead l k j) →
    ∃ r : List (List Bool), Ev (fun q => spec_l2Ahead.l0 q l out l l.length i) r ∧ r.length = l.length ∧ (∀ k, k < l.length → (r.getD k []).length = l.length) ∧ ∀ k, k < l.length → ∀ j, (r.getD k []).getD j false = true ↔ Ahead l k j := by
  induction d with
  | zero =>
    intro i out hi hd ho hrow hrows
    obtain rfl : i = l.length := by omega
    refine ⟨out, Ev.step (f := fun _ => some out) (fun q => ?_) (Ev.now _), ho, hrow, hrows⟩
    simp only [spec_l2Ahead.l0]; rw [if_neg (by omega)]
  | succ d ih =>
    intro i out hi hd ho hrow hrows
    have next : ∀ y : List Bool, y.length = l.length → (∀ m, y.getD m false = true ↔ Ahead l i m) → ∃ r : List (List Bool), Ev (fun q => spec_l2Ahead.l0 q l (out ++ [y]) l l.length ((i + 1 : Nat) : Int)) r ∧ r.length = l.length ∧ (∀ k, k < l.length → (r.getD k []).length = l.length) ∧ ∀ k, k < l.length → ∀ j, (r.getD k []).getD j false = true ↔ Ahead l k j := by
      intro y hy hym
      refine ih (i + 1) (out ++ [y]) (by omega) (by omega) (by simp [ho]) (fun k hk => ?_) (fun k hk j => ?_)
      · rw [getD_snoc]; split
        · exact hy
        · exact hrow k (by omega)
      · rw [getD_snoc]; split
        · rw [show k = i by omega]; exact hym j
        · exact hrows k (by omega) j
    obtain ⟨y, hy, hym⟩ : ∃ y : List Bool, y.length = l.length ∧ ∀ m, y.getD m false = true ↔ Ahead l i m := by
      classical
      refine ⟨(List.range l.length).map (fun m => decide (Ahead l i m)), by simp, fun m => ?_⟩
      rw [List.getD_eq_getElem?_getD, List.getElem?_map]
      rcases Nat.lt_or_ge m l.length with h | h
      · rw [List.getElem?_range h]; simp
      · rw [List.getElem?_eq_none (by simpa using h)]
        simp only [Option.map_none, Option.getD_none, Bool.false_eq_true, false_iff]
        intro h2; have := ahead_lt i m h2; omega
    obtain ⟨r, hr, hr1, hr2, hr3⟩ := next y hy hym
    refine ⟨r, ?_, hr1, hr2, hr3⟩
    refine Ev.step (f := fun q => spec_l2Ahead.l1 q l out i (List.replicate l.length false) ((0 : Nat) : Int) l l.length i (pr l i) (fm l i)) (fun q => ?_) ?_
    · simp only [spec_l2Ahead.l0]; rw [if_pos (by omega), if_pos (by omega), if_pos (by omega), if_pos (by omega), Int.toNat_natCast, if_pos (by omega), rdS_at]; rfl
    · refine ahead_l1 l hn out i (by omega) ho hrow r hrows i 0 _ (by omega) (by omega) (by simp) (fun m => ?_) (fun z hz hzm => ?_)
      · constructor
        · intro h
          rw [List.getD_eq_getElem?_getD, List.getElem?_replicate] at h
          split at h <;> simp at h
        · rintro ⟨k', h, _⟩; omega
      · have : z = y := by
          apply List.ext_getElem?
          intro m
          rcases Nat.lt_or_ge m l.length with h | h
          · have e1 : z.getD m false = y.getD m false := by
              have := (hzm m).trans (hym m).symm
              cases h1 : z.getD m false <;> cases h2 : y.getD m false <;> simp_all
            rw [List.getD_eq_getElem?_getD, List.getD_eq_getElem?_getD, List.getElem?_eq_getElem (by omega), List.getElem?_eq_getElem (by omega)] at e1
            rw [List.getElem?_eq_getElem (by omega), List.getElem?_eq_getElem (by omega)]
            exact congrArg some e1
          · rw [List.getElem?_eq_none (by omega), List.getElem?_eq_none (by omega)]
        rw [this]; exact hr

/-- WHAT spec.l2Ahead TELLS. -/
theorem ahead_rows (l : List S57) (hn : l.length ≤ 1000) : ∃ r : List (List Bool), Ev (fun q => spec_l2Ahead.f q l) r ∧ r.length = l.length ∧ (∀ k, k < l.length → (r.getD k []).length = l.length) ∧ ∀ k, k < l.length → ∀ j, (r.getD k []).getD j false = true ↔ Ahead l k j := by
  obtain ⟨r, h⟩ := ahead_l0 l hn l.length 0 [] (by omega) (by omega) rfl (fun k hk => by omega) (fun k hk => by omega)
  exact ⟨r, h⟩

/-- good acts, in words -/
structure Good (p : Int) (l : List S57) : Prop where
  p1 : 1 ≤ p
  p6 : p ≤ 6
  len : l.length ≤ 60
  proc : ∀ i, i < l.length → 0 ≤ pr l i ∧ pr l i ≤ p - 1
  frm : ∀ i, i < l.length → -1 ≤ fm l i ∧ fm l i ≤ (i : Int) - 1
  other : ∀ i, i < l.length → 0 ≤ fm l i → pr l (fm l i).toNat ≠ pr l i

theorem good_of (p : Int) (l : List S57) (h : goodB p l = true) : Good p l := by
  unfold goodB at h
  simp only [Bool.and_eq_true, decide_eq_true_eq] at h
  obtain ⟨⟨h1, h2⟩, h3⟩ := h
  rw [wrap_small (by omega) (by omega), okFrom_all] at h3
  have h4 : ∀ i, i < l.length → okAct l (p - 1) i = true := fun i hi => h3 i (by omega) (by omega)
  simp only [okAct, decide_eq_true_eq] at h4
  exact ⟨h1.1, h1.2, h2, fun i hi => ⟨(h4 i hi).1, (h4 i hi).2.1⟩, fun i hi => ⟨(h4 i hi).2.2.1, (h4 i hi).2.2.2.1⟩, fun i hi hf => (h4 i hi).2.2.2.2 hf⟩

/-- m is the last act of q ahead of place i -/
def LastOf (l : List S57) (i : Nat) (q : Int) (m : Nat) : Prop := m < i ∧ pr l m = q ∧ ∀ k, m < k → k < i → pr l k ≠ q
def NoneOf (l : List S57) (i : Nat) (q : Int) : Prop := ∀ k, k < i → pr l k ≠ q

theorem next_from {p : Int} {l : List S57} (g : Good p l) {i : Nat} (hi : i < l.length) (hf : fm l i ≠ -1) : Next l i (fm l i).toNat ∧ ((fm l i).toNat : Int) = fm l i := by
  have := g.frm i hi
  exact ⟨⟨by omega, .inr (by omega)⟩, by omega⟩

theorem markActS_loop (d : Nat) : ∀ (k j : Nat) (v : Int) (l : List S57), l.length ≤ 140737488351232 → 0 ≤ v → v + 2 * d ≤ 1000000000000000000 → j ≤ l.length → l.length - j = d → d < k →
    ∃ y, laws_markActS.l0 k l v j = some (v + 2 * d, y) := by
  induction d with
  | zero =>
    intro k j v l hn hv0 hv1 hj hd hk
    obtain ⟨k, rfl⟩ : ∃ m, k = m + 1 := ⟨k - 1, by omega⟩
    refine ⟨l, ?_⟩
    simp only [laws_markActS.l0]; rw [if_neg (by omega)]; simp
  | succ d ih =>
    intro k j v l hn hv0 hv1 hj hd hk
    obtain ⟨k, rfl⟩ : ∃ m, k = m + 1 := ⟨k - 1, by omega⟩
    simp only [laws_markActS.l0, Option.bind_some]; rw [if_pos (by omega), if_pos (by omega), wrap_next (n := l.length) (by omega) hn, wrap_small (x := v + 1) (by omega) (by omega), wrap_small (x := v + 1 + 1) (by omega) (by omega), Int.toNat_natCast]
    obtain ⟨y, hy⟩ := ih k (j + 1) (v + 1 + 1) ((l.set j ⟨v, (rd_T57 l (j : Int)).f1⟩).set j ⟨(rd_T57 (l.set j ⟨v, (rd_T57 l (j : Int)).f1⟩) (j : Int)).f0, v + 1⟩) (by simp only [List.length_set]; exact hn) (by omega) (by omega) (by simp only [List.length_set]; omega) (by simp only [List.length_set]; omega) (by omega)
    refine ⟨y, ?_⟩
    rw [hy]; congr 2; omega

theorem markActS_eq (l : List S57) (v : Int) (hn : l.length ≤ 140737488351232) (hv0 : 0 ≤ v) (hv1 : v ≤ 500000000000000) (k : Nat) (hk : l.length < k) : ∃ y, laws_markActS.f k l v = some (v + 2 * l.length, y) := by
  unfold laws_markActS.f
  exact markActS_loop l.length k 0 v l hn hv0 (by omega) (by omega) (by omega) hk

theorem impl_join_loop (a b : List Int) (hab : a.length = b.length) (hn : a.length ≤ 140737488351232) (d : Nat) : ∀ (k j : Nat) (x : List Int), j ≤ a.length → a.length - j = d → x.length + d ≤ 17592186044416 → d < k →
    impl_joined.l0 k b x a a.length j = some (x ++ List.zipWith mx (a.drop j) (b.drop j)) := by
  induction d with
  | zero =>
    intro k j x hj hd hx hk
    obtain ⟨k, rfl⟩ : ∃ m, k = m + 1 := ⟨k - 1, by omega⟩
    simp only [impl_joined.l0]; rw [if_neg (by omega), List.drop_of_length_le (by omega)]; simp
  | succ d ih =>
    intro k j x hj hd hx hk
    obtain ⟨k, rfl⟩ : ∃ m, k = m + 1 := ⟨k - 1, by omega⟩
    simp only [impl_joined.l0]; rw [if_pos (by omega), if_pos (by omega), if_pos (by omega), if_pos (by omega), if_pos (by omega), wrap_next (n := a.length) (by omega) hn, rd_at, rd_at, drop_at a j (by omega), drop_at b j (by omega)]
    rw [ih k (j + 1) (x ++ [_]) (by omega) (by omega) (by simp; omega) (by omega)]; simp

theorem impl_joined_eq (a b : List Int) (h : a.length = b.length) (h6 : a.length ≤ 100) (k : Nat) (hk : a.length < k) : impl_joined.f k a b = some (List.zipWith mx a b) := by
  unfold impl_joined.f
  have := impl_join_loop a b h (by omega) a.length k 0 [] (by omega) (by omega) (by simp; omega) (by omega)
  simpa using this

/-- how many acts of q stand ahead of place i -/
def cntP (l : List S57) (q : Int) : Nat → Nat
  | 0 => 0
  | i + 1 => cntP l q i + if pr l i = q then 1 else 0
/-- how many acts of its own process stand ahead of act k -/
def rank (l : List S57) (k : Nat) : Nat := cntP l (pr l k) k

theorem cntP_mono (l : List S57) (q : Int) {i j : Nat} (h : i ≤ j) : cntP l q i ≤ cntP l q j := by
  induction j with
  | zero => rw [Nat.le_zero.1 h]; exact Nat.le_refl _
  | succ j ih =>
    rcases Nat.lt_or_ge i (j + 1) with h1 | h1
    · have := ih (by omega); simp only [cntP]; omega
    · rw [show i = j + 1 by omega]; exact Nat.le_refl _
theorem cntP_lt (l : List S57) (q : Int) {i j : Nat} (h : i < j) (hp : pr l i = q) : cntP l q i < cntP l q j := by
  have := cntP_mono l q (show i + 1 ≤ j from h)
  simp only [cntP, hp, if_true] at this
  omega
theorem cntP_le (l : List S57) (q : Int) (i : Nat) : cntP l q i ≤ i := by
  induction i with
  | zero => exact Nat.le_refl _
  | succ i ih => simp only [cntP]; split <;> omega

/-- i itself, or ahead of i -/
def InS (l : List S57) (i k : Nat) : Prop := k = i ∨ Ahead l i k

/-- v is act i's vector -/
structure VecOK (p : Int) (l : List S57) (i : Nat) (v : List Int) : Prop where
  len : (v.length : Int) = p
  pos : ∀ q : Int, 0 ≤ q → q < p → 0 ≤ rd v q ∧ rd v q ≤ i + 1
  mem : ∀ k, k < l.length → 0 ≤ pr l k → pr l k < p → (InS l i k ↔ (rank l k : Int) < rd v (pr l k))
  top : ∀ q : Int, 0 ≤ q → q < p → rd v q = 0 ∨ ∃ k, k < l.length ∧ pr l k = q ∧ (rank l k : Int) + 1 = rd v q

theorem inS_le {l : List S57} {i k : Nat} (h : InS l i k) : k ≤ i := by
  rcases h with h | h
  · omega
  · have := ahead_lt i k h; omega
theorem inS_trans {l : List S57} {i k m : Nat} (h : InS l i k) (h2 : InS l k m) : InS l i m := by
  rcases h with h | h
  · rw [← h]; exact h2
  · rcases h2 with h2 | h2
    · exact .inr (h2 ▸ h)
    · exact .inr (ahead_trans i k m h h2)

/-- the vectors tell what is ahead -/
theorem vec_below {p : Int} {l : List S57} (g : Good p l) {a b : Nat} (ha : a < l.length) (hb : b < l.length) {u v : List Int} (hu : VecOK p l a u) (hv : VecOK p l b v) :
    (∀ q : Int, 0 ≤ q → q < p → rd u q ≤ rd v q) ↔ InS l b a := by
  constructor
  · intro h
    have hp := g.proc a ha
    have h1 := (hu.mem a ha hp.1 (by omega)).1 (.inl rfl)
    exact (hv.mem a ha hp.1 (by omega)).2 (by have := h (pr l a) hp.1 (by omega); omega)
  · intro h q h0 h1
    rcases hu.top q h0 h1 with h2 | ⟨k, hk, hq, hr⟩
    · have := (hv.pos q h0 h1).1; omega
    · subst hq
      have h3 : InS l a k := (hu.mem k hk h0 h1).2 (by omega)
      have h4 := (hv.mem k hk h0 h1).1 (inS_trans h h3)
      omega

/-- the step of a vector: from those of the last act of the same process and of the act that the message came from -/
theorem vec_step {p : Int} {l : List S57} (g : Good p l) {i : Nat} (hi : i < l.length) {v : List Int} (hlen : (v.length : Int) = p)
    (hpos : ∀ q : Int, 0 ≤ q → q < p → 0 ≤ rd v q ∧ rd v q ≤ i)
    (hmem : ∀ k, k < l.length → 0 ≤ pr l k → pr l k < p → (Ahead l i k ↔ (rank l k : Int) < rd v (pr l k)))
    (htop : ∀ q : Int, 0 ≤ q → q < p → rd v q = 0 ∨ ∃ k, k < l.length ∧ pr l k = q ∧ (rank l k : Int) + 1 = rd v q) :
    VecOK p l i (v.set (pr l i).toNat (wrap64 (rd v (pr l i) + 1))) := by
  have hp := g.proc i hi
  have hl60 := g.len
  have hb := hpos (pr l i) hp.1 (by omega)
  have ew : wrap64 (rd v (pr l i) + 1) = rd v (pr l i) + 1 := wrap_small (by omega) (by omega)
  -- the old number is how many acts of the process stand ahead
  have hrank : rd v (pr l i) = (rank l i : Int) := by
    have hge : ¬ ((rank l i : Int) < rd v (pr l i)) := fun h => by
      have := ahead_lt i i ((hmem i hi hp.1 (by omega)).2 h); omega
    rcases htop (pr l i) hp.1 (by omega) with h0 | ⟨k, hk, hq, hr⟩
    · -- no act of the process is ahead
      have hz : ∀ n, n ≤ i → cntP l (pr l i) n = 0 := by
        intro n
        induction n with
        | zero => intro _; rfl
        | succ n ih =>
          intro hn
          simp only [cntP, ih (by omega)]
          by_cases h : pr l n = pr l i
          · have ha : Ahead l i n := (ahead_iff l i n).2 ⟨n, ⟨by omega, .inl h⟩, .inl rfl⟩
            have := (hmem n (by omega) (by rw [h]; exact hp.1) (by rw [h]; omega)).1 ha
            rw [h] at this; omega
          · rw [if_neg h]
      unfold rank; rw [hz i (Nat.le_refl _)]; exact h0
    · by_cases hki : k < i
      · -- the next of the process behind k is i
        rcases Int.lt_trichotomy (rd v (pr l i)) (rank l i : Int) with h | h | h
        · exfalso
          -- the last act of the process ahead of i
          have key : ∀ n, n ≤ i → (rank l k : Int) + 1 < cntP l (pr l i) n → ∃ m, m < n ∧ pr l m = pr l i ∧ (rank l m : Int) + 1 = cntP l (pr l i) n := by
            intro n
            induction n with
            | zero => intro _ h2; simp only [cntP] at h2; omega
            | succ n ih =>
              intro hn h2
              by_cases hpn : pr l n = pr l i
              · exact ⟨n, by omega, hpn, by unfold rank; rw [hpn]; simp only [cntP, hpn, if_true]; omega⟩
              · have e : cntP l (pr l i) (n + 1) = cntP l (pr l i) n := by simp only [cntP, if_neg hpn]; rfl
                rw [e] at h2 ⊢
                obtain ⟨m, hm, h3⟩ := ih (by omega) h2
                exact ⟨m, by omega, h3⟩
          obtain ⟨m, hm, hpm, hrm⟩ := key i (Nat.le_refl _) (by have : (rank l i : Int) = cntP l (pr l i) i := rfl; omega)
          have ha : Ahead l i m := (ahead_iff l i m).2 ⟨m, ⟨hm, .inl hpm⟩, .inl rfl⟩
          have h4 := (hmem m (by omega) (by rw [hpm]; exact hp.1) (by rw [hpm]; omega)).1 ha
          rw [hpm] at h4
          have : (rank l i : Int) = cntP l (pr l i) i := rfl
          omega
        · exact h
        · exact absurd h hge
      · exfalso
        have h5 : Ahead l i k := (hmem k hk (by rw [hq]; exact hp.1) (by rw [hq]; omega)).2 (by rw [hq]; omega)
        have := ahead_lt i k h5
        omega
  have hset : ∀ q : Int, 0 ≤ q → q < p → rd (v.set (pr l i).toNat (wrap64 (rd v (pr l i) + 1))) q = if q = pr l i then rd v (pr l i) + 1 else rd v q := by
    intro q h0 h1
    rw [ew]
    unfold rd
    by_cases h : q = pr l i
    · subst h; rw [if_pos rfl, List.getD_eq_getElem?_getD, List.getElem?_set_self (by omega)]; rfl
    · rw [if_neg h, List.getD_eq_getElem?_getD, List.getElem?_set_ne (by omega), List.getD_eq_getElem?_getD]
  refine ⟨by rw [List.length_set]; exact hlen, fun q h0 h1 => ?_, fun k hk h0 h1 => ?_, fun q h0 h1 => ?_⟩
  · rw [hset q h0 h1]
    have := hpos q h0 h1
    by_cases h : q = pr l i
    · rw [if_pos h]; omega
    · rw [if_neg h]; omega
  · rw [hset _ h0 h1]
    by_cases h : pr l k = pr l i
    · rw [if_pos h, hrank]
      constructor
      · intro hin
        rcases hin with hin | hin
        · subst hin; omega
        · have := cntP_lt l (pr l i) (ahead_lt i k hin) h
          unfold rank; rw [h]; omega
      · intro hlt
        rcases Nat.lt_trichotomy k i with h2 | h2 | h2
        · exact .inr ((ahead_iff l i k).2 ⟨k, ⟨h2, .inl h⟩, .inl rfl⟩)
        · exact .inl h2
        · have := cntP_lt l (pr l i) h2 rfl
          unfold rank at hlt; rw [h] at hlt; omega
    · rw [if_neg h]
      rw [← hmem k hk h0 h1]
      constructor
      · intro hin
        rcases hin with hin | hin
        · exact absurd (by rw [hin]) h
        · exact hin
      · exact fun hin => .inr hin
  · rw [hset q h0 h1]
    by_cases h : q = pr l i
    · rw [if_pos h]; exact .inr ⟨i, hi, h.symm, by rw [hrank]⟩
    · rw [if_neg h]; exact htop q h0 h1

theorem rd_zip (a b : List Int) (h : a.length = b.length) (q : Int) (h0 : 0 ≤ q) (h1 : q < a.length) : rd (List.zipWith mx a b) q = mx (rd a q) (rd b q) := by
  obtain ⟨n, rfl⟩ := Int.eq_ofNat_of_zero_le h0
  unfold rd
  rw [Int.toNat_natCast, List.getD_eq_getElem?_getD, List.getD_eq_getElem?_getD, List.getD_eq_getElem?_getD, List.getElem?_zipWith, List.getElem?_eq_getElem (show n < a.length by omega), List.getElem?_eq_getElem (show n < b.length by omega)]
  rfl
theorem rd_zeros (n : Nat) (q : Int) : rd (List.replicate n 0) q = 0 := by
  unfold rd
  rw [List.getD_eq_getElem?_getD, List.getElem?_replicate]
  split <;> rfl

theorem over_nil (n : Nat) : overL (List.replicate n 0) [] = List.replicate n 0 := by unfold overL; simp
theorem over_full (n : Nat) (y : List Int) (h : y.length = n) : overL (List.replicate n 0) y = y := by
  unfold overL; rw [List.length_replicate, h, Nat.min_self, List.take_of_length_le (by omega), List.drop_of_length_le (by simp), List.append_nil]

/-- what the last rows are, ahead of act i -/
def LastOK (p : Int) (l : List S57) (i : Nat) (last : List (List Int)) : Prop :=
  ∀ q : Int, 0 ≤ q → q < p → (last.getD q.toNat [] = [] ∧ NoneOf l i q) ∨ ∃ m, LastOf l i q m ∧ VecOK p l m (last.getD q.toNat [])

theorem ahead_same {l : List S57} {i m x k : Nat} (hm : LastOf l i (pr l i) m) (hx : x < i) (hp : pr l x = pr l i) (hk : k = x ∨ Ahead l x k) : InS l m k := by
  have hxm : x ≤ m := by
    rcases Nat.lt_or_ge m x with h | h
    · exact absurd hp (hm.2.2 x h hx)
    · exact h
  have h1 : InS l m x := by
    rcases Nat.lt_or_ge x m with h | h
    · exact .inr ((ahead_iff l m x).2 ⟨x, ⟨h, .inl (by rw [hp, hm.2.1])⟩, .inl rfl⟩)
    · exact .inl (by omega)
  exact inS_trans h1 hk

/-- the vector ahead of the last step, with no act that the message came from -/
theorem prev_facts {p : Int} {l : List S57} (g : Good p l) {i : Nat} (hi : i < l.length) {last : List (List Int)} (hl : LastOK p l i last) :
    ∃ v0, overL (List.replicate p.toNat 0) (last.getD (pr l i).toNat []) = v0 ∧ (v0.length : Int) = p ∧ (∀ q : Int, 0 ≤ q → q < p → 0 ≤ rd v0 q ∧ rd v0 q ≤ i) ∧
      (∀ k, k < l.length → 0 ≤ pr l k → pr l k < p → ((∃ x, x < i ∧ pr l x = pr l i ∧ (k = x ∨ Ahead l x k)) ↔ (rank l k : Int) < rd v0 (pr l k))) ∧
      (∀ q : Int, 0 ≤ q → q < p → rd v0 q = 0 ∨ ∃ k, k < l.length ∧ pr l k = q ∧ (rank l k : Int) + 1 = rd v0 q) := by
  have hp := g.proc i hi
  have hp1 := g.p1
  rcases hl (pr l i) hp.1 (by omega) with ⟨h1, h2⟩ | ⟨m, hm, hv⟩
  · rw [h1, over_nil]
    refine ⟨_, rfl, by simp; omega, fun q _ _ => by rw [rd_zeros]; omega, fun k hk h0 h3 => ?_, fun q _ _ => .inl (rd_zeros _ _)⟩
    rw [rd_zeros]
    constructor
    · rintro ⟨x, hx, hpx, _⟩
      exact absurd hpx (h2 x hx)
    · intro h; omega
  · have hml := hm.1
    rw [over_full _ _ (by have := hv.len; omega)]
    refine ⟨_, rfl, hv.len, fun q h0 h3 => by have := hv.pos q h0 h3; omega, fun k hk h0 h3 => ?_, hv.top⟩
    rw [← hv.mem k hk h0 h3]
    constructor
    · rintro ⟨x, hx, hpx, hkx⟩
      exact ahead_same hm hx hpx hkx
    · intro h; exact ⟨m, hml, hm.2.1, h⟩

theorem act_vec {p : Int} {l : List S57} (g : Good p l) {i : Nat} (hi : i < l.length) {out last : List (List Int)} (ho : out.length = i) (hout : ∀ m, m < i → VecOK p l m (out.getD m [])) (hl : LastOK p l i last) (k : Nat) (hk : 100 < k) :
    ∃ v, (if fm l i = -1 then some (overL (List.replicate p.toNat 0) (last.getD (pr l i).toNat [])) else if 0 ≤ fm l i ∧ fm l i < out.length then impl_joined.f k (overL (List.replicate p.toNat 0) (last.getD (pr l i).toNat [])) (out.getD (fm l i).toNat []) else none) = some v ∧
      (v.length : Int) = p ∧ VecOK p l i (v.set (pr l i).toNat (wrap64 (rd v (pr l i) + 1))) := by
  obtain ⟨v0, e0, hlen, hpos, hmem, htop⟩ := prev_facts g hi hl
  rw [e0]
  by_cases hf : fm l i = -1
  · rw [if_pos hf]
    refine ⟨v0, rfl, hlen, vec_step g hi hlen hpos (fun k hk h0 h1 => ?_) htop⟩
    rw [← hmem k hk h0 h1, ahead_iff]
    constructor
    · rintro ⟨x, ⟨hx, h | h⟩, hkx⟩
      · exact ⟨x, hx, h, hkx⟩
      · omega
    · rintro ⟨x, hx, h, hkx⟩
      exact ⟨x, ⟨hx, .inl h⟩, hkx⟩
  · have hfr := g.frm i hi
    have hp6 := g.p6
    obtain ⟨f, hff⟩ : ∃ f : Nat, (f : Int) = fm l i := ⟨(fm l i).toNat, by omega⟩
    rw [if_neg hf, ← hff, if_pos (by omega), Int.toNat_natCast]
    have hw := hout f (by omega)
    obtain ⟨w, hww⟩ : ∃ w, w = out.getD f [] := ⟨_, rfl⟩
    rw [← hww] at hw ⊢
    have hwl := hw.len
    rw [impl_joined_eq v0 w (by omega) (by omega) k (by omega)]
    have hz : ∀ q : Int, 0 ≤ q → q < p → rd (List.zipWith mx v0 w) q = mx (rd v0 q) (rd w q) := fun q h0 h1 => rd_zip v0 w (by omega) q h0 (by omega)
    have hzl : ((List.zipWith mx v0 w).length : Int) = p := by rw [List.length_zipWith]; omega
    refine ⟨_, rfl, hzl, vec_step g hi hzl (fun q h0 h1 => ?_) (fun k hk h0 h1 => ?_) (fun q h0 h1 => ?_)⟩
    · rw [hz q h0 h1]
      have := hpos q h0 h1
      have := hw.pos q h0 h1
      unfold mx
      omega
    · rw [hz _ h0 h1, ahead_iff]
      have h2 := hmem k hk h0 h1
      have h3 := hw.mem k hk h0 h1
      have e : (rank l k : Int) < mx (rd v0 (pr l k)) (rd w (pr l k)) ↔ ((rank l k : Int) < rd v0 (pr l k) ∨ (rank l k : Int) < rd w (pr l k)) := by
        unfold mx; split <;> constructor <;> intro h4 <;> omega
      rw [e, ← h2, ← h3]
      constructor
      · rintro ⟨x, ⟨hx, h | h⟩, hkx⟩
        · exact .inl ⟨x, hx, h, hkx⟩
        · have : x = f := by omega
          subst this
          exact .inr hkx
      · rintro (⟨x, hx, h, hkx⟩ | h)
        · exact ⟨x, ⟨hx, .inl h⟩, hkx⟩
        · exact ⟨f, ⟨by omega, .inr hff⟩, h⟩
    · rw [hz q h0 h1]
      have h2 := htop q h0 h1
      have h3 := hw.top q h0 h1
      have h4 := hpos q h0 h1
      have h5 := hw.pos q h0 h1
      rcases Int.lt_or_le (rd v0 q) (rd w q) with h | h
      · have e : mx (rd v0 q) (rd w q) = rd w q := by unfold mx; rw [if_pos h]
        rw [e]; exact h3
      · have e : mx (rd v0 q) (rd w q) = rd v0 q := by unfold mx; rw [if_neg (by omega)]
        rw [e]; exact h2

theorem vecs_loop {p : Int} {l : List S57} (g : Good p l) (k : Nat) (hk : 100 < k) (d : Nat) : ∀ (i : Nat) (out last : List (List Int)), i ≤ l.length → l.length - i = d → out.length = i → (∀ m, m < i → VecOK p l m (out.getD m [])) → (last.length : Int) = p → LastOK p l i last →
    ∃ V, vecGo k p (l.drop i) out last = some V ∧ V.length = l.length ∧ ∀ m, m < l.length → VecOK p l m (V.getD m []) := by
  induction d with
  | zero =>
    intro i out last hi hd ho hout hll hl
    rw [List.drop_of_length_le (by omega)]
    exact ⟨out, rfl, by omega, fun m hm => hout m (by omega)⟩
  | succ d ih =>
    intro i out last hi hd ho hout hll hl
    have hil : i < l.length := by omega
    have hp := g.proc i hil
    have h60 := g.len
    obtain ⟨v, hv, hvl, hok⟩ := act_vec g hil ho hout hl k hk
    obtain ⟨nv, hnv⟩ : ∃ nv, nv = v.set (pr l i).toNat (wrap64 (rd v (pr l i) + 1)) := ⟨_, rfl⟩
    rw [← hnv] at hok
    have hda : l.drop i = l.getD i z57 :: l.drop (i + 1) := dropS_at z57 l i hil
    have e1 : (l.getD i z57).f0 = pr l i := rfl
    have e2 : (l.getD i z57).f1 = fm l i := rfl
    rw [hda]
    simp only [vecGo, e1, e2]
    rw [if_pos (by omega), hv]; simp only [Option.bind_some]
    rw [if_pos (by omega), ← hnv]
    refine ih (i + 1) (out ++ [nv]) (last.set (pr l i).toNat nv) (by omega) (by omega) (by simp; omega) (fun m hm => ?_) (by rw [List.length_set]; exact hll) (fun q h0 h1 => ?_)
    · by_cases h : m = i
      · subst h
        rw [List.getD_eq_getElem?_getD, List.getElem?_append_right (by omega), ho]; simpa using hok
      · rw [List.getD_eq_getElem?_getD, List.getElem?_append_left (by omega), ← List.getD_eq_getElem?_getD]
        exact hout m (by omega)
    · by_cases h : q = pr l i
      · subst h
        refine .inr ⟨i, ⟨by omega, rfl, fun x h2 h3 => by omega⟩, ?_⟩
        rw [List.getD_eq_getElem?_getD, List.getElem?_set_self (by omega)]; exact hok
      · have e : (last.set (pr l i).toNat nv).getD q.toNat [] = last.getD q.toNat [] := by
          rw [List.getD_eq_getElem?_getD, List.getElem?_set_ne (by omega), List.getD_eq_getElem?_getD]
        rw [e]
        rcases hl q h0 h1 with ⟨h2, h3⟩ | ⟨m, hm, hv2⟩
        · refine .inl ⟨h2, fun x hx => ?_⟩
          by_cases hxi : x = i
          · rw [hxi]; exact fun e => h e.symm
          · exact h3 x (by omega)
        · refine .inr ⟨m, ⟨by have := hm.1; omega, hm.2.1, fun x h2 h3 => ?_⟩, hv2⟩
          by_cases hxi : x = i
          · rw [hxi]; exact fun e => h e.symm
          · exact hm.2.2 x h2 (by omega)

theorem vecs_ok {p : Int} {l : List S57} (g : Good p l) (k : Nat) (hk : 100 < k) : ∃ V, impl_vectors.f k p l = some V ∧ V.length = l.length ∧ ∀ m, m < l.length → VecOK p l m (V.getD m []) := by
  have h1 := g.p1
  have h6 := g.p6
  unfold impl_vectors.f
  rw [if_pos (by omega)]
  have := vecs_loop g k hk l.length 0 [] (List.replicate p.toNat []) (by omega) (by omega) rfl (fun m hm => by omega) (by simp; omega) (fun q h0 h2 => .inl ⟨?_, fun x hx => by omega⟩)
  · simpa using this
  · rw [List.getD_eq_getElem?_getD, List.getElem?_replicate]; split <;> rfl

theorem vec_cap {p : Int} {l : List S57} {i : Nat} {v : List Int} (hv : VecOK p l i v) (q : Int) (h0 : 0 ≤ q) (h1 : q < p) : rd v q ≤ cntP l q (i + 1) := by
  rcases hv.top q h0 h1 with h | ⟨k, hk, hq, hr⟩
  · omega
  · subst hq
    have h3 := inS_le ((hv.mem k hk h0 h1).2 (by omega))
    have h2 := cntP_lt l (pr l k) (show k < i + 1 by omega) rfl
    unfold rank at hr
    omega
theorem rd_put (x : List Int) (a q y : Int) (h0 : 0 ≤ a) (h1 : a < x.length) (hq : 0 ≤ q) : rd (x.set a.toNat y) q = if q = a then y else rd x q := by
  unfold rd
  rw [getD_set 0 x _ _ _ (by omega)]
  by_cases e : q = a
  · rw [if_pos e, if_pos (by rw [e])]
  · rw [if_neg e, if_neg (by omega)]
theorem list_rd (x y : List Int) (h : x.length = y.length) (hr : ∀ q : Int, 0 ≤ q → q < x.length → rd x q = rd y q) : x = y := by
  apply List.ext_getElem h
  intro n h1 h2
  have := hr n (by omega) (by omega)
  rw [rd_at, rd_at, List.getD_eq_getElem?_getD, List.getD_eq_getElem?_getD, List.getElem?_eq_getElem h1, List.getElem?_eq_getElem h2] at this
  simpa using this
theorem cntP_next (l : List S57) (q : Int) (j : Nat) : (cntP l q (j + 1) : Int) = cntP l q j + if pr l j = q then 1 else 0 := by
  simp only [cntP]; split <;> omega

open Classical in
theorem spec_vec_in {p : Int} {l : List S57} (g : Good p l) {i : Nat} (hi : i < l.length) {v : List Int} {row : List Bool} {R : List (List Bool)} {n : Int} (hv : VecOK p l i v) (hrow : row.length = l.length) (hr : ∀ j, row.getD j false = true ↔ Ahead l i j)
    {out : List (List Int)} (hout : out.length < 1000) {r : List (List Int) × Bool} (hend : Ev (fun k => spec_VectorsOf.l0 k p l (out ++ [v]) R n ((i + 1 : Nat) : Int)) r) (d : Nat) :
    ∀ (j : Nat) (x : List Int), j ≤ i + 1 → i + 1 - j = d → (x.length : Int) = p → (∀ q : Int, 0 ≤ q → q < p → rd x q = min (cntP l q j : Int) (rd v q)) → Ev (fun k => spec_VectorsOf.l1 k p l out i row x j R n i) r := by
  have h60 := g.len
  induction d with
  | zero =>
    intro j x hj hd hx hxr
    obtain rfl : j = i + 1 := by omega
    have e : x = v := by
      refine list_rd x v (by have := hv.len; omega) (fun q h0 h1 => ?_)
      have := vec_cap hv q h0 (by omega)
      rw [hxr q h0 (by omega)]
      omega
    subst e
    refine Ev.step (fun k => ?_) hend
    simp only [spec_VectorsOf.l1]
    rw [if_neg (by omega), if_pos (by omega), wrap_next hi (by omega)]
  | succ d ih =>
    intro j x hj hd hx hxr
    have hji : j ≤ i := by omega
    have hjl : j < l.length := by omega
    have gp := g.proc j hjl
    have hmem := hv.mem j hjl gp.1 (by omega)
    have hc := cntP_le l (pr l j) j
    have hq := hxr (pr l j) gp.1 (by omega)
    have epr : (rd_T57 l (j : Int)).f0 = pr l j := by rw [rdS_at]; rfl
    have go : Ev (fun k => spec_VectorsOf.l1 k p l out i row (if InS l i j then x.set (pr l j).toNat (rd x (pr l j) + 1) else x) ((j + 1 : Nat) : Int) R n i) r := by
      refine ih (j + 1) _ (by omega) (by omega) (by split <;> simp [hx]) (fun q h0 h1 => ?_)
      have hn := cntP_next l q j
      have hq2 := hxr q h0 h1
      by_cases hin : InS l i j
      · rw [if_pos hin, rd_put x _ q _ gp.1 (by omega) h0]
        have hlt := hmem.1 hin
        unfold rank at hlt
        by_cases e : q = pr l j
        · subst e
          rw [if_pos rfl] at hn ⊢
          omega
        · rw [if_neg e]
          rw [if_neg (fun h => e h.symm)] at hn
          omega
      · rw [if_neg hin]
        have hge : ¬ (rank l j : Int) < rd v (pr l j) := fun h => hin (hmem.2 h)
        unfold rank at hge
        by_cases e : q = pr l j
        · subst e
          rw [if_pos rfl] at hn
          omega
        · rw [if_neg (fun h => e h.symm)] at hn
          omega
    refine Ev.step (fun k => ?_) go
    simp only [spec_VectorsOf.l1]
    rw [if_pos (by omega), if_pos (by omega), if_pos (by omega), rdOf_at, wrap_next hjl (by omega), epr]
    have hw : wrap64 (rd x (pr l j) + 1) = rd x (pr l j) + 1 := wrap_small (by have := (hv.pos (pr l j) gp.1 (by omega)).1; omega) (by omega)
    rw [hw]
    by_cases ha : Ahead l i j
    · rw [if_pos ((hr j).2 ha), if_pos (by omega), if_pos gp.1, if_pos (by omega), if_pos (show InS l i j from Or.inr ha)]
    · rw [if_neg (fun h => ha ((hr j).1 h))]
      by_cases e : j = i
      · subst e
        rw [if_pos rfl, if_pos (by omega), if_pos gp.1, if_pos (by omega), if_pos (show InS l j j from Or.inl rfl)]
      · rw [if_neg (by omega), if_neg (fun h => h.elim (fun h => e h) ha)]

theorem spec_vec_out {p : Int} {l : List S57} (g : Good p l) {V : List (List Int)} (hV : V.length = l.length) (hok : ∀ m, m < l.length → VecOK p l m (V.getD m [])) {R : List (List Bool)} (hR1 : R.length = l.length) (hR2 : ∀ k, k < l.length → (R.getD k []).length = l.length)
    (hR3 : ∀ k, k < l.length → ∀ j, (R.getD k []).getD j false = true ↔ Ahead l k j) (d : Nat) : ∀ i : Nat, i ≤ l.length → l.length - i = d → Ev (fun k => spec_VectorsOf.l0 k p l (V.take i) R (R.length : Int) i) (V, true) := by
  have h60 := g.len
  have hp := g.p1
  have hp6 := g.p6
  induction d with
  | zero =>
    intro i hi hd
    obtain rfl : i = l.length := by omega
    refine Ev.step (f := fun _ => some (V, true)) (fun k => ?_) (Ev.now _)
    simp only [spec_VectorsOf.l0]
    rw [if_neg (by omega), List.take_of_length_le (by omega)]
  | succ d ih =>
    intro i hi hd
    have hil : i < l.length := by omega
    have htk : V.take (i + 1) = V.take i ++ [V.getD i []] := by
      rw [List.take_succ_eq_append_getElem (by omega), List.getD_eq_getElem?_getD, List.getElem?_eq_getElem (by omega)]; rfl
    have hnext := ih (i + 1) (by omega) (by omega)
    rw [htk] at hnext
    have hv := hok i hil
    have hin := spec_vec_in g hil (R := R) (n := (R.length : Int)) hv (hR2 i hil) (hR3 i hil) (out := V.take i) (by rw [List.length_take]; omega) hnext (i + 1) 0 (List.replicate p.toNat 0) (by omega) (by omega) (by rw [List.length_replicate]; omega)
      (fun q h0 h1 => by rw [rd_zeros]; have := (hv.pos q h0 h1).1; simp only [cntP]; omega)
    refine Ev.step (fun k => ?_) hin
    simp only [spec_VectorsOf.l0]
    rw [if_pos (by omega), if_pos (by omega), if_pos (by omega), if_pos (by omega), if_pos (by omega), rdL4_at]
    rfl

theorem vectorsOf_both (p : Int) (l : List S57) (hl : l.length ≤ 1048576) : ∃ r K, r.1.length ≤ 60 ∧ (∀ y ∈ r.1, y.length ≤ 6) ∧ ∀ k, K ≤ k → spec_VectorsOf.f k p l = some r ∧ impl_VectorsOf.f k p l = some r := by
  cases hg : goodB p l with
  | false =>
    refine ⟨([], false), l.length + 10, by simp, by simp, fun k hk => ⟨?_, ?_⟩⟩
    · unfold spec_VectorsOf.f; rw [spec_good p l hl k (by omega), hg]; rfl
    · unfold impl_VectorsOf.f; rw [impl_good p l hl _ (by omega), hg]; rfl
  | true =>
    have g := good_of p l hg
    have h60 := g.len
    have hp6 := g.p6
    obtain ⟨R, ⟨K, hK⟩, hR1, hR2, hR3⟩ := ahead_rows l (by omega)
    replace hK : ∀ k, K ≤ k → spec_l2Ahead.f k l = some R := hK
    obtain ⟨V, _, hVl, hVok⟩ := vecs_ok g 101 (by omega)
    obtain ⟨K2, hK2⟩ := spec_vec_out g hVl hVok hR1 hR2 hR3 l.length 0 (by omega) (by omega)
    refine ⟨(V, true), K + K2 + l.length + 200, by show V.length ≤ 60; omega, fun y hy => ?_, fun k hk => ⟨?_, ?_⟩⟩
    · obtain ⟨m, hm0, rfl⟩ := List.getElem_of_mem hy
      have hm : m < V.length := hm0
      show V[m].length ≤ 6
      have := (hVok m (by omega)).len
      rw [List.getD_eq_getElem?_getD, List.getElem?_eq_getElem hm] at this
      simp only [Option.getD_some] at this
      omega
    · unfold spec_VectorsOf.f
      rw [spec_good p l hl k (by omega), hg, hK k (by omega)]
      simp only [Option.bind_some, if_true]
      exact hK2 k (by omega)
    · unfold impl_VectorsOf.f
      obtain ⟨V', hV', hVl', hVok'⟩ := vecs_ok g k (by omega)
      have e : V' = V := by
        have h1 := hK2 (K2) (Nat.le_refl _)
        obtain ⟨K3, hK3⟩ := spec_vec_out g hVl' hVok' hR1 hR2 hR3 l.length 0 (by omega) (by omega)
        have h2 := hK2 (K2 + K3) (by omega)
        have h3 := hK3 (K2 + K3) (by omega)
        simp only [List.take_zero] at h2 h3
        rw [h2] at h3
        simpa using h3.symm
      rw [impl_good p l hl _ (by omega), hg, hV', e]
      rfl

/-- THE PURE STATEMENT of the law. -/
def FnExactVectorsOf_Pure : Prop := ∀ (a0 : Int) (l1 : (List S64)), (Lit.int .i64 a0).wf = true → (l1.length ≤ 9223372036854775807 ∧ ∀ y ∈ l1, ((Lit.int .i64 y.f0).wf = true ∧ (Lit.int .i64 y.f1).wf = true)) → ∃ k, laws_FnExactVectorsOf.f k a0 l1 = some true

theorem FnExactVectorsOf : FnExactVectorsOf_Pure := by
  intro p l _ hl
  have hs := sz_acts l hl.1
  by_cases h : l.length ≤ 1048576
  · rw [if_pos h] at hs
    have ha := acts_length l
    obtain ⟨r, K, hr1, hr2, hr⟩ := vectorsOf_both p (acts l) (by omega)
    obtain ⟨m, hm⟩ : ∃ m, m = K + l.length + 2000100 := ⟨_, rfl⟩
    obtain ⟨y, hy⟩ := markActS_eq (acts l) 1 (by omega) (by omega) (by omega) m (by omega)
    have hlen : ∀ z ∈ r.1, z.length ≤ 1000000 := fun z hz => by have := hr2 z hz; omega
    have htot := totI_le r.1 6 hr2
    refine ⟨m, ?_⟩
    unfold laws_FnExactVectorsOf.f
    rw [hs]; simp only [Option.bind_some]
    rw [if_neg (by omega), toActS_eq l h _ (by omega)]; simp only [Option.bind_some]
    rw [(hr _ (by omega)).1, (hr _ (by omega)).2]; simp only [Option.bind_some]
    rw [eqSS_self _ (by omega) hlen _ (by omega)]; simp only [Option.bind_some]
    rw [eqActS_self _ (by omega) _ (by omega)]; simp only [Option.bind_some]
    rw [hy]; simp only [Option.bind_some]
    rw [markSSGo_eq m r.1 1 (fun x hx => ⟨hlen x hx, by have := hr2 x hx; omega⟩) (by omega) (by omega)]; simp only [Option.bind_some]
    rw [heldSS_eq r.1 1 (by omega) hlen (by omega) (by omega) _ (by omega)]; simp only [Option.bind_some]
    rw [if_pos (by refine ⟨?_, ?_, ?_, ?_, ?_, ?_⟩ <;> first | trivial | omega)]
  · rw [if_neg h] at hs
    exact ⟨0, by unfold laws_FnExactVectorsOf.f; rw [hs]; rfl⟩

end Go.Proofs.Ytmhhjmadpnkelaa.Pure
