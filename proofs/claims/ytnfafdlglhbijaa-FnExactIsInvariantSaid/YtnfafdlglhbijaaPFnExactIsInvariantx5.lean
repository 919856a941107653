-- written by xprint.py (a program of this session's, over the kit's print): printed functions, and some by hand
import Derived.Test.YtnfafdlglhbijaaPFnExactIsInvariantx0
import Derived.Test.YtnfafdlglhbijaaPFnExactIsInvariantx4
namespace Go.Proofs.Ytnfafdlglhbijaa.PFnExactIsInvariant
open Go.RowKit Go.Proofs.YtnfafdlglhbijaaW.PrintWords Go.Proofs.YtnfafdlglhbijaaW.PrintLast Go.Proofs.YtnfafdlglhbijaaW.PrintMore
attribute [local go_sem] max2_int min2_int max_two min_two max_three min_three max_four min_four   -- for this text's walks alone
set_option linter.unusedVariables false
set_option linter.unusedSimpArgs false

/-! ### impl_GoodNet: function 16, by hand -/
/-- a step is bad -/
def impl_GoodNet.bad (k : Nat) (n : Int) (s : S60) : Option Bool := (impl_rising.f k s.f0 n).bind fun t => (if t = true then ((impl_rising.f k s.f1 n).bind fun t => (some (!t))) else (some true))
def impl_GoodNet.f (k : Nat) (a0 : Int) (l1 : List (S60)) : Option Bool := (impl_in.f a0 1 8).bind fun t => (if t = true then (if (l1.length : Int) > 12 then (some false) else ((anyO60 (impl_GoodNet.bad k a0) l1).bind fun t => (some (!t)))) else (some false))
theorem impl_GoodNet.mono : ∀ a0 a1 k, LeO (impl_GoodNet.f k a0 a1) (impl_GoodNet.f (k + 1) a0 a1) := by
  intro a0 a1 k
  unfold impl_GoodNet.f
  have hb : ∀ s, LeO (impl_GoodNet.bad k a0 s) (impl_GoodNet.bad (k + 1) a0 s) := fun s => LeO.bind (impl_rising.mono _ _ _) (fun _ => LeO.ite (LeO.bind (impl_rising.mono _ _ _) (fun _ => LeO.refl _)) (LeO.refl _))
  exact LeO.bind (LeO.refl _) (fun _ => LeO.ite (LeO.ite (LeO.refl _) (LeO.bind (anyO60_mono hb _) (fun _ => LeO.refl _))) (LeO.refl _))
set_option maxHeartbeats 8000000 in
set_option maxRecDepth 100000 in
theorem impl_GoodNet.clo (k : Nat) (n : Int) (g : Nat) (W : World) (x : S60) (B0 : Option Addr) (d0 : Nat) (B1 : Option Addr) (d1 : Nat) (b : Bool) (hn : W.cell? ⟨g, 0, none⟩ = some (.int .i64 n)) (hr0 : Kd.C (Kd.int .i64) W B0 x.f0.length x.f0) (hc0 : x.f0.length ≤ d0) (hr1 : Kd.C (Kd.int .i64) W B1 x.f1.length x.f1) (hc1 : x.f1.length ≤ d1) (h : impl_GoodNet.bad k n x = some b) :
    Calls Try.prog 50 (#[.agg #[.slice B0 x.f0.length d0, .slice B1 x.f1.length d1]] ++ #[.pointer (some ⟨g, 0, none⟩)]) W fun e w' => e = .returned (.bool b) ∧ Below W.heap.size W w' := by
  have HR0 := Aside0.mk hr0
  have HR1 := Aside0.mk hr1
  have HC0 := Aside0.mk hc0
  have HC1 := Aside0.mk hc1
  unfold impl_GoodNet.bad at h
  obtain ⟨t, ht, h⟩ := Option.bind_eq_some_iff.mp h
  have HT := Aside0.mk ht
  have H := Aside0.mk h
  clear hr0 hc0 hr1 hc1 h ht
  have hu60 := Try.underlying60
  have hg : g < W.heap.size := World.block_lt_of_cell? W _ hn
  have hn2 : (W.alloc (.cells #[.slice B0 x.f0.length d0, .slice B1 x.f1.length d1] 60)).cell? ⟨g, 0, none⟩ = some (.int .i64 n) := pw_cell_below (below_alloc (Below.refl _ _) _) hn
  clear hn hg
  go_enter Try.func50, Try.ntmps50
  go_wp2_with fail
  refine (impl_rising.calls k B0 d0 x.f0 n t _ (Kd.C_alloc HR0.out _) HC0.out HT.out).mono ?_
  rintro e w1 ⟨rfl, ⟨nd, rfl⟩⟩
  have hn3 : ((W.alloc (.cells #[.slice B0 x.f0.length d0, .slice B1 x.f1.length d1] 60)).drewN nd).cell? ⟨g, 0, none⟩ = some (.int .i64 n) := hn2
  clear hn2
  cases t with
  | false =>
    have H2 := H.out
    rw [if_neg (by decide)] at H2
    obtain rfl := Option.some.inj H2
    go_wp2
    go_ret
    exact ⟨rfl, pw_below_drewN (below_alloc (Below.refl _ _) _) _⟩
  | true =>
    have H2 := H.out
    rw [if_pos rfl] at H2
    obtain ⟨t, ht, H2⟩ := Option.bind_eq_some_iff.mp H2
    obtain rfl := Option.some.inj H2
    have HT2 := Aside0.mk ht
    clear ht H2 H HT
    go_wp2_with fail
    refine (impl_rising.calls k B1 d1 x.f1 n t _ (Kd.C_drewN (Kd.C_alloc HR1.out _) _) HC1.out HT2.out).mono ?_
    rintro e w1 ⟨rfl, ⟨nd2, rfl⟩⟩
    go_wp2
    go_ret
    exact ⟨rfl, pw_below_drewN (below_alloc (Below.refl _ _) _) _⟩
set_option maxHeartbeats 8000000 in
set_option maxRecDepth 100000 in
theorem impl_GoodNet.calls (k : Nat) (a0_0 : Int) (A0_1 : Option Addr) (c0_1 : Nat) (l0_1 : List (S60)) (r : Bool) (w : World) (hr0_1 : Kd.C k60 w A0_1 l0_1.length l0_1) (hc0_1 : l0_1.length ≤ c0_1) (h : impl_GoodNet.f k a0_0 l0_1 = some r) :
    Calls Try.prog 16 #[.agg #[.int .i64 a0_0, .slice A0_1 l0_1.length c0_1]] w fun e w' => e = .returned (.bool r) ∧ Below w.heap.size w w' := by
  have HR := Aside0.mk hr0_1
  have HL := Aside0.mk hr0_1.2.1
  clear hr0_1 hc0_1
  have hu29 := Try.underlying29
  unfold impl_GoodNet.f at h
  obtain ⟨t, ht, h⟩ := Option.bind_eq_some_iff.mp h
  have HT := Aside0.mk ht
  have H := Aside0.mk h
  clear h ht
  have z0 : (w.alloc (.cells #[.int .i64 a0_0, .slice A0_1 l0_1.length c0_1] 29)).cell? ⟨w.heap.size, 0, none⟩ = some (.int .i64 a0_0) := by go_simp
  have z1 : (w.alloc (.cells #[.int .i64 a0_0, .slice A0_1 l0_1.length c0_1] 29)).cell? ⟨w.heap.size, 1, none⟩ = some (.slice A0_1 l0_1.length c0_1) := by go_simp
  go_enter Try.func16, Try.ntmps16
  go_wp2_with fail
  refine (impl_in.calls a0_0 1 8 t _ HT.out).mono ?_
  rintro e w1 ⟨rfl, ⟨nd, rfl⟩⟩
  have z0' : ((w.alloc (.cells #[.int .i64 a0_0, .slice A0_1 l0_1.length c0_1] 29)).drewN nd).cell? ⟨w.heap.size, 0, none⟩ = some (.int .i64 a0_0) := z0
  have z1' : ((w.alloc (.cells #[.int .i64 a0_0, .slice A0_1 l0_1.length c0_1] 29)).drewN nd).cell? ⟨w.heap.size, 1, none⟩ = some (.slice A0_1 l0_1.length c0_1) := z1
  clear z0 z1
  cases t with
  | false =>
    have H2 := H.out
    rw [if_neg (by decide)] at H2
    obtain rfl := Option.some.inj H2
    go_wp2
    go_ret
    exact ⟨rfl, pw_below_drewN (below_alloc (Below.refl _ _) _) _⟩
  | true =>
    have H2 := H.out
    rw [if_pos rfl] at H2
    clear H HT
    by_cases h12 : (l0_1.length : Int) > 12
    · rw [if_pos h12] at H2
      obtain rfl := Option.some.inj H2
      go_wp2
      go_ret
      exact ⟨rfl, pw_below_drewN (below_alloc (Below.refl _ _) _) _⟩
    · rw [if_neg h12] at H2
      obtain ⟨t, ht, H2⟩ := Option.bind_eq_some_iff.mp H2
      obtain rfl := Option.some.inj H2
      have HB := Aside0.mk (pw_below_drewN (below_alloc (Below.refl w.heap.size w) (.cells #[.int .i64 a0_0, .slice A0_1 l0_1.length c0_1] 29)) nd)
      have HC := Aside0.mk (slices_ContainsFunc_Step.at 50 (enters_ Try.func50 (by kernel_rfl) rfl) #[.pointer (some ⟨w.heap.size, 0, none⟩)] (impl_GoodNet.bad k a0_0) A0_1 c0_1 l0_1 t _ (Kd.C_below HR.out HB.out)
        (fun W x B0 d0 B1 d1 b hW hi0 hl0 hi1 hl1 hb => impl_GoodNet.clo k a0_0 w.heap.size W x B0 d0 B1 d1 b (pw_cell_below hW z0') hi0 hl0 hi1 hl1 hb) ht)
      clear ht H2
      go_wp2_with fail
      refine HC.out.mono ?_
      rintro e w2 ⟨rfl, hb2⟩
      have HB2 := Aside0.mk (below_then HB.out HB.out.size hb2)
      clear hb2
      go_wp2
      go_ret
      exact ⟨rfl, HB2.out⟩

/-! ### slices_ContainsFunc_int_int: function 60, by hand; a text alone -/
set_option maxHeartbeats 8000000 in
set_option maxRecDepth 100000 in
theorem slices_IndexFunc_int_int.at (g : Nat) (eg : ∀ args W, (callFunc g args).run Try.prog W = .ok (.enter g args) W) (lb : Array Value) (p : Int → Bool) (A0 : Option Addr) (c0 : Nat) (l0 : List Int) (w : World) (hr0 : Kd.C (Kd.int .i64) w A0 l0.length l0)
    (hp : ∀ (W : World) (x : Int), x ∈ l0 → Below w.heap.size w W → Calls Try.prog g (#[.int .i64 x] ++ lb) W fun e w' => e = .returned (.bool (p x)) ∧ Below W.heap.size W w') :
    Calls Try.prog 84 #[.slice A0 l0.length c0, .func (.func g) #[] lb] w fun e w' => ∃ r : Int, e = .returned (.int .i64 r) ∧ decide (0 ≤ r) = l0.any p ∧ Below w.heap.size w w' := by
  have HR0 := Aside0.mk hr0
  have hl := hr0.2.1
  have HP := Aside0.mk hp
  clear hr0 hp
  go_enter Try.func84, Try.ntmps84
  go_wp2_with fail
  go_loopg [8] l0.length (fun kq v8 w' => ∃ j : Nat, v8 = .int .i64 (j : Int) ∧ Aside0 (j + kq = l0.length) ∧ Aside0 (∀ x ∈ l0.take j, p x = false) ∧ Aside0 (Below w.heap.size w w'))
  case atStart => exact ⟨0, rfl, ⟨by omega⟩, ⟨by simp⟩, ⟨Below.refl _ _⟩⟩
  case round =>
    obtain ⟨j, rfl, HJ, HA, HB⟩ := hrel
    by_cases hlt : j < l0.length
    · obtain ⟨ad, e0, hcell⟩ := Kd.at_int (Kd.C_below HR0.out HB.out) (j : Int) (by omega) (by omega)
      cases e0
      rw [Int.toNat_natCast] at hcell
      have HM := Aside0.mk (show rd l0 (j : Int) ∈ l0 by unfold rd; rw [Int.toNat_natCast, List.getD_eq_getElem?_getD, List.getElem?_eq_getElem hlt]; exact List.getElem_mem _)
      have HT := Aside0.mk (show l0.take (j + 1) = l0.take j ++ [rd l0 (j : Int)] by unfold rd; rw [Int.toNat_natCast, List.take_succ_eq_append_getElem hlt, List.getD_eq_getElem?_getD, List.getElem?_eq_getElem hlt]; rfl)
      obtain ⟨x, hx⟩ : ∃ x, x = rd l0 (j : Int) := ⟨_, rfl⟩
      rw [← hx] at hcell HM HT
      clear hx
      go_wp2_with fail
      refine (HP.out wr x HM.out HB.out).mono ?_
      rintro e w1 ⟨rfl, hb1⟩
      have HB1 := Aside0.mk (below_then HB.out HB.out.size hb1)
      clear hb1
      cases hpx : p x with
      | true =>
        have HX := Aside0.mk hpx
        clear hpx
        go_wp2
        go_ret
        refine ⟨(j : Int), rfl, ?_, HB1.out⟩
        rw [decide_eq_true (by omega)]
        exact (List.any_eq_true.2 ⟨x, HM.out, HX.out⟩).symm
      | false =>
        have HX := Aside0.mk hpx
        clear hpx
        cases gk with
        | zero => exact absurd HJ.out (by omega)
        | succ k1 =>
          go_wp2
          go_roundg k1
          case measure => omega
          case rel =>
            refine ⟨j + 1, by go_num, ⟨by have := HJ.out; omega⟩, ⟨?_⟩, ⟨HB1.out⟩⟩
            rw [HT.out]
            intro y hy
            rcases List.mem_append.1 hy with hy | hy
            · exact HA.out y hy
            · rw [List.mem_singleton.1 hy]; exact HX.out
    · go_wp2
      go_ret
      refine ⟨-1, rfl, ?_, HB.out⟩
      rw [decide_eq_false (by omega)]
      have h := HA.out
      rw [List.take_of_length_le (by omega)] at h
      exact (Bool.eq_false_iff.2 (fun h2 => by obtain ⟨y, hy, hpy⟩ := List.any_eq_true.1 h2; rw [h y hy] at hpy; cases hpy)).symm
set_option maxHeartbeats 8000000 in
theorem slices_ContainsFunc_int_int.at (g : Nat) (eg : ∀ args W, (callFunc g args).run Try.prog W = .ok (.enter g args) W) (lb : Array Value) (p : Int → Bool) (A0 : Option Addr) (c0 : Nat) (l0 : List Int) (w : World) (hr0 : Kd.C (Kd.int .i64) w A0 l0.length l0)
    (hp : ∀ (W : World) (x : Int), x ∈ l0 → Below w.heap.size w W → Calls Try.prog g (#[.int .i64 x] ++ lb) W fun e w' => e = .returned (.bool (p x)) ∧ Below W.heap.size W w') :
    Calls Try.prog 60 #[.slice A0 l0.length c0, .func (.func g) #[] lb] w fun e w' => e = .returned (.bool (l0.any p)) ∧ Below w.heap.size w w' := by
  have H := Aside0.mk (slices_IndexFunc_int_int.at g eg lb p A0 c0 l0 w hr0 hp)
  clear hp hr0 eg
  go_enter Try.func60, Try.ntmps60
  go_wp2_with fail
  refine H.out.mono ?_
  rintro e w1 ⟨r, rfl, hr, hb⟩
  have HR := Aside0.mk hr
  have HB := Aside0.mk hb
  clear hr hb
  go_wp2
  go_ret
  exact ⟨by rw [← HR.out]; rfl, HB.out⟩

/-! ### impl_weightsOk: function 56, by hand -/
def impl_weightsOk.f (l : List Int) (n : Int) : Option Bool := some (decide ((l.length : Int) = n) && l.all (fun x => decide (-100 ≤ x ∧ x ≤ 100)))
theorem impl_weightsOk.clo (W : World) (x : Int) : Calls Try.prog 82 (#[.int .i64 x] ++ #[]) W fun e w' => e = .returned (.bool (!decide (-100 ≤ x ∧ x ≤ 100))) ∧ Below W.heap.size W w' := by
  have A := Aside0.mk (show impl_in.f x (-100) 100 = some (decide (-100 ≤ x ∧ x ≤ 100)) by
    unfold impl_in.f
    by_cases h : x ≥ -100
    · rw [if_pos h]; congr 1; simp only [decide_eq_decide]; omega
    · rw [if_neg h, decide_eq_false (by omega)])
  obtain ⟨b, hb⟩ : ∃ b, b = decide (-100 ≤ x ∧ x ≤ 100) := ⟨_, rfl⟩
  rw [← hb] at A ⊢
  clear hb
  go_enter Try.func82, Try.ntmps82
  go_wp2_with fail
  refine (impl_in.calls x (-100) 100 b _ A.out).mono ?_
  rintro e w' ⟨rfl, ⟨nd, rfl⟩⟩
  go_wp2
  go_ret
  exact ⟨rfl, pw_below_drewN (Below.refl _ _) _⟩
set_option maxHeartbeats 8000000 in
set_option maxRecDepth 100000 in
theorem impl_weightsOk.calls (A0 : Option Addr) (c0 : Nat) (l0 : List Int) (a1 : Int) (r : Bool) (w : World) (hr0 : Kd.C (Kd.int .i64) w A0 l0.length l0) (hc0 : l0.length ≤ c0) (h : impl_weightsOk.f l0 a1 = some r) :
    Calls Try.prog 56 #[.slice A0 l0.length c0, .int .i64 a1] w fun e w' => e = .returned (.bool r) ∧ Below w.heap.size w w' := by
  have HC := Aside0.mk (slices_ContainsFunc_int_int.at 82 (enters_ Try.func82 (by kernel_rfl) rfl) #[] (fun x => !decide (-100 ≤ x ∧ x ≤ 100)) A0 c0 l0 w hr0 (fun W x _ _ => impl_weightsOk.clo W x))
  have H := Aside0.mk (Option.some.inj h)
  have HL := Aside0.mk hr0.2.1
  clear h hr0 hc0
  by_cases hl : (l0.length : Int) = a1
  · have hb : ((l0.length : Int) == a1) = true := beq_iff_eq.2 hl
    have HD := Aside0.mk (decide_eq_true hl)
    clear hl
    go_enter Try.func56, Try.ntmps56
    go_wp2_with fail
    refine HC.out.mono ?_
    rintro e w1 ⟨rfl, hb1⟩
    have HB := Aside0.mk hb1
    clear hb1
    obtain ⟨b, hbb⟩ : ∃ b, b = l0.any (fun x => !decide (-100 ≤ x ∧ x ≤ 100)) := ⟨_, rfl⟩
    rw [← hbb]
    have HBB := Aside0.mk hbb
    clear hbb
    go_wp2
    go_ret
    refine ⟨?_, HB.out⟩
    have e1 := H.out
    rw [HD.out, Bool.true_and] at e1
    have e2 : (!b) = r := by
      rw [← e1, HBB.out, List.not_any_eq_all_not]
      simp
    rw [← e2]
    rfl
  · have hb : ((l0.length : Int) == a1) = false := beq_eq_false_iff_ne.2 hl
    have HD := Aside0.mk (decide_eq_false hl)
    clear hl
    go_enter Try.func56, Try.ntmps56
    go_wp2
    go_ret
    refine ⟨?_, Below.refl _ _⟩
    have e1 := H.out
    rw [HD.out, Bool.false_and] at e1
    rw [← e1]
    rfl

/-! ### impl_IsInvariant: function 23 -/
mutual
def impl_IsInvariant.j0 : Nat → List Int → Bool → Int → List (S60) → Option (Bool × Bool)
  | 0, _, _, _, _ => none
  | k + 1, x1, x22, x175000, x175001 => if x22 = true then (some (false, false)) else (impl_IsInvariant.l0 k x1 x175001 (x175001.length : Int) 0)
def impl_IsInvariant.l0 : Nat → List Int → List (S60) → Int → Int → Option (Bool × Bool)
  | 0, _, _, _, _ => none
  | k + 1, x1, x24, x25, x26 => if x26 < x25 then (if 0 ≤ x26 then (if x26 < (x24.length : Int) then (impl_IsInvariant.l1 k x1 0 x24 x25 x26 ((rd_T60 x24 x26).f0) (((rd_T60 x24 x26).f0).length : Int) 0 ((rd_T60 x24 x26).f0) ((rd_T60 x24 x26).f1)) else (none)) else (none)) else (some (true, true))
def impl_IsInvariant.l1 : Nat → List Int → Int → List (S60) → Int → Int → List Int → Int → Int → List Int → List Int → Option (Bool × Bool)
  | 0, _, _, _, _, _, _, _, _, _, _ => none
  | k + 1, x1, x8, x24, x25, x26, x31, x32, x33, x179000, x179001 => if x33 < x32 then (if 0 ≤ x33 then (if x33 < (x31.length : Int) then (if 0 ≤ (rd x31 x33) then (if (rd x31 x33) < (x1.length : Int) then (impl_IsInvariant.l1 k x1 (wrap64 (x8 - (rd x1 (rd x31 x33)))) x24 x25 x26 x31 x32 (wrap64 (x33 + 1)) x179000 x179001) else (none)) else (none)) else (none)) else (none)) else (impl_IsInvariant.l2 k x1 x8 x24 x25 x26 x179001 (x179001.length : Int) 0)
def impl_IsInvariant.l2 : Nat → List Int → Int → List (S60) → Int → Int → List Int → Int → Int → Option (Bool × Bool)
  | 0, _, _, _, _, _, _, _, _ => none
  | k + 1, x1, x8, x24, x25, x26, x45, x46, x47 => if x47 < x46 then (if 0 ≤ x47 then (if x47 < (x45.length : Int) then (if 0 ≤ (rd x45 x47) then (if (rd x45 x47) < (x1.length : Int) then (impl_IsInvariant.l2 k x1 (wrap64 (x8 + (rd x1 (rd x45 x47)))) x24 x25 x26 x45 x46 (wrap64 (x47 + 1))) else (none)) else (none)) else (none)) else (none)) else (if x8 = 0 then (impl_IsInvariant.l0 k x1 x24 x25 (wrap64 (x26 + 1))) else (some (false, true)))
end
def impl_IsInvariant.f (k : Nat) (a0_0 : Int) (l0_1 : List (S60)) (l1 : List Int) : Option (Bool × Bool) := (impl_GoodNet.f k a0_0 l0_1).bind fun t175 => (if t175 = true then ((impl_weightsOk.f l1 a0_0).bind fun t176 => (impl_IsInvariant.j0 k l1 (!t176) a0_0 l0_1)) else (impl_IsInvariant.j0 k l1 true a0_0 l0_1))
theorem impl_IsInvariant.mono_l : ∀ k, (∀ y0 y1 y2 y3, LeO (impl_IsInvariant.j0 k y0 y1 y2 y3) (impl_IsInvariant.j0 (k + 1) y0 y1 y2 y3)) ∧ (∀ y0 y1 y2 y3, LeO (impl_IsInvariant.l0 k y0 y1 y2 y3) (impl_IsInvariant.l0 (k + 1) y0 y1 y2 y3)) ∧ (∀ y0 y1 y2 y3 y4 y5 y6 y7 y8 y9, LeO (impl_IsInvariant.l1 k y0 y1 y2 y3 y4 y5 y6 y7 y8 y9) (impl_IsInvariant.l1 (k + 1) y0 y1 y2 y3 y4 y5 y6 y7 y8 y9)) ∧ (∀ y0 y1 y2 y3 y4 y5 y6 y7, LeO (impl_IsInvariant.l2 k y0 y1 y2 y3 y4 y5 y6 y7) (impl_IsInvariant.l2 (k + 1) y0 y1 y2 y3 y4 y5 y6 y7))
  | 0 => ⟨fun _ _ _ _ r h => by simp [impl_IsInvariant.j0] at h, fun _ _ _ _ r h => by simp [impl_IsInvariant.l0] at h, fun _ _ _ _ _ _ _ _ _ _ r h => by simp [impl_IsInvariant.l1] at h, fun _ _ _ _ _ _ _ _ r h => by simp [impl_IsInvariant.l2] at h⟩
  | k + 1 => by
    obtain ⟨ih0, ih1, ih2, ih3⟩ := impl_IsInvariant.mono_l k
    refine ⟨?_, ?_, ?_, ?_⟩
    · intro y0 y1 y2 y3
      unfold impl_IsInvariant.j0
      repeat' first
      | (with_reducible exact ih0 _ _ _ _)
      | (with_reducible exact ih1 _ _ _ _)
      | (with_reducible exact ih2 _ _ _ _ _ _ _ _ _ _)
      | (with_reducible exact ih3 _ _ _ _ _ _ _ _)
      | (with_reducible exact impl_GoodNet.mono _ _ _)
      | (with_reducible exact LeO.refl _)
      | (with_reducible exact LeO.none _)
      | (with_reducible refine LeO.ite ?_ ?_)
      | (with_reducible refine LeO.bind ?_ (fun _ => ?_))
      | exact ih0 _ _ _ _
      | exact ih1 _ _ _ _
      | exact ih2 _ _ _ _ _ _ _ _ _ _
      | exact ih3 _ _ _ _ _ _ _ _
      | exact impl_GoodNet.mono _ _ _
      | exact LeO.none _
      | refine LeO.ite ?_ ?_
      | refine LeO.bind ?_ (fun _ => ?_)
    · intro y0 y1 y2 y3
      unfold impl_IsInvariant.l0
      repeat' first
      | (with_reducible exact ih0 _ _ _ _)
      | (with_reducible exact ih1 _ _ _ _)
      | (with_reducible exact ih2 _ _ _ _ _ _ _ _ _ _)
      | (with_reducible exact ih3 _ _ _ _ _ _ _ _)
      | (with_reducible exact impl_GoodNet.mono _ _ _)
      | (with_reducible exact LeO.refl _)
      | (with_reducible exact LeO.none _)
      | (with_reducible refine LeO.ite ?_ ?_)
      | (with_reducible refine LeO.bind ?_ (fun _ => ?_))
      | exact ih0 _ _ _ _
      | exact ih1 _ _ _ _
      | exact ih2 _ _ _ _ _ _ _ _ _ _
      | exact ih3 _ _ _ _ _ _ _ _
      | exact impl_GoodNet.mono _ _ _
      | exact LeO.none _
      | refine LeO.ite ?_ ?_
      | refine LeO.bind ?_ (fun _ => ?_)
    · intro y0 y1 y2 y3 y4 y5 y6 y7 y8 y9
      unfold impl_IsInvariant.l1
      repeat' first
      | (with_reducible exact ih0 _ _ _ _)
      | (with_reducible exact ih1 _ _ _ _)
      | (with_reducible exact ih2 _ _ _ _ _ _ _ _ _ _)
      | (with_reducible exact ih3 _ _ _ _ _ _ _ _)
      | (with_reducible exact impl_GoodNet.mono _ _ _)
      | (with_reducible exact LeO.refl _)
      | (with_reducible exact LeO.none _)
      | (with_reducible refine LeO.ite ?_ ?_)
      | (with_reducible refine LeO.bind ?_ (fun _ => ?_))
      | exact ih0 _ _ _ _
      | exact ih1 _ _ _ _
      | exact ih2 _ _ _ _ _ _ _ _ _ _
      | exact ih3 _ _ _ _ _ _ _ _
      | exact impl_GoodNet.mono _ _ _
      | exact LeO.none _
      | refine LeO.ite ?_ ?_
      | refine LeO.bind ?_ (fun _ => ?_)
    · intro y0 y1 y2 y3 y4 y5 y6 y7
      unfold impl_IsInvariant.l2
      repeat' first
      | (with_reducible exact ih0 _ _ _ _)
      | (with_reducible exact ih1 _ _ _ _)
      | (with_reducible exact ih2 _ _ _ _ _ _ _ _ _ _)
      | (with_reducible exact ih3 _ _ _ _ _ _ _ _)
      | (with_reducible exact impl_GoodNet.mono _ _ _)
      | (with_reducible exact LeO.refl _)
      | (with_reducible exact LeO.none _)
      | (with_reducible refine LeO.ite ?_ ?_)
      | (with_reducible refine LeO.bind ?_ (fun _ => ?_))
      | exact ih0 _ _ _ _
      | exact ih1 _ _ _ _
      | exact ih2 _ _ _ _ _ _ _ _ _ _
      | exact ih3 _ _ _ _ _ _ _ _
      | exact impl_GoodNet.mono _ _ _
      | exact LeO.none _
      | refine LeO.ite ?_ ?_
      | refine LeO.bind ?_ (fun _ => ?_)
theorem impl_IsInvariant.mono : ∀ a0 a1 a2 k, LeO (impl_IsInvariant.f k a0 a1 a2) (impl_IsInvariant.f (k + 1) a0 a1 a2) := by
  intro a0 a1 a2 k
  obtain ⟨ih0, ih1, ih2, ih3⟩ := impl_IsInvariant.mono_l k
  unfold impl_IsInvariant.f
  repeat' first
      | (with_reducible exact ih0 _ _ _ _)
      | (with_reducible exact ih1 _ _ _ _)
      | (with_reducible exact ih2 _ _ _ _ _ _ _ _ _ _)
      | (with_reducible exact ih3 _ _ _ _ _ _ _ _)
      | (with_reducible exact impl_GoodNet.mono _ _ _)
      | (with_reducible exact LeO.refl _)
      | (with_reducible exact LeO.none _)
      | (with_reducible refine LeO.ite ?_ ?_)
      | (with_reducible refine LeO.bind ?_ (fun _ => ?_))
      | exact ih0 _ _ _ _
      | exact ih1 _ _ _ _
      | exact ih2 _ _ _ _ _ _ _ _ _ _
      | exact ih3 _ _ _ _ _ _ _ _
      | exact impl_GoodNet.mono _ _ _
      | exact LeO.none _
      | refine LeO.ite ?_ ?_
      | refine LeO.bind ?_ (fun _ => ?_)
set_option maxHeartbeats 8000000 in
set_option maxRecDepth 100000 in
theorem impl_IsInvariant.calls (k : Nat) (a0_0 : Int) (A0_1 : Option Addr) (c0_1 : Nat) (l0_1 : List (S60)) (A1 : Option Addr) (c1 : Nat) (l1 : List Int) (r1 : Bool) (r2 : Bool) (w : World) (hr0_1 : Kd.C k60 w A0_1 l0_1.length l0_1) (hc0_1 : l0_1.length ≤ c0_1) (hr1 : Kd.C (Kd.int .i64) w A1 l1.length l1) (hc1 : l1.length ≤ c1) (h : impl_IsInvariant.f k a0_0 l0_1 l1 = some (r1, r2)) :
    Calls Try.prog 23 #[.agg #[.int .i64 a0_0, .slice A0_1 l0_1.length c0_1], .slice A1 l1.length c1] w fun e w' => e = .returned (.tuple #[.bool r1, .bool r2]) ∧ Below w.heap.size w w' := by
  have hu29 := Try.underlying29
  have hu60 := Try.underlying60
  have HR0_1 := Aside0.mk hr0_1
  have HC0_1 := Aside0.mk hc0_1
  clear hr0_1 hc0_1
  have HR1 := Aside0.mk hr1
  have HC1 := Aside0.mk hc1
  clear hr1 hc1
  have HB := Aside0.mk (Below.refl w.heap.size w)
  have H : ((impl_GoodNet.f k a0_0 l0_1).bind fun t175 => (if t175 = true then ((impl_weightsOk.f l1 a0_0).bind fun t176 => (impl_IsInvariant.j0 k l1 (!t176) a0_0 l0_1)) else (impl_IsInvariant.j0 k l1 true a0_0 l0_1))) = some (r1, r2) := h
  clear h
  have HC3 := Aside0.mk H
  clear H
  go_enter Try.func23, Try.ntmps23
  go_upto_region 1 with (first | ((with_reducible refine gate_dst (N := 2) rfl ?_); refine box_event ?hg (N := 2) ?hd (cs := #[.int .i64 a0_0, .slice A0_1 l0_1.length c0_1]) (t := 29) ?hr ?_; (case hd => rfl); (case hg => rfl); (case hr => first | (go_simp; done) | (go_simp; rfl)); intro gb174 hg w4 hbox hb; have n0_ := Aside0.mk (below_step (by repeat (first | (with_reducible first | exact HB.out | apply below_alloc | apply pw_below_drewN | apply below_drew1) | exact HB.out)) hb); have n1_ := Aside0.mk (hbox); have n2_ := Aside0.mk ((by rw [hg]; exact (below_size (by repeat (first | (with_reducible first | exact HB.out | apply below_alloc | apply pw_below_drewN | apply below_drew1) | exact HB.out))) : w.heap.size ≤ gb174)); have n3_ := Aside0.mk ((by rw [hg]; exact (below_size (by repeat (first | (with_reducible first | exact HB.out | apply below_alloc | apply pw_below_drewN | apply below_drew1) | exact HB.out))) : w.heap.size ≤ gb174)); clear HB; have HB := n0_; have BK174 := n1_; have GW174 := n2_; have GE174 := n3_; clear n0_ n1_ n2_ n3_; clear hb hbox hg))
  (try simp only [Act.put, List.setIfInBounds_toArray, List.set_cons_zero, List.set_cons_succ])
  go_cut [22] (fun v22 wc => ∃ (kq : Nat) (x22_2 : Bool), v22 = .bool x22_2 ∧ Aside0 (impl_IsInvariant.j0 kq l1 x22_2 a0_0 l0_1 = some (r1, r2)) ∧ Aside0 (kq ≤ k) ∧ Aside0 (wc.heap[gb174]? = some (.cells #[.int .i64 a0_0, (.slice A0_1 l0_1.length c0_1)] 29 (0, 0))) ∧ Aside0 (Below w.heap.size w wc))
  case first =>
    have H := HC3.out
    clear HC3
    replace H := Option.bind_eq_some_iff.mp H
    obtain ⟨t175, A50, H⟩ := H
    replace H : (if t175 = true then ((impl_weightsOk.f l1 a0_0).bind fun t176 => (impl_IsInvariant.j0 k l1 (!t176) a0_0 l0_1)) else (impl_IsInvariant.j0 k l1 true a0_0 l0_1)) = some (r1, r2) := H
    have A5 := Aside0.mk A50
    clear A50
    by_cases c6 : t175 = true
    · subst c6
      have H1 : ((impl_weightsOk.f l1 a0_0).bind fun t176 => (impl_IsInvariant.j0 k l1 (!t176) a0_0 l0_1)) = some (r1, r2) := by rw [if_pos rfl] at H; exact H
      clear H
      have H := H1
      clear H1
      replace H := Option.bind_eq_some_iff.mp H
      obtain ⟨t176, A70, H⟩ := H
      replace H : (impl_IsInvariant.j0 k l1 (!t176) a0_0 l0_1) = some (r1, r2) := H
      have A7 := Aside0.mk A70
      clear A70
      have H' := Aside0.mk H
      clear H
      have hcz8_0 : w4.cell? ⟨gb174, 0, none⟩ = some (.int .i64 a0_0) := (blk_cell BK174.out 0).trans rfl
      have hcz8_1 : w4.cell? ⟨gb174, 1, none⟩ = some (.slice A0_1 l0_1.length c0_1) := (blk_cell BK174.out 1).trans rfl
      have hfz8_0 := blk_frozen BK174.out 0
      have hfz8_1 := blk_frozen BK174.out 1
      go_wp2_with (first | ((with_reducible refine gate_callee (f := 16) rfl ?_); refine goesL_ (some 14) rfl rfl Try.func16 (by kernel_rfl) rfl #[.agg #[.int .i64 a0_0, .slice A0_1 l0_1.length c0_1]] rfl (by (try simp only [List.map_toArray, List.map_cons, List.map_nil]); first | done | rfl | (simp only [List.length_drop, List.length_take]; rfl)) ?_; (with_reducible refine (impl_GoodNet.calls k a0_0 _ _ l0_1 true _ ?side1 ?side2 A5.out).mono ?_); (case side1 => repeat (first | exact (Kd.C_below HR0_1.out HB.out) | (with_reducible refine Kd.C_alloc ?_ _) | (with_reducible refine Kd.C_drewN ?_ _) | (with_reducible refine Kd.C_drew ?_))); (case side2 => exact HC0_1.out); rintro e w9 ⟨rfl, hb⟩; refine ⟨_, rfl, ?_⟩; have n0_ := Aside0.mk (blk_below (g := gb174) (o := .cells #[.int .i64 a0_0, .slice A0_1 l0_1.length c0_1] 29 (0, 0)) (by (with_reducible repeat (first | refine blk_drewN ?_ _ | refine blk_drew ?_ | refine blk_alloc ?_ _)); exact BK174.out) hb); have n1_ := Aside0.mk (below_step (by repeat (first | (with_reducible first | exact HB.out | apply below_alloc | apply pw_below_drewN | apply below_drew1 | refine below_set ?_ GE174.out) | exact HB.out)) hb); clear BK174; clear HB; have BK174 := n0_; have HB := n1_; clear n0_ n1_; (try clear hb); (try clear hb2); (try clear hk); (try clear hi); have hcz10_0 : w9.cell? ⟨gb174, 0, none⟩ = some (.int .i64 a0_0) := (blk_cell BK174.out 0).trans rfl; have hcz10_1 : w9.cell? ⟨gb174, 1, none⟩ = some (.slice A0_1 l0_1.length c0_1) := (blk_cell BK174.out 1).trans rfl; have hfz10_0 := blk_frozen BK174.out 0; have hfz10_1 := blk_frozen BK174.out 1) | (go_at_call 56; (with_reducible refine (impl_weightsOk.calls _ _ l1 a0_0 t176 _ ?side1 ?side2 A7.out).mono ?_); (case side1 => repeat (first | exact (Kd.C_below HR1.out HB.out) | (with_reducible refine Kd.C_alloc ?_ _) | (with_reducible refine Kd.C_drewN ?_ _) | (with_reducible refine Kd.C_drew ?_))); (case side2 => exact HC1.out); rintro e w11 ⟨rfl, hb⟩; have n0_ := Aside0.mk (blk_below (g := gb174) (o := .cells #[.int .i64 a0_0, .slice A0_1 l0_1.length c0_1] 29 (0, 0)) (by (with_reducible repeat (first | refine blk_drewN ?_ _ | refine blk_drew ?_ | refine blk_alloc ?_ _)); exact BK174.out) hb); have n1_ := Aside0.mk (below_step (by repeat (first | (with_reducible first | exact HB.out | apply below_alloc | apply pw_below_drewN | apply below_drew1 | refine below_set ?_ GE174.out) | exact HB.out)) hb); clear BK174; clear HB; have BK174 := n0_; have HB := n1_; clear n0_ n1_; (try clear hb); (try clear hb2); (try clear hk); (try clear hi)))
      go_meet
      case rel => exact ⟨_, (!t176), (by first | rfl | (simp; done) | (simp [*]; done)), H', ⟨by first | omega | exact Nat.le_refl _⟩, ⟨by (with_reducible repeat (first | refine blk_drewN ?_ _ | refine blk_drew ?_ | refine blk_alloc ?_ _)); exact BK174.out⟩, ⟨by repeat (first | (with_reducible first | exact HB.out | apply below_alloc | apply pw_below_drewN | apply below_drew1 | refine below_set ?_ GE174.out) | exact HB.out)⟩⟩
    · replace c6 := Bool.eq_false_iff.mpr c6
      subst c6
      have H1 : (impl_IsInvariant.j0 k l1 true a0_0 l0_1) = some (r1, r2) := by rw [if_neg (show ¬ (false = true) by decide)] at H; exact H
      clear H
      have H := H1
      clear H1
      have H' := Aside0.mk H
      clear H
      have hcz12_0 : w4.cell? ⟨gb174, 0, none⟩ = some (.int .i64 a0_0) := (blk_cell BK174.out 0).trans rfl
      have hcz12_1 : w4.cell? ⟨gb174, 1, none⟩ = some (.slice A0_1 l0_1.length c0_1) := (blk_cell BK174.out 1).trans rfl
      have hfz12_0 := blk_frozen BK174.out 0
      have hfz12_1 := blk_frozen BK174.out 1
      go_wp2_with (first | ((with_reducible refine gate_callee (f := 16) rfl ?_); refine goesL_ (some 14) rfl rfl Try.func16 (by kernel_rfl) rfl #[.agg #[.int .i64 a0_0, .slice A0_1 l0_1.length c0_1]] rfl (by (try simp only [List.map_toArray, List.map_cons, List.map_nil]); first | done | rfl | (simp only [List.length_drop, List.length_take]; rfl)) ?_; (with_reducible refine (impl_GoodNet.calls k a0_0 _ _ l0_1 false _ ?side1 ?side2 A5.out).mono ?_); (case side1 => repeat (first | exact (Kd.C_below HR0_1.out HB.out) | (with_reducible refine Kd.C_alloc ?_ _) | (with_reducible refine Kd.C_drewN ?_ _) | (with_reducible refine Kd.C_drew ?_))); (case side2 => exact HC0_1.out); rintro e w13 ⟨rfl, hb⟩; refine ⟨_, rfl, ?_⟩; have n0_ := Aside0.mk (blk_below (g := gb174) (o := .cells #[.int .i64 a0_0, .slice A0_1 l0_1.length c0_1] 29 (0, 0)) (by (with_reducible repeat (first | refine blk_drewN ?_ _ | refine blk_drew ?_ | refine blk_alloc ?_ _)); exact BK174.out) hb); have n1_ := Aside0.mk (below_step (by repeat (first | (with_reducible first | exact HB.out | apply below_alloc | apply pw_below_drewN | apply below_drew1 | refine below_set ?_ GE174.out) | exact HB.out)) hb); clear BK174; clear HB; have BK174 := n0_; have HB := n1_; clear n0_ n1_; (try clear hb); (try clear hb2); (try clear hk); (try clear hi)))
      go_meet
      case rel => exact ⟨_, (true), (by first | rfl | (simp; done) | (simp [*]; done)), H', ⟨by first | omega | exact Nat.le_refl _⟩, ⟨by (with_reducible repeat (first | refine blk_drewN ?_ _ | refine blk_drew ?_ | refine blk_alloc ?_ _)); exact BK174.out⟩, ⟨by repeat (first | (with_reducible first | exact HB.out | apply below_alloc | apply pw_below_drewN | apply below_drew1 | refine below_set ?_ GE174.out) | exact HB.out)⟩⟩
  case rest =>
    clear HC3
    try clear c1
    try clear c2
    try clear p2
    try clear c6
    try clear hcz10_0
    try clear hcz10_1
    try clear hcz12_0
    try clear hcz12_1
    try clear hcz8_0
    try clear hcz8_1
    try clear hfz10_0
    try clear hfz10_1
    try clear hfz12_0
    try clear hfz12_1
    try clear hfz8_0
    try clear hfz8_1
    obtain ⟨kq, x22_2, rfl, HA, HJ2, BK174, HB⟩ := hcut
    cases kq with
    | zero => exact absurd HA.out (by simp [impl_IsInvariant.j0])
    | succ kj2 =>
      have H := HA.out
      clear HA
      simp only [impl_IsInvariant.j0] at H
      by_cases c14 : x22_2 = true
      · subst c14
        have H1 : (some (false, false)) = some (r1, r2) := by rw [if_pos rfl] at H; exact H
        clear H
        have H := H1
        clear H1
        simp only [Option.some.injEq, Prod.mk.injEq] at H
        obtain ⟨rfl, rfl⟩ := H
        go_wp2
        go_ret2
        exact ⟨by first | rfl | (simp [errW_none, errW_some] <;> rfl) | (simp [*, errW_none, errW_some] <;> rfl), by repeat (first | (with_reducible first | exact HB.out | apply below_alloc | apply pw_below_drewN | apply below_drew1 | refine below_set ?_ GE174.out) | exact HB.out)⟩
      · replace c14 := Bool.eq_false_iff.mpr c14
        subst c14
        have H1 : (impl_IsInvariant.l0 kj2 l1 l0_1 (l0_1.length : Int) 0) = some (r1, r2) := by rw [if_neg (show ¬ (false = true) by decide)] at H; exact H
        clear H
        have H := H1
        clear H1
        have H' := Aside0.mk H
        clear H
        have hcz15_0 : wc.cell? ⟨gb174, 0, none⟩ = some (.int .i64 a0_0) := (blk_cell BK174.out 0).trans rfl
        have hcz15_1 : wc.cell? ⟨gb174, 1, none⟩ = some (.slice A0_1 l0_1.length c0_1) := (blk_cell BK174.out 1).trans rfl
        have hfz15_0 := blk_frozen BK174.out 0
        have hfz15_1 := blk_frozen BK174.out 1
        go_wp2
        go_loopg [26] kj2 (fun kq v26 w' => ∃ (x26_2 : Int), v26 = .int .i64 x26_2 ∧ Aside0 (impl_IsInvariant.l0 kq l1 l0_1 (l0_1.length : Int) x26_2 = some (r1, r2)) ∧ Aside0 (kq ≤ kj2) ∧ Aside0 (w'.heap[gb174]? = some (.cells #[.int .i64 a0_0, (.slice A0_1 l0_1.length c0_1)] 29 (0, 0))) ∧ Aside0 (Below w.heap.size w w'))
        case atStart => exact ⟨(0), (by first | rfl | (simp; done) | (simp [*]; done)), H', ⟨Nat.le_refl _⟩, ⟨by (with_reducible repeat (first | refine blk_drewN ?_ _ | refine blk_drew ?_ | refine blk_alloc ?_ _)); exact BK174.out⟩, ⟨by repeat (first | (with_reducible first | exact HB.out | apply below_alloc | apply pw_below_drewN | apply below_drew1 | refine below_set ?_ GE174.out) | exact HB.out)⟩⟩
        case round =>
          clear H'
          try clear c1
          try clear c2
          try clear p2
          try clear c6
          try clear c14
          try clear hcz10_0
          try clear hcz10_1
          try clear hcz12_0
          try clear hcz12_1
          try clear hcz15_0
          try clear hcz15_1
          try clear hcz8_0
          try clear hcz8_1
          try clear hfz10_0
          try clear hfz10_1
          try clear hfz12_0
          try clear hfz12_1
          try clear hfz15_0
          try clear hfz15_1
          try clear hfz8_0
          try clear hfz8_1
          try clear p2
          obtain ⟨x26_2, rfl, HA, HK2, BK174, HB⟩ := hrel
          cases gk with
          | zero => exact absurd HA.out (by simp [impl_IsInvariant.l0])
          | succ k2 =>
            have H := HA.out
            clear HA
            simp only [impl_IsInvariant.l0] at H
            by_cases c16 : x26_2 < (l0_1.length : Int)
            · rw [if_pos c16] at H
              have c16b0 : decide (x26_2 < (l0_1.length : Int)) = true := decide_eq_true c16
              clear c16
              by_cases c17 : 0 ≤ x26_2
              · rw [if_pos c17] at H
                have c17b0 : decide (0 ≤ x26_2) = true := decide_eq_true c17
                clear c17
                by_cases c18 : x26_2 < (l0_1.length : Int)
                · rw [if_pos c18] at H
                  have c18b0 : decide (x26_2 < (l0_1.length : Int)) = true := decide_eq_true c18
                  clear c18
                  have H' := Aside0.mk H
                  clear H
                  have p177 : 0 ≤ (x26_2 : Int) := of_decide_eq_true (by first | (with_reducible assumption) | assumption)
                  have q177 : x26_2 < (l0_1.length : Int) := of_decide_eq_true (by first | (with_reducible assumption) | assumption)
                  obtain ⟨ad177, A177_0, c177_0, A177_1, c177_1, e177, hx177_0, hx177_1, hl177_0, hi177_0, hl177_1, hi177_1⟩ := at_T60 HR0_1.out x26_2 p177 q177
                  cases e177
                  try replace hx177_0 := (HB.out.cell (World.block_lt_of_cell? w _ hx177_0)).trans hx177_0
                  try replace hx177_1 := (HB.out.cell (World.block_lt_of_cell? w _ hx177_1)).trans hx177_1
                  have HR177_0 := Aside0.mk hi177_0
                  have HC177_0 := Aside0.mk hl177_0
                  clear hi177_0 hl177_0
                  have HR177_1 := Aside0.mk hi177_1
                  have HC177_1 := Aside0.mk hl177_1
                  clear hi177_1 hl177_1
                  replace p177 := eq_true p177
                  replace q177 := eq_true q177
                  go_wp2_with (first | ((with_reducible refine gate_dst (N := 7) rfl ?_); refine box_event ?hg (N := 7) ?hd (cs := #[.slice none 0 0, .slice none 0 0]) (t := 60) ?hr ?_; (case hd => rfl); (case hg => rfl); (case hr => first | (go_simp; done) | (go_simp; rfl)); intro gb178 hg w19 hbox hb; have n0_ := Aside0.mk (blk_below (g := gb174) (o := .cells #[.int .i64 a0_0, .slice (some ad177) l0_1.length c0_1] 29 (0, 0)) (by (with_reducible repeat (first | refine blk_drewN ?_ _ | refine blk_drew ?_ | refine blk_alloc ?_ _)); exact BK174.out) hb); have n1_ := Aside0.mk (below_step (by repeat (first | (with_reducible first | exact HB.out | apply below_alloc | apply pw_below_drewN | apply below_drew1 | refine below_set ?_ GE174.out) | exact HB.out)) hb); have n2_ := Aside0.mk (hbox); have n3_ := Aside0.mk ((by rw [hg]; exact (below_size (by repeat (first | (with_reducible first | exact HB.out | apply below_alloc | apply pw_below_drewN | apply below_drew1 | refine below_set ?_ GE174.out) | exact HB.out))) : w.heap.size ≤ gb178)); have n4_ := Aside0.mk ((by rw [hg]; exact (below_size (by repeat (first | (with_reducible first | exact HB.out | apply below_alloc | apply pw_below_drewN | apply below_drew1 | refine below_set ?_ GE174.out) | exact HB.out))) : w.heap.size ≤ gb178)); have n5_ := Aside0.mk ((by rw [hg]; exact Nat.ne_of_lt (blk_lt (g := gb174) (o := .cells #[.int .i64 a0_0, .slice (some ad177) l0_1.length c0_1] 29 (0, 0)) (by (with_reducible repeat (first | refine blk_drewN ?_ _ | refine blk_drew ?_ | refine blk_alloc ?_ _)); exact BK174.out)) : gb174 ≠ gb178)); have n6_ := Aside0.mk ((by rw [hg]; exact Nat.ne_of_gt (blk_lt (g := gb174) (o := .cells #[.int .i64 a0_0, .slice (some ad177) l0_1.length c0_1] 29 (0, 0)) (by (with_reducible repeat (first | refine blk_drewN ?_ _ | refine blk_drew ?_ | refine blk_alloc ?_ _)); exact BK174.out)) : gb178 ≠ gb174)); clear BK174; clear HB; have BK174 := n0_; have HB := n1_; have BK178 := n2_; have GW178 := n3_; have GE178 := n4_; have NB174_178 := n5_; have NB178_174 := n6_; clear n0_ n1_ n2_ n3_ n4_ n5_ n6_; clear hb hbox hg; have hnb20 := NB178_174.out; have hnc20 := NB174_178.out; have hcz21_0 : w19.cell? ⟨gb178, 0, none⟩ = some (.slice none 0 0) := (blk_cell BK178.out 0).trans rfl; have hcz21_1 : w19.cell? ⟨gb178, 1, none⟩ = some (.slice none 0 0) := (blk_cell BK178.out 1).trans rfl; have hfz21_0 := blk_frozen BK178.out 0; have hfz21_1 := blk_frozen BK178.out 1))
                  go_loopg [8, 33] k2 (fun kq v8 v33 w' => ∃ (x8_3 : Int) (x33_3 : Int), v8 = .int .i64 x8_3 ∧ v33 = .int .i64 x33_3 ∧ Aside0 (impl_IsInvariant.l1 kq l1 x8_3 l0_1 (l0_1.length : Int) x26_2 ((rd_T60 l0_1 x26_2).f0) (((rd_T60 l0_1 x26_2).f0).length : Int) x33_3 ((rd_T60 l0_1 x26_2).f0) ((rd_T60 l0_1 x26_2).f1) = some (r1, r2)) ∧ Aside0 (kq ≤ k2) ∧ Aside0 (w'.heap[gb174]? = some (.cells #[.int .i64 a0_0, (.slice (some ad177) l0_1.length c0_1)] 29 (0, 0))) ∧ Aside0 (w'.heap[gb178]? = some (.cells #[(.slice A177_0 ((rd_T60 l0_1 x26_2).f0).length c177_0), (.slice A177_1 ((rd_T60 l0_1 x26_2).f1).length c177_1)] 60 (0, 0))) ∧ Aside0 (Below w.heap.size w w'))
                  case atStart => exact ⟨(0), (0), (by first | rfl | (simp; done) | (simp [*]; done)), (by first | rfl | (simp; done) | (simp [*]; done)), H', ⟨Nat.le_refl _⟩, ⟨by (with_reducible repeat (first | refine blk_drewN ?_ _ | refine blk_drew ?_ | refine blk_alloc ?_ _)); refine blk_far ?_ NB174_178.out _; (with_reducible repeat (first | refine blk_drewN ?_ _ | refine blk_drew ?_ | refine blk_alloc ?_ _)); refine blk_far ?_ NB174_178.out _; (with_reducible repeat (first | refine blk_drewN ?_ _ | refine blk_drew ?_ | refine blk_alloc ?_ _)); exact BK174.out⟩, ⟨by (with_reducible repeat (first | refine blk_drewN ?_ _ | refine blk_drew ?_ | refine blk_alloc ?_ _)); refine blk_put (cs := #[.slice A177_0 ((rd_T60 l0_1 x26_2).f0).length c177_0, .slice none 0 0]) ?_ 1 _ rfl; (with_reducible repeat (first | refine blk_drewN ?_ _ | refine blk_drew ?_ | refine blk_alloc ?_ _)); refine blk_put (cs := #[.slice none 0 0, .slice none 0 0]) ?_ 0 _ rfl; (with_reducible repeat (first | refine blk_drewN ?_ _ | refine blk_drew ?_ | refine blk_alloc ?_ _)); exact BK178.out⟩, ⟨by repeat (first | (with_reducible first | exact HB.out | apply below_alloc | apply pw_below_drewN | apply below_drew1 | refine below_set ?_ GE174.out | refine below_set ?_ GE178.out) | exact HB.out)⟩⟩
                  case round =>
                    clear H'
                    try clear c1
                    try clear p1
                    try clear q1
                    try clear hx1
                    try clear c2
                    try clear p2
                    try clear c6
                    try clear c14
                    try clear c16
                    try clear c16b0
                    try clear c17
                    try clear c17b0
                    try clear p17
                    try clear q17
                    try clear hx17
                    try clear c18
                    try clear c18b0
                    try clear c20
                    try clear hcz10_0
                    try clear hcz10_1
                    try clear hcz12_0
                    try clear hcz12_1
                    try clear hcz15_0
                    try clear hcz15_1
                    try clear hcz21_0
                    try clear hcz21_1
                    try clear hcz8_0
                    try clear hcz8_1
                    try clear hfz10_0
                    try clear hfz10_1
                    try clear hfz12_0
                    try clear hfz12_1
                    try clear hfz15_0
                    try clear hfz15_1
                    try clear hfz21_0
                    try clear hfz21_1
                    try clear hfz8_0
                    try clear hfz8_1
                    try clear hx177_0
                    try clear hx177_1
                    try clear p177
                    try clear p2
                    try clear q177
                    obtain ⟨x8_3, x33_3, rfl, rfl, HA, HK3, BK174, BK178, HB⟩ := hrel
                    cases gk with
                    | zero => exact absurd HA.out (by simp [impl_IsInvariant.l1])
                    | succ k3 =>
                      have H := HA.out
                      clear HA
                      simp only [impl_IsInvariant.l1] at H
                      by_cases c22 : x33_3 < (((rd_T60 l0_1 x26_2).f0).length : Int)
                      · rw [if_pos c22] at H
                        have c22b0 : decide (x33_3 < (((rd_T60 l0_1 x26_2).f0).length : Int)) = true := decide_eq_true c22
                        clear c22
                        by_cases c23 : 0 ≤ x33_3
                        · rw [if_pos c23] at H
                          have c23b0 : decide (0 ≤ x33_3) = true := decide_eq_true c23
                          clear c23
                          by_cases c24 : x33_3 < (((rd_T60 l0_1 x26_2).f0).length : Int)
                          · rw [if_pos c24] at H
                            have c24b0 : decide (x33_3 < (((rd_T60 l0_1 x26_2).f0).length : Int)) = true := decide_eq_true c24
                            clear c24
                            by_cases c25 : 0 ≤ (rd ((rd_T60 l0_1 x26_2).f0) x33_3)
                            · rw [if_pos c25] at H
                              have c25b0 : decide (0 ≤ (rd ((rd_T60 l0_1 x26_2).f0) x33_3)) = true := decide_eq_true c25
                              clear c25
                              by_cases c26 : (rd ((rd_T60 l0_1 x26_2).f0) x33_3) < (l1.length : Int)
                              · rw [if_pos c26] at H
                                have c26b0 : decide ((rd ((rd_T60 l0_1 x26_2).f0) x33_3) < (l1.length : Int)) = true := decide_eq_true c26
                                clear c26
                                have H' := Aside0.mk H
                                clear H
                                have p179 : 0 ≤ (x33_3 : Int) := of_decide_eq_true (by first | (with_reducible assumption) | assumption)
                                have q179 : x33_3 < (((rd_T60 l0_1 x26_2).f0).length : Int) := of_decide_eq_true (by first | (with_reducible assumption) | assumption)
                                obtain ⟨ad179, e179, hx179_0⟩ := Kd.at_int HR177_0.out x33_3 p179 q179
                                cases e179
                                try replace hx179_0 := (HB.out.cell (World.block_lt_of_cell? w _ hx179_0)).trans hx179_0
                                replace p179 := eq_true p179
                                replace q179 := eq_true q179
                                have p180 : 0 ≤ ((rd ((rd_T60 l0_1 x26_2).f0) x33_3) : Int) := of_decide_eq_true (by first | (with_reducible assumption) | assumption)
                                have q180 : (rd ((rd_T60 l0_1 x26_2).f0) x33_3) < (l1.length : Int) := of_decide_eq_true (by first | (with_reducible assumption) | assumption)
                                obtain ⟨ad180, e180, hx180_0⟩ := Kd.at_int HR1.out (rd ((rd_T60 l0_1 x26_2).f0) x33_3) p180 q180
                                cases e180
                                try replace hx180_0 := (HB.out.cell (World.block_lt_of_cell? w _ hx180_0)).trans hx180_0
                                replace p180 := eq_true p180
                                replace q180 := eq_true q180
                                go_wp2
                                go_roundg k3
                                case measure => have := HJ2.out; have := HK2.out; have := HK3.out; omega
                                case rel => exact ⟨(wrap64 (x8_3 - (rd l1 (rd ((rd_T60 l0_1 x26_2).f0) x33_3)))), (wrap64 (x33_3 + 1)), (by first | rfl | (simp; done) | (simp [*]; done)), (by first | rfl | (simp; done) | (simp [*]; done)), H', ⟨by have := HJ2.out; have := HK2.out; have := HK3.out; omega⟩, ⟨by (with_reducible repeat (first | refine blk_drewN ?_ _ | refine blk_drew ?_ | refine blk_alloc ?_ _)); exact BK174.out⟩, ⟨by (with_reducible repeat (first | refine blk_drewN ?_ _ | refine blk_drew ?_ | refine blk_alloc ?_ _)); exact BK178.out⟩, ⟨by repeat (first | (with_reducible first | exact HB.out | apply below_alloc | apply pw_below_drewN | apply below_drew1 | refine below_set ?_ GE174.out | refine below_set ?_ GE178.out) | exact HB.out)⟩⟩
                              · rw [if_neg c26] at H
                                exact absurd H (by simp)
                            · rw [if_neg c25] at H
                              exact absurd H (by simp)
                          · rw [if_neg c24] at H
                            exact absurd H (by simp)
                        · rw [if_neg c23] at H
                          exact absurd H (by simp)
                      · rw [if_neg c22] at H
                        have c22b0 : decide (x33_3 < (((rd_T60 l0_1 x26_2).f0).length : Int)) = false := decide_eq_false c22
                        clear c22
                        have H' := Aside0.mk H
                        clear H
                        have hnb27 := NB178_174.out
                        have hnc27 := NB174_178.out
                        have hcz28_0 : wr.cell? ⟨gb178, 0, none⟩ = some (.slice A177_0 ((rd_T60 l0_1 x26_2).f0).length c177_0) := (blk_cell BK178.out 0).trans rfl
                        have hcz28_1 : wr.cell? ⟨gb178, 1, none⟩ = some (.slice A177_1 ((rd_T60 l0_1 x26_2).f1).length c177_1) := (blk_cell BK178.out 1).trans rfl
                        have hfz28_0 := blk_frozen BK178.out 0
                        have hfz28_1 := blk_frozen BK178.out 1
                        go_wp2
                        go_loopg [8, 47] k3 (fun kq v8 v47 w' => ∃ (x8_4 : Int) (x47_4 : Int), v8 = .int .i64 x8_4 ∧ v47 = .int .i64 x47_4 ∧ Aside0 (impl_IsInvariant.l2 kq l1 x8_4 l0_1 (l0_1.length : Int) x26_2 ((rd_T60 l0_1 x26_2).f1) (((rd_T60 l0_1 x26_2).f1).length : Int) x47_4 = some (r1, r2)) ∧ Aside0 (kq ≤ k3) ∧ Aside0 (w'.heap[gb174]? = some (.cells #[.int .i64 a0_0, (.slice (some ad177) l0_1.length c0_1)] 29 (0, 0))) ∧ Aside0 (w'.heap[gb178]? = some (.cells #[(.slice A177_0 ((rd_T60 l0_1 x26_2).f0).length c177_0), (.slice A177_1 ((rd_T60 l0_1 x26_2).f1).length c177_1)] 60 (0, 0))) ∧ Aside0 (Below w.heap.size w w'))
                        case atStart => exact ⟨(x8_3), (0), (by first | rfl | (simp; done) | (simp [*]; done)), (by first | rfl | (simp; done) | (simp [*]; done)), H', ⟨Nat.le_refl _⟩, ⟨by (with_reducible repeat (first | refine blk_drewN ?_ _ | refine blk_drew ?_ | refine blk_alloc ?_ _)); exact BK174.out⟩, ⟨by (with_reducible repeat (first | refine blk_drewN ?_ _ | refine blk_drew ?_ | refine blk_alloc ?_ _)); exact BK178.out⟩, ⟨by repeat (first | (with_reducible first | exact HB.out | apply below_alloc | apply pw_below_drewN | apply below_drew1 | refine below_set ?_ GE174.out | refine below_set ?_ GE178.out) | exact HB.out)⟩⟩
                        case round =>
                          clear H'
                          try clear c1
                          try clear p1
                          try clear q1
                          try clear hx1
                          try clear c2
                          try clear p2
                          try clear c6
                          try clear p6
                          try clear c14
                          try clear c16
                          try clear c16b0
                          try clear c17
                          try clear c17b0
                          try clear p17
                          try clear q17
                          try clear hx17
                          try clear c18
                          try clear c18b0
                          try clear p18
                          try clear q18
                          try clear hx18
                          try clear c20
                          try clear c22
                          try clear c22b0
                          try clear c23
                          try clear c23b0
                          try clear c24
                          try clear c24b0
                          try clear c25
                          try clear c25b0
                          try clear c26
                          try clear c26b0
                          try clear c27
                          try clear hcz10_0
                          try clear hcz10_1
                          try clear hcz12_0
                          try clear hcz12_1
                          try clear hcz15_0
                          try clear hcz15_1
                          try clear hcz21_0
                          try clear hcz21_1
                          try clear hcz28_0
                          try clear hcz28_1
                          try clear hcz8_0
                          try clear hcz8_1
                          try clear hfz10_0
                          try clear hfz10_1
                          try clear hfz12_0
                          try clear hfz12_1
                          try clear hfz15_0
                          try clear hfz15_1
                          try clear hfz21_0
                          try clear hfz21_1
                          try clear hfz28_0
                          try clear hfz28_1
                          try clear hfz8_0
                          try clear hfz8_1
                          try clear hx177_0
                          try clear hx177_1
                          try clear hx179_0
                          try clear hx180_0
                          try clear p1
                          try clear p17
                          try clear p177
                          try clear p179
                          try clear p180
                          try clear p2
                          try clear q1
                          try clear q17
                          try clear q177
                          try clear q179
                          try clear q180
                          obtain ⟨x8_4, x47_4, rfl, rfl, HA, HK4, BK174, BK178, HB⟩ := hrel
                          cases gk with
                          | zero => exact absurd HA.out (by simp [impl_IsInvariant.l2])
                          | succ k4 =>
                            have H := HA.out
                            clear HA
                            simp only [impl_IsInvariant.l2] at H
                            by_cases c29 : x47_4 < (((rd_T60 l0_1 x26_2).f1).length : Int)
                            · rw [if_pos c29] at H
                              have c29b0 : decide (x47_4 < (((rd_T60 l0_1 x26_2).f1).length : Int)) = true := decide_eq_true c29
                              clear c29
                              by_cases c30 : 0 ≤ x47_4
                              · rw [if_pos c30] at H
                                have c30b0 : decide (0 ≤ x47_4) = true := decide_eq_true c30
                                clear c30
                                by_cases c31 : x47_4 < (((rd_T60 l0_1 x26_2).f1).length : Int)
                                · rw [if_pos c31] at H
                                  have c31b0 : decide (x47_4 < (((rd_T60 l0_1 x26_2).f1).length : Int)) = true := decide_eq_true c31
                                  clear c31
                                  by_cases c32 : 0 ≤ (rd ((rd_T60 l0_1 x26_2).f1) x47_4)
                                  · rw [if_pos c32] at H
                                    have c32b0 : decide (0 ≤ (rd ((rd_T60 l0_1 x26_2).f1) x47_4)) = true := decide_eq_true c32
                                    clear c32
                                    by_cases c33 : (rd ((rd_T60 l0_1 x26_2).f1) x47_4) < (l1.length : Int)
                                    · rw [if_pos c33] at H
                                      have c33b0 : decide ((rd ((rd_T60 l0_1 x26_2).f1) x47_4) < (l1.length : Int)) = true := decide_eq_true c33
                                      clear c33
                                      have H' := Aside0.mk H
                                      clear H
                                      have p181 : 0 ≤ (x47_4 : Int) := of_decide_eq_true (by first | (with_reducible assumption) | assumption)
                                      have q181 : x47_4 < (((rd_T60 l0_1 x26_2).f1).length : Int) := of_decide_eq_true (by first | (with_reducible assumption) | assumption)
                                      obtain ⟨ad181, e181, hx181_0⟩ := Kd.at_int HR177_1.out x47_4 p181 q181
                                      cases e181
                                      try replace hx181_0 := (HB.out.cell (World.block_lt_of_cell? w _ hx181_0)).trans hx181_0
                                      replace p181 := eq_true p181
                                      replace q181 := eq_true q181
                                      have p182 : 0 ≤ ((rd ((rd_T60 l0_1 x26_2).f1) x47_4) : Int) := of_decide_eq_true (by first | (with_reducible assumption) | assumption)
                                      have q182 : (rd ((rd_T60 l0_1 x26_2).f1) x47_4) < (l1.length : Int) := of_decide_eq_true (by first | (with_reducible assumption) | assumption)
                                      obtain ⟨ad182, e182, hx182_0⟩ := Kd.at_int HR1.out (rd ((rd_T60 l0_1 x26_2).f1) x47_4) p182 q182
                                      cases e182
                                      try replace hx182_0 := (HB.out.cell (World.block_lt_of_cell? w _ hx182_0)).trans hx182_0
                                      replace p182 := eq_true p182
                                      replace q182 := eq_true q182
                                      go_wp2
                                      go_roundg k4
                                      case measure => have := HJ2.out; have := HK2.out; have := HK3.out; have := HK4.out; omega
                                      case rel => exact ⟨(wrap64 (x8_4 + (rd l1 (rd ((rd_T60 l0_1 x26_2).f1) x47_4)))), (wrap64 (x47_4 + 1)), (by first | rfl | (simp; done) | (simp [*]; done)), (by first | rfl | (simp; done) | (simp [*]; done)), H', ⟨by have := HJ2.out; have := HK2.out; have := HK3.out; have := HK4.out; omega⟩, ⟨by (with_reducible repeat (first | refine blk_drewN ?_ _ | refine blk_drew ?_ | refine blk_alloc ?_ _)); exact BK174.out⟩, ⟨by (with_reducible repeat (first | refine blk_drewN ?_ _ | refine blk_drew ?_ | refine blk_alloc ?_ _)); exact BK178.out⟩, ⟨by repeat (first | (with_reducible first | exact HB.out | apply below_alloc | apply pw_below_drewN | apply below_drew1 | refine below_set ?_ GE174.out | refine below_set ?_ GE178.out) | exact HB.out)⟩⟩
                                    · rw [if_neg c33] at H
                                      exact absurd H (by simp)
                                  · rw [if_neg c32] at H
                                    exact absurd H (by simp)
                                · rw [if_neg c31] at H
                                  exact absurd H (by simp)
                              · rw [if_neg c30] at H
                                exact absurd H (by simp)
                            · rw [if_neg c29] at H
                              have c29b0 : decide (x47_4 < (((rd_T60 l0_1 x26_2).f1).length : Int)) = false := decide_eq_false c29
                              clear c29
                              by_cases c34 : x8_4 = 0
                              · rw [if_pos c34] at H
                                have c34b0 : (x8_4 == 0) = true := beq_iff_eq.mpr c34
                                have c34b1 : (x8_4 != 0) = false := bne_eq_false_iff_eq.mpr c34
                                clear c34
                                have H' := Aside0.mk H
                                clear H
                                go_wp2
                                go_roundg k4
                                case measure => have := HJ2.out; have := HK2.out; have := HK3.out; have := HK4.out; omega
                                case rel => exact ⟨(wrap64 (x26_2 + 1)), (by first | rfl | (simp; done) | (simp [*]; done)), H', ⟨by have := HJ2.out; have := HK2.out; have := HK3.out; have := HK4.out; omega⟩, ⟨by (with_reducible repeat (first | refine blk_drewN ?_ _ | refine blk_drew ?_ | refine blk_alloc ?_ _)); exact BK174.out⟩, ⟨by repeat (first | (with_reducible first | exact HB.out | apply below_alloc | apply pw_below_drewN | apply below_drew1 | refine below_set ?_ GE174.out | refine below_set ?_ GE178.out) | exact HB.out)⟩⟩
                              · rw [if_neg c34] at H
                                have c34b0 : (x8_4 == 0) = false := beq_eq_false_iff_ne.mpr c34
                                have c34b1 : (x8_4 != 0) = true := bne_iff_ne.mpr c34
                                simp only [Option.some.injEq, Prod.mk.injEq] at H
                                obtain ⟨rfl, rfl⟩ := H
                                go_wp2
                                go_ret2
                                exact ⟨by first | rfl | (simp [errW_none, errW_some] <;> rfl) | (simp [*, errW_none, errW_some] <;> rfl), by repeat (first | (with_reducible first | exact HB.out | apply below_alloc | apply pw_below_drewN | apply below_drew1 | refine below_set ?_ GE174.out | refine below_set ?_ GE178.out) | exact HB.out)⟩
                · rw [if_neg c18] at H
                  exact absurd H (by simp)
              · rw [if_neg c17] at H
                exact absurd H (by simp)
            · rw [if_neg c16] at H
              have c16b0 : decide (x26_2 < (l0_1.length : Int)) = false := decide_eq_false c16
              clear c16
              simp only [Option.some.injEq, Prod.mk.injEq] at H
              obtain ⟨rfl, rfl⟩ := H
              go_wp2
              go_ret2
              exact ⟨by first | rfl | (simp [errW_none, errW_some] <;> rfl) | (simp [*, errW_none, errW_some] <;> rfl), by repeat (first | (with_reducible first | exact HB.out | apply below_alloc | apply pw_below_drewN | apply below_drew1 | refine below_set ?_ GE174.out) | exact HB.out)⟩

end Go.Proofs.Ytnfafdlglhbijaa.PFnExactIsInvariant
