-- written by xprint.py (a program of this session's, over the kit's print): printed functions, and some by hand
import Derived.Test.YtnfafdlglhbijaaPFnExactCountStepsx0
import Derived.Test.YtnfafdlglhbijaaPFnExactCountStepsx4
import Derived.Test.YtnfafdlglhbijaaPFnExactCountStepsx5
namespace Go.Proofs.Ytnfafdlglhbijaa.PFnExactCountSteps
open Go.RowKit Go.Proofs.YtnfafdlglhbijaaW.PrintWords Go.Proofs.YtnfafdlglhbijaaW.PrintLast Go.Proofs.YtnfafdlglhbijaaW.PrintMore
attribute [local go_sem] max2_int min2_int max_two min_two max_three min_three max_four min_four   -- for this text's walks alone
set_option linter.unusedVariables false
set_option linter.unusedSimpArgs false

/-! ### impl_CountSteps: function 27, by hand -/
def countGo (counts : List Int) : List S60 → Nat → List Int → Option (List Int)
  | [], _, x => some x
  | s :: st, i, x => if i < counts.length then (addAll (-(rd counts (i : Int))) s.f0 x).bind fun y => (addAll (rd counts (i : Int)) s.f1 y).bind fun z => countGo counts st (i + 1) z else none
def impl_CountSteps.f (k : Nat) (a0_0 : Int) (l0_1 : List (S60)) (l1 l2 : List Int) : Option (List Int × Bool) :=
  (impl_markOk.f k a0_0 l0_1 l1).bind fun t => if t = true then (if l2.length ≠ l0_1.length then some ([], false) else if l2.any (fun x => !(decide (0 ≤ x ∧ x ≤ 100))) = true then some ([], false) else if l1.length < 17592186044416 then (countGo l2 l0_1 0 l1).bind fun r => some (r, true) else none) else some ([], false)
theorem impl_CountSteps.mono : ∀ a0 a1 a2 a3 k, LeO (impl_CountSteps.f k a0 a1 a2 a3) (impl_CountSteps.f (k + 1) a0 a1 a2 a3) := by
  intro a0 a1 a2 a3 k
  unfold impl_CountSteps.f
  exact LeO.bind (impl_markOk.mono _ _ _ _) (fun _ => LeO.refl _)
theorem cs_then {w W w' : World} (h : Below w.heap.size w W) (hb : Below W.heap.size W w') : Below w.heap.size w w' := below_then h h.size hb
theorem impl_CountSteps.clo (W : World) (x : Int) : Calls Try.prog 61 (#[.int .i64 x] ++ #[]) W fun e w' => e = .returned (.bool (!decide (0 ≤ x ∧ x ≤ 100))) ∧ Below W.heap.size W w' := by
  have A := Aside0.mk (show impl_in.f x 0 100 = some (decide (0 ≤ x ∧ x ≤ 100)) by
    unfold impl_in.f
    by_cases h : x ≥ 0
    · rw [if_pos h]; congr 1; simp only [decide_eq_decide]; omega
    · rw [if_neg h, decide_eq_false (by omega)])
  obtain ⟨b, hb⟩ : ∃ b, b = decide (0 ≤ x ∧ x ≤ 100) := ⟨_, rfl⟩
  rw [← hb] at A ⊢
  clear hb
  go_enter Try.func61, Try.ntmps61
  go_wp2_with fail
  refine (impl_in.calls x 0 100 b _ A.out).mono ?_
  rintro e w' ⟨rfl, ⟨nd, rfl⟩⟩
  go_wp2
  go_ret
  exact ⟨rfl, pw_below_drewN (Below.refl _ _) _⟩
set_option maxHeartbeats 8000000 in
set_option maxRecDepth 100000 in
theorem impl_CountSteps.calls (k : Nat) (a0_0 : Int) (A0_1 : Option Addr) (c0_1 : Nat) (l0_1 : List (S60)) (A1 : Option Addr) (c1 : Nat) (l1 : List Int) (A2 : Option Addr) (c2 : Nat) (l2 : List Int) (r1 : List Int) (r2 : Bool) (w : World) (hr0_1 : Kd.C k60 w A0_1 l0_1.length l0_1) (hc0_1 : l0_1.length ≤ c0_1) (hr1 : Kd.C (Kd.int .i64) w A1 l1.length l1) (hc1 : l1.length ≤ c1) (hr2 : Kd.C (Kd.int .i64) w A2 l2.length l2) (hc2 : l2.length ≤ c2) (h : impl_CountSteps.f k a0_0 l0_1 l1 l2 = some (r1, r2)) :
    Calls Try.prog 27 #[.agg #[.int .i64 a0_0, .slice A0_1 l0_1.length c0_1], .slice A1 l1.length c1, .slice A2 l2.length c2] w fun e w' => ∃ v0_ : Value, e = .returned (.tuple #[v0_, .bool r2]) ∧ Kd.R (Kd.int .i64) 3 w' w.heap.size (fun _ => True) v0_ r1 ∧ Below w.heap.size w w' := by
  have hu29 := Try.underlying29
  have hu60 := Try.underlying60
  have HLN := Aside0.mk hr0_1.2.1
  have HR0_1 := Aside0.mk hr0_1
  have HC0_1 := Aside0.mk hc0_1
  have HR1 := Aside0.mk hr1
  have HC1 := Aside0.mk hc1
  have HR2 := Aside0.mk hr2
  have HC2 := Aside0.mk hc2
  have HB := Aside0.mk (Below.refl w.heap.size w)
  clear hr0_1 hc0_1 hr1 hc1 hr2 hc2
  unfold impl_CountSteps.f at h
  obtain ⟨t, T, h⟩ := Option.bind_eq_some_iff.1 h
  have HT := Aside0.mk T
  clear T
  obtain ⟨bad, hbad⟩ : ∃ bad, l2.any (fun x => !(decide (0 ≤ x ∧ x ≤ 100))) = bad := ⟨_, rfl⟩
  rw [hbad] at h
  have HBAD := Aside0.mk hbad
  clear hbad
  cases t with
  | false =>
    rw [if_neg (by decide)] at h
    simp only [Option.some.injEq, Prod.mk.injEq] at h
    obtain ⟨rfl, rfl⟩ := h
    go_enter Try.func27, Try.ntmps27
    go_wp2_with (first | ((with_reducible refine gate_dst (N := 3) rfl ?_); refine box_event ?hg (N := 3) ?hd (cs := #[.int .i64 a0_0, .slice A0_1 l0_1.length c0_1]) (t := 29) ?hr ?_; (case hd => rfl); (case hg => rfl); (case hr => first | (go_simp; done) | (go_simp; rfl)); intro gb hg w3 hbox hb; have n0_ := Aside0.mk (below_step (by repeat (first | exact HB.out | apply below_alloc | apply pw_below_drewN | apply below_drew1)) hb); have n1_ := Aside0.mk hbox; clear HB; have HB := n0_; have BK := n1_; clear n0_ n1_; clear hb hbox hg))
    refine (slices_ContainsFunc_int_int.at 61 (enters_ Try.func61 (by kernel_rfl) rfl) #[] (fun x => !(decide (0 ≤ x ∧ x ≤ 100))) A2 c2 l2 _ (Kd.C_below HR2.out HB.out) (fun W x _ _ => impl_CountSteps.clo W x)).mono ?_
    rw [HBAD.out]
    rintro e w4 ⟨rfl, hb4⟩
    have HB4 := Aside0.mk (below_then HB.out HB.out.size hb4)
    have BK4 := Aside0.mk (blk_below BK.out hb4)
    clear hb4 HB BK
    have HB := HB4
    have BK := BK4
    clear HB4 BK4
    have hcz_0 : w4.cell? ⟨gb, 0, none⟩ = some (.int .i64 a0_0) := (blk_cell BK.out 0).trans rfl
    have hcz_1 : w4.cell? ⟨gb, 1, none⟩ = some (.slice A0_1 l0_1.length c0_1) := (blk_cell BK.out 1).trans rfl
    go_wp2_with fail
    refine (impl_markOk.calls k a0_0 A0_1 c0_1 l0_1 A1 c1 l1 false _ (Kd.C_below HR0_1.out (by repeat (first | exact HB.out | apply below_alloc | apply pw_below_drewN | apply below_drew1))) HC0_1.out (Kd.C_below HR1.out (by repeat (first | exact HB.out | apply below_alloc | apply pw_below_drewN | apply below_drew1))) HC1.out HT.out).mono ?_
    rintro e w5 ⟨rfl, hb5⟩
    have HB5 : Aside0 (Below w.heap.size w w5) := ⟨cs_then (by repeat (first | exact HB.out | apply below_alloc | apply pw_below_drewN | apply below_drew1)) hb5⟩
    have BK5 := Aside0.mk (blk_below (blk_below BK.out (by repeat (first | exact Below.refl _ _ | apply below_alloc | apply pw_below_drewN | apply below_drew1))) hb5)
    clear hb5 HB BK hcz_0 hcz_1
    have HB := HB5
    have BK := BK5
    clear HB5 BK5
    have hcz_0 : w5.cell? ⟨gb, 0, none⟩ = some (.int .i64 a0_0) := (blk_cell BK.out 0).trans rfl
    have hcz_1 : w5.cell? ⟨gb, 1, none⟩ = some (.slice A0_1 l0_1.length c0_1) := (blk_cell BK.out 1).trans rfl
    cases bad <;> (go_wp2; go_ret2; exact ⟨_, rfl, Kd.R_nil _ _ _ _ _, HB.out⟩)
  | true =>
    rw [if_pos rfl] at h
    by_cases hne : l2.length ≠ l0_1.length
    · rw [if_pos hne] at h
      simp only [Option.some.injEq, Prod.mk.injEq] at h
      obtain ⟨rfl, rfl⟩ := h
      have hd2 : ((l2.length : Int) != (l0_1.length : Int)) = true := by rw [bne_iff_ne]; omega
      clear hne
      go_enter Try.func27, Try.ntmps27
      go_wp2_with (first | ((with_reducible refine gate_dst (N := 3) rfl ?_); refine box_event ?hg (N := 3) ?hd (cs := #[.int .i64 a0_0, .slice A0_1 l0_1.length c0_1]) (t := 29) ?hr ?_; (case hd => rfl); (case hg => rfl); (case hr => first | (go_simp; done) | (go_simp; rfl)); intro gb hg w3 hbox hb; have n0_ := Aside0.mk (below_step (by repeat (first | exact HB.out | apply below_alloc | apply pw_below_drewN | apply below_drew1)) hb); have n1_ := Aside0.mk hbox; clear HB; have HB := n0_; have BK := n1_; clear n0_ n1_; clear hb hbox hg))
      refine (slices_ContainsFunc_int_int.at 61 (enters_ Try.func61 (by kernel_rfl) rfl) #[] (fun x => !(decide (0 ≤ x ∧ x ≤ 100))) A2 c2 l2 _ (Kd.C_below HR2.out HB.out) (fun W x _ _ => impl_CountSteps.clo W x)).mono ?_
      rw [HBAD.out]
      rintro e w4 ⟨rfl, hb4⟩
      have HB4 := Aside0.mk (below_then HB.out HB.out.size hb4)
      have BK4 := Aside0.mk (blk_below BK.out hb4)
      clear hb4 HB BK
      have HB := HB4
      have BK := BK4
      clear HB4 BK4
      have hcz_0 : w4.cell? ⟨gb, 0, none⟩ = some (.int .i64 a0_0) := (blk_cell BK.out 0).trans rfl
      have hcz_1 : w4.cell? ⟨gb, 1, none⟩ = some (.slice A0_1 l0_1.length c0_1) := (blk_cell BK.out 1).trans rfl
      go_wp2_with fail
      refine (impl_markOk.calls k a0_0 A0_1 c0_1 l0_1 A1 c1 l1 true _ (Kd.C_below HR0_1.out (by repeat (first | exact HB.out | apply below_alloc | apply pw_below_drewN | apply below_drew1))) HC0_1.out (Kd.C_below HR1.out (by repeat (first | exact HB.out | apply below_alloc | apply pw_below_drewN | apply below_drew1))) HC1.out HT.out).mono ?_
      rintro e w5 ⟨rfl, hb5⟩
      have HB5 : Aside0 (Below w.heap.size w w5) := ⟨cs_then (by repeat (first | exact HB.out | apply below_alloc | apply pw_below_drewN | apply below_drew1)) hb5⟩
      have BK5 := Aside0.mk (blk_below (blk_below BK.out (by repeat (first | exact Below.refl _ _ | apply below_alloc | apply pw_below_drewN | apply below_drew1))) hb5)
      clear hb5 HB BK hcz_0 hcz_1
      have HB := HB5
      have BK := BK5
      clear HB5 BK5
      have hcz_0 : w5.cell? ⟨gb, 0, none⟩ = some (.int .i64 a0_0) := (blk_cell BK.out 0).trans rfl
      have hcz_1 : w5.cell? ⟨gb, 1, none⟩ = some (.slice A0_1 l0_1.length c0_1) := (blk_cell BK.out 1).trans rfl
      cases bad <;> (go_wp2; go_ret2; exact ⟨_, rfl, Kd.R_nil _ _ _ _ _, HB.out⟩)
    · rw [if_neg hne] at h
      have hd2 : ((l2.length : Int) != (l0_1.length : Int)) = false := by rw [bne_eq_false_iff_eq]; omega
      have HNE := Aside0.mk (show l2.length = l0_1.length by omega)
      clear hne
      cases bad with
      | true =>
        rw [if_pos rfl] at h
        simp only [Option.some.injEq, Prod.mk.injEq] at h
        obtain ⟨rfl, rfl⟩ := h
        go_enter Try.func27, Try.ntmps27
        go_wp2_with (first | ((with_reducible refine gate_dst (N := 3) rfl ?_); refine box_event ?hg (N := 3) ?hd (cs := #[.int .i64 a0_0, .slice A0_1 l0_1.length c0_1]) (t := 29) ?hr ?_; (case hd => rfl); (case hg => rfl); (case hr => first | (go_simp; done) | (go_simp; rfl)); intro gb hg w3 hbox hb; have n0_ := Aside0.mk (below_step (by repeat (first | exact HB.out | apply below_alloc | apply pw_below_drewN | apply below_drew1)) hb); have n1_ := Aside0.mk hbox; clear HB; have HB := n0_; have BK := n1_; clear n0_ n1_; clear hb hbox hg))
        refine (slices_ContainsFunc_int_int.at 61 (enters_ Try.func61 (by kernel_rfl) rfl) #[] (fun x => !(decide (0 ≤ x ∧ x ≤ 100))) A2 c2 l2 _ (Kd.C_below HR2.out HB.out) (fun W x _ _ => impl_CountSteps.clo W x)).mono ?_
        rw [HBAD.out]
        rintro e w4 ⟨rfl, hb4⟩
        have HB4 := Aside0.mk (below_then HB.out HB.out.size hb4)
        have BK4 := Aside0.mk (blk_below BK.out hb4)
        clear hb4 HB BK
        have HB := HB4
        have BK := BK4
        clear HB4 BK4
        have hcz_0 : w4.cell? ⟨gb, 0, none⟩ = some (.int .i64 a0_0) := (blk_cell BK.out 0).trans rfl
        have hcz_1 : w4.cell? ⟨gb, 1, none⟩ = some (.slice A0_1 l0_1.length c0_1) := (blk_cell BK.out 1).trans rfl
        go_wp2_with fail
        refine (impl_markOk.calls k a0_0 A0_1 c0_1 l0_1 A1 c1 l1 true _ (Kd.C_below HR0_1.out (by repeat (first | exact HB.out | apply below_alloc | apply pw_below_drewN | apply below_drew1))) HC0_1.out (Kd.C_below HR1.out (by repeat (first | exact HB.out | apply below_alloc | apply pw_below_drewN | apply below_drew1))) HC1.out HT.out).mono ?_
        rintro e w5 ⟨rfl, hb5⟩
        have HB5 : Aside0 (Below w.heap.size w w5) := ⟨cs_then (by repeat (first | exact HB.out | apply below_alloc | apply pw_below_drewN | apply below_drew1)) hb5⟩
        have BK5 := Aside0.mk (blk_below (blk_below BK.out (by repeat (first | exact Below.refl _ _ | apply below_alloc | apply pw_below_drewN | apply below_drew1))) hb5)
        clear hb5 HB BK hcz_0 hcz_1
        have HB := HB5
        have BK := BK5
        clear HB5 BK5
        have hcz_0 : w5.cell? ⟨gb, 0, none⟩ = some (.int .i64 a0_0) := (blk_cell BK.out 0).trans rfl
        have hcz_1 : w5.cell? ⟨gb, 1, none⟩ = some (.slice A0_1 l0_1.length c0_1) := (blk_cell BK.out 1).trans rfl
        go_wp2
        go_ret2
        exact ⟨_, rfl, Kd.R_nil _ _ _ _ _, HB.out⟩
      | false =>
        rw [if_neg (by decide)] at h
        by_cases hml : l1.length < 17592186044416
        · rw [if_pos hml] at h
          obtain ⟨p1, hp, h⟩ := Option.bind_eq_some_iff.1 h
          simp only [Option.some.injEq, Prod.mk.injEq] at h
          obtain ⟨rfl, rfl⟩ := h
          have HP := Aside0.mk hp
          have HCL := Aside0.mk (show slices_Clone_int_int.f l1 = some l1 by unfold slices_Clone_int_int.f; rw [if_pos hml])
          clear hp hml
          go_enter Try.func27, Try.ntmps27
          go_wp2_with (first | ((with_reducible refine gate_dst (N := 3) rfl ?_); refine box_event ?hg (N := 3) ?hd (cs := #[.int .i64 a0_0, .slice A0_1 l0_1.length c0_1]) (t := 29) ?hr ?_; (case hd => rfl); (case hg => rfl); (case hr => first | (go_simp; done) | (go_simp; rfl)); intro gb hg w3 hbox hb; have n0_ := Aside0.mk (below_step (by repeat (first | exact HB.out | apply below_alloc | apply pw_below_drewN | apply below_drew1)) hb); have n1_ := Aside0.mk hbox; clear HB; have HB := n0_; have BK := n1_; clear n0_ n1_; clear hb hbox hg))
          refine (slices_ContainsFunc_int_int.at 61 (enters_ Try.func61 (by kernel_rfl) rfl) #[] (fun x => !(decide (0 ≤ x ∧ x ≤ 100))) A2 c2 l2 _ (Kd.C_below HR2.out HB.out) (fun W x _ _ => impl_CountSteps.clo W x)).mono ?_
          rw [HBAD.out]
          rintro e w4 ⟨rfl, hb4⟩
          have HB4 := Aside0.mk (below_then HB.out HB.out.size hb4)
          have BK4 := Aside0.mk (blk_below BK.out hb4)
          clear hb4 HB BK
          have HB := HB4
          have BK := BK4
          clear HB4 BK4
          have hcz_0 : w4.cell? ⟨gb, 0, none⟩ = some (.int .i64 a0_0) := (blk_cell BK.out 0).trans rfl
          have hcz_1 : w4.cell? ⟨gb, 1, none⟩ = some (.slice A0_1 l0_1.length c0_1) := (blk_cell BK.out 1).trans rfl
          go_wp2_with fail
          refine (impl_markOk.calls k a0_0 A0_1 c0_1 l0_1 A1 c1 l1 true _ (Kd.C_below HR0_1.out (by repeat (first | exact HB.out | apply below_alloc | apply pw_below_drewN | apply below_drew1))) HC0_1.out (Kd.C_below HR1.out (by repeat (first | exact HB.out | apply below_alloc | apply pw_below_drewN | apply below_drew1))) HC1.out HT.out).mono ?_
          rintro e w5 ⟨rfl, hb5⟩
          have HB5 : Aside0 (Below w.heap.size w w5) := ⟨cs_then (by repeat (first | exact HB.out | apply below_alloc | apply pw_below_drewN | apply below_drew1)) hb5⟩
          have BK5 := Aside0.mk (blk_below (blk_below BK.out (by repeat (first | exact Below.refl _ _ | apply below_alloc | apply pw_below_drewN | apply below_drew1))) hb5)
          clear hb5 HB BK hcz_0 hcz_1
          have HB := HB5
          have BK := BK5
          clear HB5 BK5
          have hcz_0 : w5.cell? ⟨gb, 0, none⟩ = some (.int .i64 a0_0) := (blk_cell BK.out 0).trans rfl
          have hcz_1 : w5.cell? ⟨gb, 1, none⟩ = some (.slice A0_1 l0_1.length c0_1) := (blk_cell BK.out 1).trans rfl
          go_wp2_with fail
          refine (slices_Clone_int_int.calls A1 c1 l1 l1 _ (Kd.C_below HR1.out (by repeat (first | exact HB.out | apply below_alloc | apply pw_below_drewN | apply below_drew1))) HC1.out HCL.out).mono ?_
          rintro e w6 ⟨v0, rfl, hr6, hb6⟩
          have HO : Aside0 (Kd.R (Kd.int .i64) 3 w6 w.heap.size (fun _ => True) v0 l1) := ⟨Kd.R_lower hr6 (Below.size (B := w.heap.size) (by repeat (first | exact HB.out | apply below_alloc | apply pw_below_drewN | apply below_drew1)))⟩
          have BK6 := Aside0.mk (blk_below (blk_below BK.out (by repeat (first | exact Below.refl _ _ | apply below_alloc | apply pw_below_drewN | apply below_drew1))) hb6)
          have HB6 : Aside0 (Below w.heap.size w w6) := ⟨cs_then (by repeat (first | exact HB.out | apply below_alloc | apply pw_below_drewN | apply below_drew1)) hb6⟩
          clear hr6 hb6 HB BK hcz_0 hcz_1
          have HB := HB6
          clear HB6
          have hcz_1 : w6.cell? ⟨gb, 1, none⟩ = some (.slice A0_1 l0_1.length c0_1) := (blk_cell BK6.out 1).trans rfl
          obtain ⟨Ao, co, eo⟩ := Kd.R_slice HO.out
          subst eo
          obtain ⟨xl, hxl⟩ : ∃ xl, xl = l1.length := ⟨_, rfl⟩
          rw [← hxl] at HO
          rw [← hxl]
          clear hxl
          go_wp2_with fail
          go_loopg [38] l0_1.length (fun kq v38 w' => ∃ (x : List Int) (j : Nat), v38 = .int .i64 (j : Int) ∧ Aside0 (kq + j = l0_1.length) ∧ Aside0 (countGo l2 (l0_1.drop j) j x = some p1) ∧ Aside0 (Kd.R (Kd.int .i64) 3 w' w.heap.size (fun _ => True) (.slice Ao xl co) x) ∧ Aside0 (Below w.heap.size w w'))
          case atStart => exact ⟨_, 0, rfl, ⟨by omega⟩, ⟨by simpa using HP.out⟩, HO, HB⟩
          case round =>
            clear HO HB HP BK6 hcz_1
            obtain ⟨x0, j, rfl, HJ, HP, HO, HB⟩ := hrel
            by_cases hlt : j < l0_1.length
            · obtain ⟨ad, B0, d0, B1, d1, ea, hx0, hx1, hd0, hi0, hd1, hi1⟩ := at_T60 HR0_1.out (j : Int) (by omega) (by omega)
              cases ea
              rw [Int.toNat_natCast] at hx0 hx1
              have lx0 := World.block_lt_of_cell? w _ hx0
              have lx1 := World.block_lt_of_cell? w _ hx1
              obtain ⟨s, hs⟩ : ∃ s, s = rd_T60 l0_1 (j : Int) := ⟨_, rfl⟩
              have hdr : l0_1.drop j = s :: l0_1.drop (j + 1) := by
                rw [hs, List.drop_eq_getElem_cons hlt]; unfold rd_T60; rw [Int.toNat_natCast, List.getD_eq_getElem?_getD, List.getElem?_eq_getElem hlt]; rfl
              rw [← hs] at hx0 hx1 hi0 hi1 hd0 hd1
              have hp := HP.out
              rw [hdr] at hp
              simp only [countGo] at hp
              rw [if_pos (by have := HNE.out; omega)] at hp
              obtain ⟨cc, hcc0⟩ : ∃ cc, cc = rd l2 (j : Int) := ⟨_, rfl⟩
              rw [← hcc0] at hp
              obtain ⟨y1, hy1, hp⟩ := Option.bind_eq_some_iff.1 hp
              obtain ⟨z, hz, hp⟩ := Option.bind_eq_some_iff.1 hp
              have HCC := Aside0.mk hcc0
              have HY1 := Aside0.mk hy1
              have HZ := Aside0.mk hz
              have HG2 := Aside0.mk hp
              have HJL := Aside0.mk (show j < l2.length by have := HNE.out; omega)
              have HJL0 := Aside0.mk hlt
              have HI0 := Aside0.mk hi0
              have HI1 := Aside0.mk hi1
              have hx0' := (HB.out.cell lx0).trans hx0
              have hx1' := (HB.out.cell lx1).trans hx1
              clear hx0 hx1 lx0 lx1 hi0 hi1 hs hdr hp hy1 hz hcc0
              cases gk with
              | zero => exact absurd HJ.out (by omega)
              | succ k1 =>
                have BS : Aside0 ((wr.alloc (.cells #[.slice B0 s.f0.length d0, .slice B1 s.f1.length d1] 60)).heap[wr.heap.size]? = some (.cells #[.slice B0 s.f0.length d0, .slice B1 s.f1.length d1] 60 (0, 0))) := ⟨heap_alloc_new _ _⟩
                have HO1 := Aside0.mk (Kd.R_alloc HO.out (.cells #[.slice B0 s.f0.length d0, .slice B1 s.f1.length d1] 60))
                have HB1 := Aside0.mk (below_alloc HB.out (.cells #[.slice B0 s.f0.length d0, .slice B1 s.f1.length d1] 60))
                clear HO HB
                have HO := HO1
                have HB := HB1
                clear HO1 HB1
                go_wp2_with fail
                generalize wr.heap.size = gs at BS ⊢
                clear hx0' hx1'
                go_loopg [46] s.f0.length (fun kq v46 w' => ∃ (x : List Int) (q : Nat), v46 = .int .i64 (q : Int) ∧ Aside0 (kq + q = s.f0.length) ∧ Aside0 (addAll (-cc) (s.f0.drop q) x = some y1) ∧ Aside0 (Kd.R (Kd.int .i64) 3 w' w.heap.size (fun _ => True) (.slice Ao xl co) x) ∧ Aside0 (w'.heap[gs]? = some (.cells #[.slice B0 s.f0.length d0, .slice B1 s.f1.length d1] 60 (0, 0))) ∧ Aside0 (Below w.heap.size w w'))
                case atStart => exact ⟨_, 0, rfl, ⟨by omega⟩, ⟨by simpa using HY1.out⟩, HO, BS, HB⟩
                case round =>
                  clear HO BS HB
                  obtain ⟨x, q, rfl, HK2, HA, HO, BS, HB⟩ := hrel
                  have EXL := Aside0.mk (show xl = x.length from (Kd.R_reads' HO.out).1)
                  by_cases hlt2 : q < s.f0.length
                  · obtain ⟨adk, ek, hxk⟩ := Kd.at_int (Kd.C_below HI0.out HB.out) (q : Int) (by omega) (by omega)
                    cases ek
                    rw [Int.toNat_natCast] at hxk
                    have hA := HA.out
                    rw [addAll_drop _ _ _ hlt2] at hA
                    by_cases hp : 0 ≤ rd s.f0 q ∧ rd s.f0 q < x.length
                    · rw [if_pos hp] at hA
                      obtain ⟨p, hpp⟩ : ∃ p, p = rd s.f0 q := ⟨_, rfl⟩
                      rw [← hpp] at hxk hA hp
                      obtain ⟨y, hy⟩ : ∃ y, y = x.set p.toNat (wrap64 (rd x p + (-cc))) := ⟨_, rfl⟩
                      rw [← hy] at hA
                      have HY := Aside0.mk hy
                      have HA2 := Aside0.mk hA
                      clear hy hA HA hpp
                      obtain ⟨p16, q16⟩ := hp
                      have exl := EXL.out
                      clear EXL
                      subst exl
                      obtain ⟨go16, co16, eo16, gb16, gl16, cl16, HG16⟩ := Kd.R_form HO.out (by omega)
                      injection eo16 with ea_ en_ ec_
                      subst ea_
                      subst ec_
                      clear en_
                      obtain ⟨hx16_0, hf16_0⟩ := Kd.R_celln 0 HO.out p p16 q16
                      have GB16 := Aside0.mk gb16
                      clear gb16 gl16 HG16
                      obtain ⟨adc, ec, hcc⟩ := Kd.at_int (Kd.C_below HR2.out HB.out) (j : Int) (by omega) (by have := HJL.out; omega)
                      cases ec
                      rw [Int.toNat_natCast, ← HCC.out] at hcc
                      have HP18 := Kd.R_putg HO.out p (wrap64 (rd x p + (-cc)))
                      rw [← HY.out] at HP18
                      replace p16 := eq_true p16
                      replace q16 := eq_true q16
                      have hjl2 : ((j : Int) < (l2.length : Int)) = True := eq_true (by have := HJL.out; omega)
                      have hjl3 : (j < l2.length) = True := eq_true (by have := HJL.out; omega)
                      cases gk with
                      | zero => exact absurd HK2.out (by omega)
                      | succ k2 =>
                        go_wp2_with fail
                        refine start_ (n := 11) (S := fun w' => w'.cell? ⟨go16, (p : Int).toNat, none⟩ = some (.int .i64 (rd x p)) ∧ w'.cell? (adc.add j) = some (.int .i64 cc)) (ds := [10]) #[false, false, false, false, false, false, false, false, false, false, false] (by kernel_rfl) rfl rfl ⟨hx16_0, hcc⟩ (fun hHeld => ?_)
                        refine pure_ (i := 0) (N := some 50) (v := ?_) (a' := ?_) #[true, false, false, false, false, false, false, false, false, false, false] rfl rfl (by kernel_rfl) (fun _ _ _ h => h) (Or.inl ⟨by rfl, ?_⟩) ?_ ?_
                        rotate_left
                        · intro w'
                          go_simp
                          with_reducible rfl
                        rotate_left
                        · simp only [Act.put, List.setIfInBounds_toArray, List.set_cons_zero, List.set_cons_succ, i64_w, i32_w]
                          rfl
                        refine pure_ (i := 1) (N := some 51) (v := ?_) (a' := ?_) #[true, true, false, false, false, false, false, false, false, false, false] rfl rfl (by kernel_rfl) (fun _ _ _ h => h) (Or.inl ⟨by rfl, ?_⟩) ?_ ?_
                        rotate_left
                        · intro w'
                          go_simp
                          with_reducible rfl
                        rotate_left
                        · simp only [Act.put, List.setIfInBounds_toArray, List.set_cons_zero, List.set_cons_succ, i64_w, i32_w]
                          rfl
                        refine pure_ (i := 2) (N := some 52) (v := ?_) (a' := ?_) #[true, true, true, false, false, false, false, false, false, false, false] rfl rfl (by kernel_rfl) (fun _ _ _ h => h) (Or.inl ⟨by rfl, ?_⟩) ?_ ?_
                        rotate_left
                        · intro w'
                          go_simp
                          with_reducible rfl
                        rotate_left
                        · simp only [Act.put, List.setIfInBounds_toArray, List.set_cons_zero, List.set_cons_succ, i64_w, i32_w]
                          rfl
                        refine take_ (i := 3) (N := some 53) (v := ?_) (a' := ?_) #[true, true, true, true, false, false, false, false, false, false, false] rfl rfl (by kernel_rfl) (fun _ _ _ h => h) (Or.inl ⟨by rfl, ?_⟩) hHeld ?_ ?_
                        rotate_left
                        · rintro w' ⟨s0, s1⟩
                          go_simp
                          with_reducible rfl
                        rotate_left
                        · simp only [Act.put, List.setIfInBounds_toArray, List.set_cons_zero, List.set_cons_succ, i64_w, i32_w]
                          rfl
                        refine pure_ (i := 4) (N := some 54) (v := ?_) (a' := ?_) #[true, true, true, true, true, false, false, false, false, false, false] rfl rfl (by kernel_rfl) (fun _ _ _ h => h) (Or.inl ⟨by rfl, ?_⟩) ?_ ?_
                        rotate_left
                        · intro w'
                          go_simp
                          with_reducible rfl
                        rotate_left
                        · simp only [Act.put, List.setIfInBounds_toArray, List.set_cons_zero, List.set_cons_succ, i64_w, i32_w]
                          rfl
                        refine pure_ (i := 5) (N := some 55) (v := ?_) (a' := ?_) #[true, true, true, true, true, true, false, false, false, false, false] rfl rfl (by kernel_rfl) (fun _ _ _ h => h) (Or.inl ⟨by rfl, ?_⟩) ?_ ?_
                        rotate_left
                        · intro w'
                          go_simp
                          with_reducible rfl
                        rotate_left
                        · simp only [Act.put, List.setIfInBounds_toArray, List.set_cons_zero, List.set_cons_succ, i64_w, i32_w]
                          rfl
                        refine pure_ (i := 6) (N := some 56) (v := ?_) (a' := ?_) #[true, true, true, true, true, true, true, false, false, false, false] rfl rfl (by kernel_rfl) (fun _ _ _ h => h) (Or.inl ⟨by rfl, ?_⟩) ?_ ?_
                        rotate_left
                        · intro w'
                          go_simp
                          with_reducible rfl
                        rotate_left
                        · simp only [Act.put, List.setIfInBounds_toArray, List.set_cons_zero, List.set_cons_succ, i64_w, i32_w]
                          rfl
                        refine take_ (i := 7) (N := some 57) (v := ?_) (a' := ?_) #[true, true, true, true, true, true, true, true, false, false, false] rfl rfl (by kernel_rfl) (fun _ _ _ h => h) (Or.inl ⟨by rfl, ?_⟩) hHeld ?_ ?_
                        rotate_left
                        · rintro w' ⟨s0, s1⟩
                          go_simp
                          with_reducible rfl
                        rotate_left
                        · simp only [Act.put, List.setIfInBounds_toArray, List.set_cons_zero, List.set_cons_succ, i64_w, i32_w]
                          rfl
                        refine pure_ (i := 8) (N := some 58) (v := ?_) (a' := ?_) #[true, true, true, true, true, true, true, true, true, false, false] rfl rfl (by kernel_rfl) (fun _ _ _ h => h) (Or.inl ⟨by rfl, ?_⟩) ?_ ?_
                        rotate_left
                        · intro w'
                          go_simp
                          with_reducible rfl
                        rotate_left
                        · simp only [Act.put, List.setIfInBounds_toArray, List.set_cons_zero, List.set_cons_succ, i64_w, i32_w]
                          rfl
                        refine pure_ (i := 9) (N := some 59) (v := ?_) (a' := ?_) #[true, true, true, true, true, true, true, true, true, true, false] rfl rfl (by kernel_rfl) (fun _ _ _ h => h) (Or.inl ⟨by rfl, ?_⟩) ?_ ?_
                        rotate_left
                        · intro w'
                          go_simp
                          with_reducible rfl
                        rotate_left
                        · simp only [Act.put, List.setIfInBounds_toArray, List.set_cons_zero, List.set_cons_succ, i64_w, i32_w]
                          rfl
                        refine last_ (i := 10) (N := none) #[true, true, true, true, true, true, true, true, true, true, true] rfl rfl (by kernel_rfl) (by decide) (fun K hK => ?_)
                        refine skip_ (w1 := ?_) (by rfl) rfl ?_ ?_
                        rotate_left
                        · go_simp
                          rfl
                        refine hK.out _ _ ?_
                        clear hK K
                        refine done_ (by kernel_rfl) ?_
                        try go_wp2
                        go_roundg k2
                        case measure => omega
                        case rel => exact ⟨y, q + 1, by have hlen := HI0.out.2.1; congr 1; unfold wrap64; omega, ⟨by have := HK2.out; omega⟩, HA2, ⟨by exact Kd.R_drew HP18.1⟩, ⟨by exact blk_drew (blk_grown BS.out HP18.2 (Kd.R_ne HO.out BS.out (by decide)))⟩, ⟨by exact below_drew1 (below_set HB.out GB16.out)⟩⟩
                    · rw [if_neg hp] at hA; cases hA
                  · have hlt3 : decide (q < s.f0.length) = false := decide_eq_false hlt2
                    have ex : x = y1 := by
                      have hA := HA.out
                      rw [List.drop_of_length_le (by omega)] at hA
                      exact Option.some.inj hA
                    subst ex
                    clear HA HK2
                    have c91 : wr.cell? ⟨gs, 1, none⟩ = some (.slice B1 s.f1.length d1) := (blk_cell BS.out 1).trans rfl
                    have c90 : wr.cell? ⟨gs, 0, none⟩ = some (.slice B0 s.f0.length d0) := (blk_cell BS.out 0).trans rfl
                    go_wp2_with fail
                    go_loopg [64] s.f1.length (fun kq v64 w' => ∃ (x : List Int) (q : Nat), v64 = .int .i64 (q : Int) ∧ Aside0 (kq + q = s.f1.length) ∧ Aside0 (addAll cc (s.f1.drop q) x = some z) ∧ Aside0 (Kd.R (Kd.int .i64) 3 w' w.heap.size (fun _ => True) (.slice Ao xl co) x) ∧ Aside0 (w'.heap[gs]? = some (.cells #[.slice B0 s.f0.length d0, .slice B1 s.f1.length d1] 60 (0, 0))) ∧ Aside0 (Below w.heap.size w w'))
                    case atStart => exact ⟨_, 0, rfl, ⟨by omega⟩, ⟨by simpa using HZ.out⟩, HO, BS, HB⟩
                    case round =>
                      clear HO BS HB
                      obtain ⟨x, q, rfl, HK2, HA, HO, BS, HB⟩ := hrel
                      have EXL := Aside0.mk (show xl = x.length from (Kd.R_reads' HO.out).1)
                      by_cases hlt2 : q < s.f1.length
                      · obtain ⟨adk, ek, hxk⟩ := Kd.at_int (Kd.C_below HI1.out HB.out) (q : Int) (by omega) (by omega)
                        cases ek
                        rw [Int.toNat_natCast] at hxk
                        have hA := HA.out
                        rw [addAll_drop _ _ _ hlt2] at hA
                        by_cases hp : 0 ≤ rd s.f1 q ∧ rd s.f1 q < x.length
                        · rw [if_pos hp] at hA
                          obtain ⟨p, hpp⟩ : ∃ p, p = rd s.f1 q := ⟨_, rfl⟩
                          rw [← hpp] at hxk hA hp
                          obtain ⟨y, hy⟩ : ∃ y, y = x.set p.toNat (wrap64 (rd x p + cc)) := ⟨_, rfl⟩
                          rw [← hy] at hA
                          have HY := Aside0.mk hy
                          have HA2 := Aside0.mk hA
                          clear hy hA HA hpp
                          obtain ⟨p16, q16⟩ := hp
                          have exl := EXL.out
                          clear EXL
                          subst exl
                          obtain ⟨go16, co16, eo16, gb16, gl16, cl16, HG16⟩ := Kd.R_form HO.out (by omega)
                          injection eo16 with ea_ en_ ec_
                          subst ea_
                          subst ec_
                          clear en_
                          obtain ⟨hx16_0, hf16_0⟩ := Kd.R_celln 0 HO.out p p16 q16
                          have GB16 := Aside0.mk gb16
                          clear gb16 gl16 HG16
                          obtain ⟨adc, ec, hcc⟩ := Kd.at_int (Kd.C_below HR2.out HB.out) (j : Int) (by omega) (by have := HJL.out; omega)
                          cases ec
                          rw [Int.toNat_natCast, ← HCC.out] at hcc
                          have HP18 := Kd.R_putg HO.out p (wrap64 (rd x p + cc))
                          rw [← HY.out] at HP18
                          replace p16 := eq_true p16
                          replace q16 := eq_true q16
                          have hjl2 : ((j : Int) < (l2.length : Int)) = True := eq_true (by have := HJL.out; omega)
                          have hjl3 : (j < l2.length) = True := eq_true (by have := HJL.out; omega)
                          cases gk with
                          | zero => exact absurd HK2.out (by omega)
                          | succ k2 =>
                            go_wp2_with fail
                            refine start_ (n := 11) (S := fun w' => w'.cell? ⟨go16, (p : Int).toNat, none⟩ = some (.int .i64 (rd x p)) ∧ w'.cell? (adc.add j) = some (.int .i64 cc)) (ds := [10]) #[false, false, false, false, false, false, false, false, false, false, false] (by kernel_rfl) rfl rfl ⟨hx16_0, hcc⟩ (fun hHeld => ?_)
                            refine pure_ (i := 0) (N := some 68) (v := ?_) (a' := ?_) #[true, false, false, false, false, false, false, false, false, false, false] rfl rfl (by kernel_rfl) (fun _ _ _ h => h) (Or.inl ⟨by rfl, ?_⟩) ?_ ?_
                            rotate_left
                            · intro w'
                              go_simp
                              with_reducible rfl
                            rotate_left
                            · simp only [Act.put, List.setIfInBounds_toArray, List.set_cons_zero, List.set_cons_succ, i64_w, i32_w]
                              rfl
                            refine pure_ (i := 1) (N := some 69) (v := ?_) (a' := ?_) #[true, true, false, false, false, false, false, false, false, false, false] rfl rfl (by kernel_rfl) (fun _ _ _ h => h) (Or.inl ⟨by rfl, ?_⟩) ?_ ?_
                            rotate_left
                            · intro w'
                              go_simp
                              with_reducible rfl
                            rotate_left
                            · simp only [Act.put, List.setIfInBounds_toArray, List.set_cons_zero, List.set_cons_succ, i64_w, i32_w]
                              rfl
                            refine pure_ (i := 2) (N := some 70) (v := ?_) (a' := ?_) #[true, true, true, false, false, false, false, false, false, false, false] rfl rfl (by kernel_rfl) (fun _ _ _ h => h) (Or.inl ⟨by rfl, ?_⟩) ?_ ?_
                            rotate_left
                            · intro w'
                              go_simp
                              with_reducible rfl
                            rotate_left
                            · simp only [Act.put, List.setIfInBounds_toArray, List.set_cons_zero, List.set_cons_succ, i64_w, i32_w]
                              rfl
                            refine take_ (i := 3) (N := some 71) (v := ?_) (a' := ?_) #[true, true, true, true, false, false, false, false, false, false, false] rfl rfl (by kernel_rfl) (fun _ _ _ h => h) (Or.inl ⟨by rfl, ?_⟩) hHeld ?_ ?_
                            rotate_left
                            · rintro w' ⟨s0, s1⟩
                              go_simp
                              with_reducible rfl
                            rotate_left
                            · simp only [Act.put, List.setIfInBounds_toArray, List.set_cons_zero, List.set_cons_succ, i64_w, i32_w]
                              rfl
                            refine pure_ (i := 4) (N := some 72) (v := ?_) (a' := ?_) #[true, true, true, true, true, false, false, false, false, false, false] rfl rfl (by kernel_rfl) (fun _ _ _ h => h) (Or.inl ⟨by rfl, ?_⟩) ?_ ?_
                            rotate_left
                            · intro w'
                              go_simp
                              with_reducible rfl
                            rotate_left
                            · simp only [Act.put, List.setIfInBounds_toArray, List.set_cons_zero, List.set_cons_succ, i64_w, i32_w]
                              rfl
                            refine pure_ (i := 5) (N := some 73) (v := ?_) (a' := ?_) #[true, true, true, true, true, true, false, false, false, false, false] rfl rfl (by kernel_rfl) (fun _ _ _ h => h) (Or.inl ⟨by rfl, ?_⟩) ?_ ?_
                            rotate_left
                            · intro w'
                              go_simp
                              with_reducible rfl
                            rotate_left
                            · simp only [Act.put, List.setIfInBounds_toArray, List.set_cons_zero, List.set_cons_succ, i64_w, i32_w]
                              rfl
                            refine pure_ (i := 6) (N := some 74) (v := ?_) (a' := ?_) #[true, true, true, true, true, true, true, false, false, false, false] rfl rfl (by kernel_rfl) (fun _ _ _ h => h) (Or.inl ⟨by rfl, ?_⟩) ?_ ?_
                            rotate_left
                            · intro w'
                              go_simp
                              with_reducible rfl
                            rotate_left
                            · simp only [Act.put, List.setIfInBounds_toArray, List.set_cons_zero, List.set_cons_succ, i64_w, i32_w]
                              rfl
                            refine take_ (i := 7) (N := some 75) (v := ?_) (a' := ?_) #[true, true, true, true, true, true, true, true, false, false, false] rfl rfl (by kernel_rfl) (fun _ _ _ h => h) (Or.inl ⟨by rfl, ?_⟩) hHeld ?_ ?_
                            rotate_left
                            · rintro w' ⟨s0, s1⟩
                              go_simp
                              with_reducible rfl
                            rotate_left
                            · simp only [Act.put, List.setIfInBounds_toArray, List.set_cons_zero, List.set_cons_succ, i64_w, i32_w]
                              rfl
                            refine pure_ (i := 8) (N := some 76) (v := ?_) (a' := ?_) #[true, true, true, true, true, true, true, true, true, false, false] rfl rfl (by kernel_rfl) (fun _ _ _ h => h) (Or.inl ⟨by rfl, ?_⟩) ?_ ?_
                            rotate_left
                            · intro w'
                              go_simp
                              with_reducible rfl
                            rotate_left
                            · simp only [Act.put, List.setIfInBounds_toArray, List.set_cons_zero, List.set_cons_succ, i64_w, i32_w]
                              rfl
                            refine pure_ (i := 9) (N := some 77) (v := ?_) (a' := ?_) #[true, true, true, true, true, true, true, true, true, true, false] rfl rfl (by kernel_rfl) (fun _ _ _ h => h) (Or.inl ⟨by rfl, ?_⟩) ?_ ?_
                            rotate_left
                            · intro w'
                              go_simp
                              with_reducible rfl
                            rotate_left
                            · simp only [Act.put, List.setIfInBounds_toArray, List.set_cons_zero, List.set_cons_succ, i64_w, i32_w]
                              rfl
                            refine last_ (i := 10) (N := none) #[true, true, true, true, true, true, true, true, true, true, true] rfl rfl (by kernel_rfl) (by decide) (fun K hK => ?_)
                            refine skip_ (w1 := ?_) (by rfl) rfl ?_ ?_
                            rotate_left
                            · go_simp
                              rfl
                            refine hK.out _ _ ?_
                            clear hK K
                            refine done_ (by kernel_rfl) ?_
                            try go_wp2
                            go_roundg k2
                            case measure => omega
                            case rel => exact ⟨y, q + 1, by have hlen := HI1.out.2.1; congr 1; unfold wrap64; omega, ⟨by have := HK2.out; omega⟩, HA2, ⟨by exact Kd.R_drew HP18.1⟩, ⟨by exact blk_drew (blk_grown BS.out HP18.2 (Kd.R_ne HO.out BS.out (by decide)))⟩, ⟨by exact below_drew1 (below_set HB.out GB16.out)⟩⟩
                        · rw [if_neg hp] at hA; cases hA
                      · have hlt3 : decide (q < s.f1.length) = false := decide_eq_false hlt2
                        have ex : x = z := by
                          have hA := HA.out
                          rw [List.drop_of_length_le (by omega)] at hA
                          exact Option.some.inj hA
                        subst ex
                        clear HA HK2
                        go_wp2
                        go_roundg k1
                        case measure => omega
                        case rel => exact ⟨_, j + 1, by have := HLN.out; congr 1; unfold wrap64; omega, ⟨by have := HJ.out; omega⟩, HG2, HO, HB⟩
            · have hp := HP.out
              rw [List.drop_of_length_le (by omega)] at hp
              simp only [countGo, Option.some.injEq] at hp
              subst hp
              have hd : decide (j < l0_1.length) = false := decide_eq_false hlt
              go_wp2
              go_ret2
              exact ⟨_, rfl, HO.out, HB.out⟩
        · rw [if_neg hml] at h; cases h

/-! ### laws_markIntS: function 29 -/
def laws_markIntS.l0 : Nat → List Int → Int → Int → Option (Int × List Int)
  | 0, _, _, _ => none
  | k + 1, x0, x1, x5 => if x5 < (x0.length : Int) then (if 0 ≤ x5 then (laws_markIntS.l0 k (x0.set (x5 : Int).toNat x1) (wrap64 (x1 + 1)) (wrap64 (x5 + 1))) else (none)) else (some (x1, x0))
def laws_markIntS.f (k : Nat) (l0 : List Int) (a1 : Int) : Option (Int × List Int) := laws_markIntS.l0 k l0 a1 0
theorem laws_markIntS.mono_l : ∀ k, (∀ y0 y1 y2, LeO (laws_markIntS.l0 k y0 y1 y2) (laws_markIntS.l0 (k + 1) y0 y1 y2))
  | 0 => fun _ _ _ r h => by simp [laws_markIntS.l0] at h
  | k + 1 => by
    have ih0 := laws_markIntS.mono_l k
    · intro y0 y1 y2
      unfold laws_markIntS.l0
      repeat' first
      | (with_reducible exact ih0 _ _ _)
      | (with_reducible exact LeO.refl _)
      | (with_reducible exact LeO.none _)
      | (with_reducible refine LeO.ite ?_ ?_)
      | (with_reducible refine LeO.bind ?_ (fun _ => ?_))
      | exact ih0 _ _ _
      | exact LeO.none _
      | refine LeO.ite ?_ ?_
      | refine LeO.bind ?_ (fun _ => ?_)
theorem laws_markIntS.mono : ∀ a0 a1 k, LeO (laws_markIntS.f k a0 a1) (laws_markIntS.f (k + 1) a0 a1) := by
  intro a0 a1 k
  have ih0 := laws_markIntS.mono_l k
  unfold laws_markIntS.f
  repeat' first
      | (with_reducible exact ih0 _ _ _)
      | (with_reducible exact LeO.refl _)
      | (with_reducible exact LeO.none _)
      | (with_reducible refine LeO.ite ?_ ?_)
      | (with_reducible refine LeO.bind ?_ (fun _ => ?_))
      | exact ih0 _ _ _
      | exact LeO.none _
      | refine LeO.ite ?_ ?_
      | refine LeO.bind ?_ (fun _ => ?_)
set_option maxHeartbeats 8000000 in
set_option maxRecDepth 100000 in
theorem laws_markIntS.calls (k : Nat) (P0_ : Nat → Prop) (u9000_ : Value) (l0 : List Int) (a1 : Int) (r1 : Int) (r2 : List Int) (w0 w : World) (hB : Below w0.heap.size w0 w) (ho0 : Kd.R (Kd.int .i64) 3 w w0.heap.size P0_ u9000_ l0) (h : laws_markIntS.f k l0 a1 = some (r1, r2)) :
    Calls Try.prog 29 #[u9000_, .int .i64 a1] w fun e w' => e = .returned (.int .i64 r1) ∧ Kd.R (Kd.int .i64) 3 w' w0.heap.size (fun k_ => (P0_ k_ ∨ w.heap.size ≤ k_)) u9000_ r2 ∧ Below w0.heap.size w0 w' ∧ Kept w w' (fun k_ => P0_ k_) := by
  have HO0 := Aside0.mk (show Kd.R (Kd.int .i64) 3 w w0.heap.size (fun k_ => (P0_ k_ ∨ w.heap.size ≤ k_)) u9000_ l0 from Kd.R_mono ho0 (fun k_ hk => (.inl hk)))
  have HK := Aside0.mk (Kept.refl w (fun k_ => P0_ k_))
  have HW0 := Aside0.mk hB.size
  have HB := Aside0.mk hB
  clear hB
  have H : (laws_markIntS.l0 k l0 a1 0) = some (r1, r2) := h
  clear h
  have H' := Aside0.mk H
  clear H
  go_enter Try.func29, Try.ntmps29
  go_wp2
  go_loopg [1, 5] k (fun kq v1 v5 w' => ∃ (x0_1 : List Int) (x1_1 : Int) (x5_1 : Int), v1 = .int .i64 x1_1 ∧ v5 = .int .i64 x5_1 ∧ Aside0 (laws_markIntS.l0 kq x0_1 x1_1 x5_1 = some (r1, r2)) ∧ Aside0 (kq ≤ k) ∧ Aside0 (Kd.R (Kd.int .i64) 3 w' w0.heap.size (fun k_ => (P0_ k_ ∨ w.heap.size ≤ k_)) u9000_ x0_1) ∧ Aside0 (Kept w w' (fun k_ => P0_ k_)) ∧ Aside0 (Below w0.heap.size w0 w'))
  case atStart => exact ⟨(l0), (a1), (0), (by first | rfl | (simp; done) | (simp [*]; done)), (by first | rfl | (simp; done) | (simp [*]; done)), H', ⟨Nat.le_refl _⟩, ⟨by (with_reducible repeat (first | apply Kd.R_alloc | apply Kd.R_drewN | apply Kd.R_drew)); exact HO0.out⟩, ⟨by repeat (first | (with_reducible first | exact HK.out | apply Kept.alloc | apply Kept.drewN | apply Kept.drew) | exact HK.out)⟩, ⟨by repeat (first | (with_reducible first | exact HB.out | apply below_alloc | apply pw_below_drewN | apply below_drew1) | exact HB.out)⟩⟩
  case round =>
    clear H'
    try clear c2
    try clear p2
    obtain ⟨x0_1, x1_1, x5_1, rfl, rfl, HA, HK1, HO_0, HK, HB⟩ := hrel
    cases gk with
    | zero => exact absurd HA.out (by simp [laws_markIntS.l0])
    | succ k1 =>
      have H := HA.out
      clear HA
      simp only [laws_markIntS.l0] at H
      by_cases c3 : x5_1 < (x0_1.length : Int)
      · rw [if_pos c3] at H
        have c3b0 : decide (x5_1 < (x0_1.length : Int)) = true := decide_eq_true c3
        clear c3
        by_cases c4 : 0 ≤ x5_1
        · rw [if_pos c4] at H
          have c4b0 : decide (0 ≤ x5_1) = true := decide_eq_true c4
          clear c4
          obtain ⟨y188, hy188⟩ : ∃ y_ : List Int, y_ = (x0_1.set (x5_1 : Int).toNat x1_1) := ⟨_, rfl⟩
          replace H : (laws_markIntS.l0 k1 y188 (wrap64 (x1_1 + 1)) (wrap64 (x5_1 + 1))) = some (r1, r2) := by first | (rw [hy188]; with_reducible exact H) | (have H2_ := (Option.bind_some _ _).symm.trans H; rw [hy188]; with_reducible exact H2_) | (have H2_ := (Option.bind_some _ _).symm.trans H; with_reducible exact H2_) | with_reducible exact H | (rw [hy188]; exact H) | exact H
          have Ny188 := Aside0.mk hy188
          clear hy188
          have H' := Aside0.mk H
          clear H
          obtain ⟨Ao6, co6, eo6⟩ := Kd.R_slice HO_0.out
          subst eo6
          have p5 : 0 ≤ (x5_1 : Int) := of_decide_eq_true (by first | (with_reducible assumption) | assumption)
          have q5 : (x5_1 : Int) < ((x0_1.length : Int) : Int) := of_decide_eq_true (by first | (with_reducible assumption) | assumption)
          obtain ⟨go5, co5, eo5, gb5, gl5, cl5, HG5⟩ := Kd.R_form HO_0.out (by omega)
          (first | cases eo5 | (injection eo5 with ea_ en_ ec_; (first | subst ea_ | (injection ea_ with ea_; subst ea_)); subst ec_; clear en_))
          have GB5 := Aside0.mk gb5
          have GG5 := Aside0.mk HG5
          clear gb5 gl5 HG5
          have HMgo5 := Aside0.mk (show (P0_ go5 ∨ w.heap.size ≤ go5) from (HO_0.out.1 _ rfl))
          obtain ⟨hx5_0, hf5_0⟩ := Kd.R_celln 0 HO_0.out (x5_1 : Int) p5 q5
          replace p5 := eq_true p5
          replace q5 := eq_true q5
          have HP7 := Kd.R_putg HO_0.out (x5_1 : Int) x1_1
          go_wp2_with (first | ((with_reducible refine gate_store (t := 3) (p := 15) rfl ?_); refine store_event (t := 3) (p := 15) (v := ?vo_w8) (w1 := (wr.setCell ⟨go5, (x5_1 : Int).toNat, none⟩ (.int .i64 x1_1))) ?hg ?ho ?hn ?hr ?_; (case ho => rfl); (case hg => rfl); (case hn => rfl); (case hr => first | (go_simp; done) | (go_simp; rfl)); intro w8 hw; have hg : wr.grownBy w8 (some go5) := (by rw [hw]; exact HP7.2); have hp_ : Kd.R (Kd.int .i64) 3 w8 w0.heap.size (fun k_ => (P0_ k_ ∨ w.heap.size ≤ k_)) (.slice (some ⟨go5, 0, none⟩) x0_1.length co6) y188 := (by rw [hw, Ny188.out]; exact HP7.1); clear HP7; have n0_ := Aside0.mk (hp_); have n1_ := Aside0.mk ((by rw [hw]; exact below_set (HB.out) GB5.out : Below w0.heap.size w0 w8)); have n2_ := Aside0.mk (Kept.of_grown (S := (fun k_ => P0_ k_)) hg (by repeat (first | (with_reducible first | exact HK.out | apply Kept.alloc | apply Kept.drewN | apply Kept.drew) | exact HK.out)) (fun k_ e_ => (HO_0.out.1 k_ e_))); clear HO_0; clear HB; clear HK; have HO_0 := n0_; have HB := n1_; have HK := n2_; clear n0_ n1_ n2_; clear hg hw hp_))
          go_roundg k1
          case measure => have := HK1.out; omega
          case rel => exact ⟨(y188), (wrap64 (x1_1 + 1)), (wrap64 (x5_1 + 1)), (by first | rfl | (simp; done) | (simp [*]; done)), (by first | rfl | (simp; done) | (simp [*]; done)), H', ⟨by have := HK1.out; omega⟩, ⟨by (with_reducible repeat (first | apply Kd.R_alloc | apply Kd.R_drewN | apply Kd.R_drew)); exact HO_0.out⟩, ⟨by repeat (first | (with_reducible first | exact HK.out | apply Kept.alloc | apply Kept.drewN | apply Kept.drew) | exact HK.out)⟩, ⟨by repeat (first | (with_reducible first | exact HB.out | apply below_alloc | apply pw_below_drewN | apply below_drew1) | exact HB.out)⟩⟩
        · rw [if_neg c4] at H
          exact absurd H (by simp)
      · rw [if_neg c3] at H
        have c3b0 : decide (x5_1 < (x0_1.length : Int)) = false := decide_eq_false c3
        clear c3
        simp only [Option.some.injEq, Prod.mk.injEq] at H
        obtain ⟨rfl, rfl⟩ := H
        obtain ⟨Ao9, co9, eo9⟩ := Kd.R_slice HO_0.out
        subst eo9
        go_wp2
        go_ret
        exact ⟨by first | rfl | (simp [errW_none, errW_some] <;> rfl) | (simp [*, errW_none, errW_some] <;> rfl), by (with_reducible repeat (first | apply Kd.R_alloc | apply Kd.R_drewN | apply Kd.R_drew)); exact HO_0.out, by repeat (first | (with_reducible first | exact HB.out | apply below_alloc | apply pw_below_drewN | apply below_drew1) | exact HB.out), by repeat (first | (with_reducible first | exact HK.out | apply Kept.alloc | apply Kept.drewN | apply Kept.drew) | exact HK.out)⟩

/-! ### laws_heldIntS: function 30 -/
def laws_heldIntS.l0 : Nat → List Int → Int → Int → Option (Int)
  | 0, _, _, _ => none
  | k + 1, x0, x1, x5 => if x5 < (x0.length : Int) then (if 0 ≤ x5 then (if (rd x0 x5) = x1 then (laws_heldIntS.l0 k x0 (wrap64 (x1 + 1)) (wrap64 (x5 + 1))) else (some (-1))) else (none)) else (some x1)
def laws_heldIntS.f (k : Nat) (l0 : List Int) (a1 : Int) : Option (Int) := laws_heldIntS.l0 k l0 a1 0
theorem laws_heldIntS.mono_l : ∀ k, (∀ y0 y1 y2, LeO (laws_heldIntS.l0 k y0 y1 y2) (laws_heldIntS.l0 (k + 1) y0 y1 y2))
  | 0 => fun _ _ _ r h => by simp [laws_heldIntS.l0] at h
  | k + 1 => by
    have ih0 := laws_heldIntS.mono_l k
    · intro y0 y1 y2
      unfold laws_heldIntS.l0
      repeat' first
      | (with_reducible exact ih0 _ _ _)
      | (with_reducible exact LeO.refl _)
      | (with_reducible exact LeO.none _)
      | (with_reducible refine LeO.ite ?_ ?_)
      | (with_reducible refine LeO.bind ?_ (fun _ => ?_))
      | exact ih0 _ _ _
      | exact LeO.none _
      | refine LeO.ite ?_ ?_
      | refine LeO.bind ?_ (fun _ => ?_)
theorem laws_heldIntS.mono : ∀ a0 a1 k, LeO (laws_heldIntS.f k a0 a1) (laws_heldIntS.f (k + 1) a0 a1) := by
  intro a0 a1 k
  have ih0 := laws_heldIntS.mono_l k
  unfold laws_heldIntS.f
  repeat' first
      | (with_reducible exact ih0 _ _ _)
      | (with_reducible exact LeO.refl _)
      | (with_reducible exact LeO.none _)
      | (with_reducible refine LeO.ite ?_ ?_)
      | (with_reducible refine LeO.bind ?_ (fun _ => ?_))
      | exact ih0 _ _ _
      | exact LeO.none _
      | refine LeO.ite ?_ ?_
      | refine LeO.bind ?_ (fun _ => ?_)
set_option maxHeartbeats 8000000 in
set_option maxRecDepth 100000 in
theorem laws_heldIntS.calls (k : Nat) (A0 : Option Addr) (c0 : Nat) (l0 : List Int) (a1 : Int) (r : Int) (w : World) (hr0 : Kd.C (Kd.int .i64) w A0 l0.length l0) (hc0 : l0.length ≤ c0) (h : laws_heldIntS.f k l0 a1 = some r) :
    Calls Try.prog 30 #[.slice A0 l0.length c0, .int .i64 a1] w fun e w' => e = .returned (.int .i64 r) ∧ Drawn0 w w' := by
  have HR0 := Aside0.mk hr0
  have HC0 := Aside0.mk hc0
  clear hr0 hc0
  have H : (laws_heldIntS.l0 k l0 a1 0) = some r := h
  clear h
  have H' := Aside0.mk H
  clear H
  go_enter Try.func30, Try.ntmps30
  go_wp2
  go_loopg [1, 5] k (fun kq v1 v5 w' => ∃ (x1_1 : Int) (x5_1 : Int), v1 = .int .i64 x1_1 ∧ v5 = .int .i64 x5_1 ∧ Aside0 (laws_heldIntS.l0 kq l0 x1_1 x5_1 = some r) ∧ Aside0 (kq ≤ k) ∧ Drawn0 w w')
  case atStart => exact ⟨(a1), (0), (by first | rfl | (simp; done) | (simp [*]; done)), (by first | rfl | (simp; done) | (simp [*]; done)), H', ⟨Nat.le_refl _⟩, by repeat (first | exact Drawn0.refl _ | apply Drawn0.step)⟩
  case round =>
    clear H'
    try clear p2
    obtain ⟨x1_1, x5_1, rfl, rfl, HA, HK1, ⟨m1, rfl⟩⟩ := hrel
    cases gk with
    | zero => exact absurd HA.out (by simp [laws_heldIntS.l0])
    | succ k1 =>
      have H := HA.out
      clear HA
      simp only [laws_heldIntS.l0] at H
      by_cases c3 : x5_1 < (l0.length : Int)
      · rw [if_pos c3] at H
        have c3b0 : decide (x5_1 < (l0.length : Int)) = true := decide_eq_true c3
        clear c3
        by_cases c4 : 0 ≤ x5_1
        · rw [if_pos c4] at H
          have c4b0 : decide (0 ≤ x5_1) = true := decide_eq_true c4
          clear c4
          by_cases c5 : (rd l0 x5_1) = x1_1
          · rw [if_pos c5] at H
            have c5b0 : ((rd l0 x5_1) == x1_1) = true := beq_iff_eq.mpr c5
            have c5b1 : ((rd l0 x5_1) != x1_1) = false := bne_eq_false_iff_eq.mpr c5
            clear c5
            have H' := Aside0.mk H
            clear H
            have p189 : 0 ≤ (x5_1 : Int) := of_decide_eq_true (by first | (with_reducible assumption) | assumption)
            have q189 : x5_1 < (l0.length : Int) := of_decide_eq_true (by first | (with_reducible assumption) | assumption)
            obtain ⟨ad189, e189, hx189_0⟩ := Kd.at_int HR0.out x5_1 p189 q189
            cases e189
            replace p189 := eq_true p189
            replace q189 := eq_true q189
            go_wp2
            go_roundg k1
            case measure => have := HK1.out; omega
            case rel => exact ⟨(wrap64 (x1_1 + 1)), (wrap64 (x5_1 + 1)), (by first | rfl | (simp; done) | (simp [*]; done)), (by first | rfl | (simp; done) | (simp [*]; done)), H', ⟨by have := HK1.out; omega⟩, by repeat (first | exact Drawn0.refl _ | apply Drawn0.step)⟩
          · rw [if_neg c5] at H
            have c5b0 : ((rd l0 x5_1) == x1_1) = false := beq_eq_false_iff_ne.mpr c5
            have c5b1 : ((rd l0 x5_1) != x1_1) = true := bne_iff_ne.mpr c5
            obtain rfl := Option.some.inj H
            have p189 : 0 ≤ (x5_1 : Int) := of_decide_eq_true (by first | (with_reducible assumption) | assumption)
            have q189 : x5_1 < (l0.length : Int) := of_decide_eq_true (by first | (with_reducible assumption) | assumption)
            obtain ⟨ad189, e189, hx189_0⟩ := Kd.at_int HR0.out x5_1 p189 q189
            cases e189
            replace p189 := eq_true p189
            replace q189 := eq_true q189
            go_wp2
            go_ret
            exact ⟨by first | rfl | (simp; done) | (simp [*]; done), by repeat (first | exact Drawn0.refl _ | apply Drawn0.step)⟩
        · rw [if_neg c4] at H
          exact absurd H (by simp)
      · rw [if_neg c3] at H
        have c3b0 : decide (x5_1 < (l0.length : Int)) = false := decide_eq_false c3
        clear c3
        obtain rfl := Option.some.inj H
        go_wp2
        go_ret
        exact ⟨by first | rfl | (simp; done) | (simp [*]; done), by repeat (first | exact Drawn0.refl _ | apply Drawn0.step)⟩

end Go.Proofs.Ytnfafdlglhbijaa.PFnExactCountSteps
