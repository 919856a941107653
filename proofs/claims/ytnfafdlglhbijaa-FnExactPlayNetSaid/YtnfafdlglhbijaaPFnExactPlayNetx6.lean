-- written by xprint.py (a program of this session's, over the kit's print): printed functions, and some by hand
import Derived.Test.YtnfafdlglhbijaaPFnExactPlayNetx0
import Derived.Test.YtnfafdlglhbijaaPFnExactPlayNetx4
import Derived.Test.YtnfafdlglhbijaaPFnExactPlayNetx5
namespace Go.Proofs.Ytnfafdlglhbijaa.PFnExactPlayNet
open Go.RowKit Go.Proofs.YtnfafdlglhbijaaW.PrintWords Go.Proofs.YtnfafdlglhbijaaW.PrintLast Go.Proofs.YtnfafdlglhbijaaW.PrintMore
attribute [local go_sem] max2_int min2_int max_two min_two max_three min_three max_four min_four   -- for this text's walks alone
set_option linter.unusedVariables false
set_option linter.unusedSimpArgs false

/-! ### impl_PlayNet: function 34, by hand -/
def playGo (a0 : Int) (st : List S60) : List Int → List Int → Int → Option (List Int × Int)
  | [], now, many => some (now, many)
  | s :: l, now, many => (net_fired.f a0 st now s).bind fun r => if r.2 = true then playGo a0 st l r.1 (wrap64 (many + 1)) else playGo a0 st l now many
def impl_PlayNet.f (k : Nat) (a0_0 : Int) (l0_1 : List (S60)) (l1 l2 : List Int) : Option (List Int × Int × Bool) :=
  (impl_markOk.f k a0_0 l0_1 l1).bind fun t => if t = true then (if (l2.length : Int) > 200 then some ([], 0, false) else if l2.any (fun x => !(decide (0 ≤ x ∧ x ≤ (l0_1.length : Int) - 1))) = true then some ([], 0, false) else if l1.length < 17592186044416 then (playGo a0_0 l0_1 l2 l1 0).bind fun r => some (r.1, r.2, true) else none) else some ([], 0, false)
theorem impl_PlayNet.mono : ∀ a0 a1 a2 a3 k, LeO (impl_PlayNet.f k a0 a1 a2 a3) (impl_PlayNet.f (k + 1) a0 a1 a2 a3) := by
  intro a0 a1 a2 a3 k
  unfold impl_PlayNet.f
  exact LeO.bind (impl_markOk.mono _ _ _ _) (fun _ => LeO.refl _)
theorem play_then {w W w' : World} (h : Below w.heap.size w W) (hb : Below W.heap.size W w') : Below w.heap.size w w' := below_then h h.size hb
set_option maxHeartbeats 8000000 in
theorem impl_PlayNet.clo (gb : Nat) (a0 : Int) (A : Option Addr) (n c : Nat) (hn : n ≤ 9223372036854775807) (W : World) (hbk : W.heap[gb]? = some (.cells #[.int .i64 a0, .slice A n c] 29 (0, 0))) (x : Int) :
    Calls Try.prog 65 (#[.int .i64 x] ++ #[.pointer (some ⟨gb, 0, none⟩)]) W fun e w' => e = .returned (.bool (!(decide (0 ≤ x ∧ x ≤ ((n : Int) - 1))))) ∧ Below W.heap.size W w' := by
  have hz : W.cell? ⟨gb, 1, none⟩ = some (.slice A n c) := (blk_cell hbk 1).trans rfl
  have A1 := Aside0.mk (show impl_in.f x 0 (((n : Int) - 1)) = some (decide (0 ≤ x ∧ x ≤ ((n : Int) - 1))) by
    unfold impl_in.f
    by_cases h : x ≥ 0
    · rw [if_pos h]; congr 1; simp only [decide_eq_decide]; omega
    · rw [if_neg h, decide_eq_false (by omega)])
  obtain ⟨b, hb⟩ : ∃ b, b = decide (0 ≤ x ∧ x ≤ ((n : Int) - 1)) := ⟨_, rfl⟩
  rw [← hb] at A1 ⊢
  have hu29 := Try.underlying29
  clear hb hbk
  go_enter Try.func65, Try.ntmps65
  go_wp2_with fail
  refine (impl_in.calls x 0 (((n : Int) - 1)) b _ A1.out).mono ?_
  rintro e w' ⟨rfl, hd⟩
  have HB : Aside0 (Below W.heap.size W w') := ⟨play_then (by repeat (first | exact Below.refl _ _ | apply below_alloc | apply pw_below_drewN | apply below_drew1)) hd.below⟩
  clear hd
  go_wp2
  go_ret
  exact ⟨rfl, HB.out⟩
set_option maxHeartbeats 8000000 in
set_option maxRecDepth 100000 in
theorem impl_PlayNet.calls (k : Nat) (a0_0 : Int) (A0_1 : Option Addr) (c0_1 : Nat) (l0_1 : List (S60)) (A1 : Option Addr) (c1 : Nat) (l1 : List Int) (A2 : Option Addr) (c2 : Nat) (l2 : List Int) (r1 : List Int) (r2 : Int) (r3 : Bool) (w : World) (hr0_1 : Kd.C k60 w A0_1 l0_1.length l0_1) (hc0_1 : l0_1.length ≤ c0_1) (hr1 : Kd.C (Kd.int .i64) w A1 l1.length l1) (hc1 : l1.length ≤ c1) (hr2 : Kd.C (Kd.int .i64) w A2 l2.length l2) (hc2 : l2.length ≤ c2) (h : impl_PlayNet.f k a0_0 l0_1 l1 l2 = some (r1, r2, r3)) :
    Calls Try.prog 34 #[.agg #[.int .i64 a0_0, .slice A0_1 l0_1.length c0_1], .slice A1 l1.length c1, .slice A2 l2.length c2] w fun e w' => ∃ v0_ : Value, e = .returned (.tuple #[v0_, .int .i64 r2, .bool r3]) ∧ Kd.R (Kd.int .i64) 3 w' w.heap.size (fun _ => True) v0_ r1 ∧ Below w.heap.size w w' := by
  have hu29 := Try.underlying29
  have HLN := Aside0.mk hr0_1.2.1
  have HR0_1 := Aside0.mk hr0_1
  have HC0_1 := Aside0.mk hc0_1
  have HR1 := Aside0.mk hr1
  have HC1 := Aside0.mk hc1
  have HR2 := Aside0.mk hr2
  have HC2 := Aside0.mk hc2
  have HB := Aside0.mk (Below.refl w.heap.size w)
  clear hr0_1 hc0_1 hr1 hc1 hr2 hc2
  unfold impl_PlayNet.f at h
  obtain ⟨t, T, h⟩ := Option.bind_eq_some_iff.1 h
  have HT := Aside0.mk T
  clear T
  obtain ⟨bad, hbad⟩ : ∃ bad, l2.any (fun x => !(decide (0 ≤ x ∧ x ≤ (l0_1.length : Int) - 1))) = bad := ⟨_, rfl⟩
  rw [hbad] at h
  have HBAD := Aside0.mk hbad
  clear hbad
  cases t with
  | false =>
    rw [if_neg (by decide)] at h
    simp only [Option.some.injEq, Prod.mk.injEq] at h
    obtain ⟨rfl, rfl, rfl⟩ := h
    go_enter Try.func34, Try.ntmps34
    go_wp2_with (first | ((with_reducible refine gate_dst (N := 3) rfl ?_); refine box_event ?hg (N := 3) ?hd (cs := #[.int .i64 a0_0, .slice A0_1 l0_1.length c0_1]) (t := 29) ?hr ?_; (case hd => rfl); (case hg => rfl); (case hr => first | (go_simp; done) | (go_simp; rfl)); intro gb hg w3 hbox hb; have n0_ := Aside0.mk (below_step (by repeat (first | exact HB.out | apply below_alloc | apply pw_below_drewN | apply below_drew1)) hb); have n1_ := Aside0.mk hbox; clear HB; have HB := n0_; have BK := n1_; clear n0_ n1_; clear hb hbox hg))
    refine (slices_ContainsFunc_int_int.at 65 (enters_ Try.func65 (by kernel_rfl) rfl) #[.pointer (some ⟨gb, 0, none⟩)] (fun x => !(decide (0 ≤ x ∧ x ≤ (l0_1.length : Int) - 1))) A2 c2 l2 _ (Kd.C_below HR2.out HB.out) (fun W x _ hb => impl_PlayNet.clo gb a0_0 A0_1 l0_1.length c0_1 HLN.out W (blk_below BK.out hb) x)).mono ?_
    rw [HBAD.out]
    rintro e w4 ⟨rfl, hb4⟩
    have HB4 := Aside0.mk (below_then HB.out HB.out.size hb4)
    have BK4 := Aside0.mk (blk_below BK.out hb4)
    clear hb4 HB BK
    have HB := HB4
    have BK := BK4
    clear HB4 BK4
    have hcz_0 : w4.cell? ⟨gb, 0, none⟩ = some (.int .i64 a0_0) := (blk_cell BK.out 0).trans rfl
    have hcz_1 : w4.cell? ⟨gb, 1, none⟩ = some (.slice A0_1 l0_1.length c0_1) := (blk_cell BK.out 1).trans rfl
    go_wp2_with fail
    refine (impl_markOk.calls k a0_0 A0_1 c0_1 l0_1 A1 c1 l1 false _ (Kd.C_below HR0_1.out (by repeat (first | exact HB.out | apply below_alloc | apply pw_below_drewN | apply below_drew1))) HC0_1.out (Kd.C_below HR1.out (by repeat (first | exact HB.out | apply below_alloc | apply pw_below_drewN | apply below_drew1))) HC1.out HT.out).mono ?_
    rintro e w5 ⟨rfl, hb5⟩
    have HB5 : Aside0 (Below w.heap.size w w5) := ⟨play_then (by repeat (first | exact HB.out | apply below_alloc | apply pw_below_drewN | apply below_drew1)) hb5⟩
    have BK5 := Aside0.mk (blk_below (blk_below BK.out (by repeat (first | exact Below.refl _ _ | apply below_alloc | apply pw_below_drewN | apply below_drew1))) hb5)
    clear hb5 HB BK hcz_0 hcz_1
    have HB := HB5
    have BK := BK5
    clear HB5 BK5
    have hcz_0 : w5.cell? ⟨gb, 0, none⟩ = some (.int .i64 a0_0) := (blk_cell BK.out 0).trans rfl
    have hcz_1 : w5.cell? ⟨gb, 1, none⟩ = some (.slice A0_1 l0_1.length c0_1) := (blk_cell BK.out 1).trans rfl
    cases bad <;> (go_wp2; go_ret3; exact ⟨_, rfl, Kd.R_nil _ _ _ _ _, HB.out⟩)
  | true =>
    rw [if_pos rfl] at h
    by_cases h200 : (l2.length : Int) > 200
    · rw [if_pos h200] at h
      simp only [Option.some.injEq, Prod.mk.injEq] at h
      obtain ⟨rfl, rfl, rfl⟩ := h
      have hd2 : decide ((l2.length : Int) > 200) = true := decide_eq_true h200
      clear h200
      go_enter Try.func34, Try.ntmps34
      go_wp2_with (first | ((with_reducible refine gate_dst (N := 3) rfl ?_); refine box_event ?hg (N := 3) ?hd (cs := #[.int .i64 a0_0, .slice A0_1 l0_1.length c0_1]) (t := 29) ?hr ?_; (case hd => rfl); (case hg => rfl); (case hr => first | (go_simp; done) | (go_simp; rfl)); intro gb hg w3 hbox hb; have n0_ := Aside0.mk (below_step (by repeat (first | exact HB.out | apply below_alloc | apply pw_below_drewN | apply below_drew1)) hb); have n1_ := Aside0.mk hbox; clear HB; have HB := n0_; have BK := n1_; clear n0_ n1_; clear hb hbox hg))
      refine (slices_ContainsFunc_int_int.at 65 (enters_ Try.func65 (by kernel_rfl) rfl) #[.pointer (some ⟨gb, 0, none⟩)] (fun x => !(decide (0 ≤ x ∧ x ≤ (l0_1.length : Int) - 1))) A2 c2 l2 _ (Kd.C_below HR2.out HB.out) (fun W x _ hb => impl_PlayNet.clo gb a0_0 A0_1 l0_1.length c0_1 HLN.out W (blk_below BK.out hb) x)).mono ?_
      rw [HBAD.out]
      rintro e w4 ⟨rfl, hb4⟩
      have HB4 := Aside0.mk (below_then HB.out HB.out.size hb4)
      have BK4 := Aside0.mk (blk_below BK.out hb4)
      clear hb4 HB BK
      have HB := HB4
      have BK := BK4
      clear HB4 BK4
      have hcz_0 : w4.cell? ⟨gb, 0, none⟩ = some (.int .i64 a0_0) := (blk_cell BK.out 0).trans rfl
      have hcz_1 : w4.cell? ⟨gb, 1, none⟩ = some (.slice A0_1 l0_1.length c0_1) := (blk_cell BK.out 1).trans rfl
      go_wp2_with fail
      refine (impl_markOk.calls k a0_0 A0_1 c0_1 l0_1 A1 c1 l1 true _ (Kd.C_below HR0_1.out (by repeat (first | exact HB.out | apply below_alloc | apply pw_below_drewN | apply below_drew1))) HC0_1.out (Kd.C_below HR1.out (by repeat (first | exact HB.out | apply below_alloc | apply pw_below_drewN | apply below_drew1))) HC1.out HT.out).mono ?_
      rintro e w5 ⟨rfl, hb5⟩
      have HB5 : Aside0 (Below w.heap.size w w5) := ⟨play_then (by repeat (first | exact HB.out | apply below_alloc | apply pw_below_drewN | apply below_drew1)) hb5⟩
      have BK5 := Aside0.mk (blk_below (blk_below BK.out (by repeat (first | exact Below.refl _ _ | apply below_alloc | apply pw_below_drewN | apply below_drew1))) hb5)
      clear hb5 HB BK hcz_0 hcz_1
      have HB := HB5
      have BK := BK5
      clear HB5 BK5
      have hcz_0 : w5.cell? ⟨gb, 0, none⟩ = some (.int .i64 a0_0) := (blk_cell BK.out 0).trans rfl
      have hcz_1 : w5.cell? ⟨gb, 1, none⟩ = some (.slice A0_1 l0_1.length c0_1) := (blk_cell BK.out 1).trans rfl
      cases bad <;> (go_wp2; go_ret3; exact ⟨_, rfl, Kd.R_nil _ _ _ _ _, HB.out⟩)
    · rw [if_neg h200] at h
      have hd2 : decide ((l2.length : Int) > 200) = false := decide_eq_false h200
      have H200 := Aside0.mk h200
      clear h200
      cases bad with
      | true =>
        rw [if_pos rfl] at h
        simp only [Option.some.injEq, Prod.mk.injEq] at h
        obtain ⟨rfl, rfl, rfl⟩ := h
        go_enter Try.func34, Try.ntmps34
        go_wp2_with (first | ((with_reducible refine gate_dst (N := 3) rfl ?_); refine box_event ?hg (N := 3) ?hd (cs := #[.int .i64 a0_0, .slice A0_1 l0_1.length c0_1]) (t := 29) ?hr ?_; (case hd => rfl); (case hg => rfl); (case hr => first | (go_simp; done) | (go_simp; rfl)); intro gb hg w3 hbox hb; have n0_ := Aside0.mk (below_step (by repeat (first | exact HB.out | apply below_alloc | apply pw_below_drewN | apply below_drew1)) hb); have n1_ := Aside0.mk hbox; clear HB; have HB := n0_; have BK := n1_; clear n0_ n1_; clear hb hbox hg))
        refine (slices_ContainsFunc_int_int.at 65 (enters_ Try.func65 (by kernel_rfl) rfl) #[.pointer (some ⟨gb, 0, none⟩)] (fun x => !(decide (0 ≤ x ∧ x ≤ (l0_1.length : Int) - 1))) A2 c2 l2 _ (Kd.C_below HR2.out HB.out) (fun W x _ hb => impl_PlayNet.clo gb a0_0 A0_1 l0_1.length c0_1 HLN.out W (blk_below BK.out hb) x)).mono ?_
        rw [HBAD.out]
        rintro e w4 ⟨rfl, hb4⟩
        have HB4 := Aside0.mk (below_then HB.out HB.out.size hb4)
        have BK4 := Aside0.mk (blk_below BK.out hb4)
        clear hb4 HB BK
        have HB := HB4
        have BK := BK4
        clear HB4 BK4
        have hcz_0 : w4.cell? ⟨gb, 0, none⟩ = some (.int .i64 a0_0) := (blk_cell BK.out 0).trans rfl
        have hcz_1 : w4.cell? ⟨gb, 1, none⟩ = some (.slice A0_1 l0_1.length c0_1) := (blk_cell BK.out 1).trans rfl
        go_wp2_with fail
        refine (impl_markOk.calls k a0_0 A0_1 c0_1 l0_1 A1 c1 l1 true _ (Kd.C_below HR0_1.out (by repeat (first | exact HB.out | apply below_alloc | apply pw_below_drewN | apply below_drew1))) HC0_1.out (Kd.C_below HR1.out (by repeat (first | exact HB.out | apply below_alloc | apply pw_below_drewN | apply below_drew1))) HC1.out HT.out).mono ?_
        rintro e w5 ⟨rfl, hb5⟩
        have HB5 : Aside0 (Below w.heap.size w w5) := ⟨play_then (by repeat (first | exact HB.out | apply below_alloc | apply pw_below_drewN | apply below_drew1)) hb5⟩
        have BK5 := Aside0.mk (blk_below (blk_below BK.out (by repeat (first | exact Below.refl _ _ | apply below_alloc | apply pw_below_drewN | apply below_drew1))) hb5)
        clear hb5 HB BK hcz_0 hcz_1
        have HB := HB5
        have BK := BK5
        clear HB5 BK5
        have hcz_0 : w5.cell? ⟨gb, 0, none⟩ = some (.int .i64 a0_0) := (blk_cell BK.out 0).trans rfl
        have hcz_1 : w5.cell? ⟨gb, 1, none⟩ = some (.slice A0_1 l0_1.length c0_1) := (blk_cell BK.out 1).trans rfl
        go_wp2
        go_ret3
        exact ⟨_, rfl, Kd.R_nil _ _ _ _ _, HB.out⟩
      | false =>
        rw [if_neg (by decide)] at h
        by_cases hml : l1.length < 17592186044416
        · rw [if_pos hml] at h
          obtain ⟨⟨p1, p2⟩, hp, h⟩ := Option.bind_eq_some_iff.1 h
          simp only [Option.some.injEq, Prod.mk.injEq] at h
          obtain ⟨rfl, rfl, rfl⟩ := h
          have HP := Aside0.mk hp
          have HCL := Aside0.mk (show slices_Clone_int_int.f l1 = some l1 by unfold slices_Clone_int_int.f; rw [if_pos hml])
          clear hp hml
          go_enter Try.func34, Try.ntmps34
          go_wp2_with (first | ((with_reducible refine gate_dst (N := 3) rfl ?_); refine box_event ?hg (N := 3) ?hd (cs := #[.int .i64 a0_0, .slice A0_1 l0_1.length c0_1]) (t := 29) ?hr ?_; (case hd => rfl); (case hg => rfl); (case hr => first | (go_simp; done) | (go_simp; rfl)); intro gb hg w3 hbox hb; have n0_ := Aside0.mk (below_step (by repeat (first | exact HB.out | apply below_alloc | apply pw_below_drewN | apply below_drew1)) hb); have n1_ := Aside0.mk hbox; clear HB; have HB := n0_; have BK := n1_; clear n0_ n1_; clear hb hbox hg))
          refine (slices_ContainsFunc_int_int.at 65 (enters_ Try.func65 (by kernel_rfl) rfl) #[.pointer (some ⟨gb, 0, none⟩)] (fun x => !(decide (0 ≤ x ∧ x ≤ (l0_1.length : Int) - 1))) A2 c2 l2 _ (Kd.C_below HR2.out HB.out) (fun W x _ hb => impl_PlayNet.clo gb a0_0 A0_1 l0_1.length c0_1 HLN.out W (blk_below BK.out hb) x)).mono ?_
          rw [HBAD.out]
          rintro e w4 ⟨rfl, hb4⟩
          have HB4 := Aside0.mk (below_then HB.out HB.out.size hb4)
          have BK4 := Aside0.mk (blk_below BK.out hb4)
          clear hb4 HB BK
          have HB := HB4
          have BK := BK4
          clear HB4 BK4
          have hcz_0 : w4.cell? ⟨gb, 0, none⟩ = some (.int .i64 a0_0) := (blk_cell BK.out 0).trans rfl
          have hcz_1 : w4.cell? ⟨gb, 1, none⟩ = some (.slice A0_1 l0_1.length c0_1) := (blk_cell BK.out 1).trans rfl
          go_wp2_with fail
          refine (impl_markOk.calls k a0_0 A0_1 c0_1 l0_1 A1 c1 l1 true _ (Kd.C_below HR0_1.out (by repeat (first | exact HB.out | apply below_alloc | apply pw_below_drewN | apply below_drew1))) HC0_1.out (Kd.C_below HR1.out (by repeat (first | exact HB.out | apply below_alloc | apply pw_below_drewN | apply below_drew1))) HC1.out HT.out).mono ?_
          rintro e w5 ⟨rfl, hb5⟩
          have HB5 : Aside0 (Below w.heap.size w w5) := ⟨play_then (by repeat (first | exact HB.out | apply below_alloc | apply pw_below_drewN | apply below_drew1)) hb5⟩
          have BK5 := Aside0.mk (blk_below (blk_below BK.out (by repeat (first | exact Below.refl _ _ | apply below_alloc | apply pw_below_drewN | apply below_drew1))) hb5)
          clear hb5 HB BK hcz_0 hcz_1
          have HB := HB5
          have BK := BK5
          clear HB5 BK5
          have hcz_0 : w5.cell? ⟨gb, 0, none⟩ = some (.int .i64 a0_0) := (blk_cell BK.out 0).trans rfl
          have hcz_1 : w5.cell? ⟨gb, 1, none⟩ = some (.slice A0_1 l0_1.length c0_1) := (blk_cell BK.out 1).trans rfl
          go_wp2_with fail
          refine (slices_Clone_int_int.calls A1 c1 l1 l1 _ (Kd.C_below HR1.out (by repeat (first | exact HB.out | apply below_alloc | apply pw_below_drewN | apply below_drew1))) HC1.out HCL.out).mono ?_
          rintro e w6 ⟨v0, rfl, hr6, hb6⟩
          have HO : Aside0 (Kd.R (Kd.int .i64) 3 w6 w.heap.size (fun _ => True) v0 l1) := ⟨Kd.R_lower hr6 (Below.size (B := w.heap.size) (by repeat (first | exact HB.out | apply below_alloc | apply pw_below_drewN | apply below_drew1)))⟩
          have BK6 := Aside0.mk (blk_below (blk_below BK.out (by repeat (first | exact Below.refl _ _ | apply below_alloc | apply pw_below_drewN | apply below_drew1))) hb6)
          have HB6 : Aside0 (Below w.heap.size w w6) := ⟨play_then (by repeat (first | exact HB.out | apply below_alloc | apply pw_below_drewN | apply below_drew1)) hb6⟩
          clear hr6 hb6 HB BK hcz_0 hcz_1
          go_wp2_with fail
          go_loopg [10, 11, 35] l2.length (fun kq v10 v11 v35 w' => ∃ (now : List Int) (many : Int) (j : Nat), v11 = .int .i64 many ∧ v35 = .int .i64 (j : Int) ∧ Aside0 (kq + j = l2.length) ∧ Aside0 (playGo a0_0 l0_1 (l2.drop j) now many = some (p1, p2)) ∧ Aside0 (Kd.R (Kd.int .i64) 3 w' w.heap.size (fun _ => True) v10 now) ∧ Aside0 (w'.heap[gb]? = some (.cells #[.int .i64 a0_0, .slice A0_1 l0_1.length c0_1] 29 (0, 0))) ∧ Aside0 (Below w.heap.size w w'))
          case atStart => exact ⟨l1, 0, 0, rfl, rfl, ⟨by omega⟩, ⟨by simpa using HP.out⟩, HO, BK6, HB6⟩
          case round =>
            clear HO BK6 HB6 HP
            obtain ⟨now, many, j, rfl, rfl, HK, HP, HO, BK, HB⟩ := hrel
            by_cases hlt : j < l2.length
            · obtain ⟨adk, ek, hxk⟩ := Kd.at_int (Kd.C_below HR2.out HB.out) (j : Int) (by omega) (by omega)
              cases ek
              rw [Int.toNat_natCast] at hxk
              obtain ⟨s, hs⟩ : ∃ s, s = rd l2 (j : Int) := ⟨_, rfl⟩
              have hdr : l2.drop j = s :: l2.drop (j + 1) := by
                rw [hs, List.drop_eq_getElem_cons hlt]; unfold rd; rw [Int.toNat_natCast, List.getD_eq_getElem?_getD, List.getElem?_eq_getElem hlt]; rfl
              rw [← hs] at hxk
              have hp := HP.out
              rw [hdr] at hp
              simp only [playGo] at hp
              obtain ⟨⟨q1, q2⟩, hq, hp⟩ := Option.bind_eq_some_iff.1 hp
              have HQ := Aside0.mk hq
              have HP2 := Aside0.mk hp
              clear hs hdr hq hp HP
              obtain ⟨An, cn, en⟩ := Kd.R_slice HO.out
              subst en
              go_wp2_with fail
              refine (net_fired.calls gb A0_1 c0_1 a0_0 l0_1 An cn now s q1 q2 _ ?hbk ?hst ?hm (Kd.R_reads' HO.out).2.1 HQ.out).mono ?_
              case hbk => exact blk_below BK.out (by repeat (first | exact Below.refl _ _ | apply below_alloc | apply pw_below_drewN | apply below_drew1))
              case hst => exact Kd.C_below HR0_1.out (by repeat (first | exact HB.out | apply below_alloc | apply pw_below_drewN | apply below_drew1))
              case hm => exact (Kd.R_reads' (Kd.R_below HO.out (by repeat (first | exact Below.refl _ _ | apply below_alloc | apply pw_below_drewN | apply below_drew1)))).2.2
              rintro e w7 ⟨v7, rfl, hr7, hb7⟩
              have HN : Aside0 (Kd.R (Kd.int .i64) 3 w7 w.heap.size (fun _ => True) v7 q1) := ⟨Kd.R_lower hr7 (Below.size (B := w.heap.size) (by repeat (first | exact HB.out | apply below_alloc | apply pw_below_drewN | apply below_drew1)))⟩
              have HO7 := Aside0.mk (Kd.R_below (Kd.R_below HO.out (by repeat (first | exact Below.refl _ _ | apply below_alloc | apply pw_below_drewN | apply below_drew1))) hb7)
              have BK7 := Aside0.mk (blk_below (blk_below BK.out (by repeat (first | exact Below.refl _ _ | apply below_alloc | apply pw_below_drewN | apply below_drew1))) hb7)
              have HB7 : Aside0 (Below w.heap.size w w7) := ⟨play_then (by repeat (first | exact HB.out | apply below_alloc | apply pw_below_drewN | apply below_drew1)) hb7⟩
              clear hr7 hb7 HO BK HB hxk
              cases gk with
              | zero => exact absurd HK.out (by omega)
              | succ k1 =>
                cases q2 with
                | true =>
                  have hp := HP2.out
                  rw [if_pos rfl] at hp
                  have HP3 := Aside0.mk hp
                  clear hp HP2
                  go_wp2
                  go_roundg k1
                  case measure => omega
                  case rel => exact ⟨q1, _, j + 1, rfl, by have := H200.out; congr 1; unfold wrap64; omega, ⟨by have := HK.out; omega⟩, HP3, HN, BK7, HB7⟩
                | false =>
                  have hp := HP2.out
                  rw [if_neg (by decide)] at hp
                  have HP3 := Aside0.mk hp
                  clear hp HP2
                  go_wp2
                  go_roundg k1
                  case measure => omega
                  case rel => exact ⟨now, _, j + 1, rfl, by have := H200.out; congr 1; unfold wrap64; omega, ⟨by have := HK.out; omega⟩, HP3, HO7, BK7, HB7⟩
            · have hp := HP.out
              rw [List.drop_of_length_le (by omega)] at hp
              simp only [playGo, Option.some.injEq, Prod.mk.injEq] at hp
              obtain ⟨rfl, rfl⟩ := hp
              have hd : decide (j < l2.length) = false := decide_eq_false hlt
              go_wp2
              go_ret3
              exact ⟨_, rfl, HO.out, HB.out⟩
        · rw [if_neg hml] at h; cases h

end Go.Proofs.Ytnfafdlglhbijaa.PFnExactPlayNet
