/- The row of the law FnExactAdvanceWheel: it answers true whatever the input. No conditions. -/
import Derived.Test.YtgmjfdehladelaaRows
import Derived.Test.YtgmjfdehladelaaPFnExactAdvanceWheelx11
import Derived.Test.YtgmjfdehladelaaPureFnExactAdvanceWheel
import Derived.Test.YtgmjfdehladelaaOpenFnExactAdvanceWheel
import Derived.WalkKit
import Derived.ProofKit
import Derived.OpenShut
import Derived.ShutString
import Derived.ChangeOld
import Derived.Below
import Derived.SizedLaws
import Derived.Lib.SmallJoins
import Derived.Carry
namespace Go.Proofs.Ytgmjfdehladelaa.fnExactAdvanceWheel
open Go.ChangeShapes Go.WideShapes Go.ChangeAt Go.RowKit Go.Joins Go.Deep Go.Proofs.YtgmjfdehladelaaW.PrintWords Go.Proofs.Ytgmjfdehladelaa.PFnExactAdvanceWheel Go.Proofs.Ytgmjfdehladelaa.Open
open Go.ChangeMaps (open_string shut_string)
set_option linter.unusedVariables false
set_option linter.unusedSimpArgs false
theorem own : ownKnob Try.prog.godebug = none := by kernel_rfl
theorem laidOut : laidOutB Try.prog = true := by kernel_rfl
section
variable {H : Type} {enc : TypeId × Value → H} {W : World}
theorem opens3 : Opens enc Try.prog W 3 (Kd.int .i64) (fun x => (Lit.int .i64 x).wf = true) := opens_int Try.underlying3
theorem opens43 : Opens enc Try.prog W 43 k43 (fun x => ((Lit.int .i64 x.f0).wf = true ∧ (Lit.int .i64 x.f1).wf = true)) := by
  intro fuel cs x h
  obtain ⟨y0, y1, n, _, hl, h0, h1⟩ := trod_struct2 Try.underlying43 h
  obtain ⟨c0, c1, rfl⟩ := cells2 (hl.trans (by kernel_rfl))
  have e3 : Try.prog.cellsOf 3 = 1 := by kernel_rfl
  simp only [e3] at h0
  obtain ⟨b0, K0, q0⟩ := opens3 _ _ _ h0
  simp only [e3] at h1
  obtain ⟨b1, K1, q1⟩ := opens3 _ _ _ h1
  exact ⟨⟨b0, b1⟩, ⟨[c0], [c1], rfl, K0, K1⟩, q0, q1⟩
theorem opens85 : Opens enc Try.prog W 85 (Kd.slice 43 k43) (fun x => (x.length ≤ 9223372036854775807 ∧ ∀ y ∈ x, ((Lit.int .i64 y.f0).wf = true ∧ (Lit.int .i64 y.f1).wf = true))) := opens_slice Try.underlying85 (by kernel_rfl) opens43
theorem opens32 : Opens enc Try.prog W 32 (Kd.slice 85 (Kd.slice 43 k43)) (fun x => (x.length ≤ 9223372036854775807 ∧ ∀ y ∈ x, (y.length ≤ 9223372036854775807 ∧ ∀ y1 ∈ y, ((Lit.int .i64 y1.f0).wf = true ∧ (Lit.int .i64 y1.f1).wf = true)))) := opens_slice Try.underlying32 (by kernel_rfl) opens85
end
set_option maxRecDepth 100000 in
theorem lifted (os : Os) (started : os.Started) (H : Type) (enc : TypeId × Value → H) :
    ReturnsInHanded {} Try.checked os 10 .any (Rows.fnExactAdvanceWheelSpec.pre6 enc Try.prog Try.f10 Rows.fnExactAdvanceWheelRow.domain false) (Rows.fnExactAdvanceWheelSpec.post enc Try.prog Try.f10 false true false false) := by
  refine returnsInHanded_of_change_sized (C := Try.checked) own started (by kernel_rfl) Try.func10
    (ChangeSpec.witness6 (enc := enc) (C := Try.checked) false ⟨#[], #[.agg #[.int .i64 0, .slice none 0 0], .int .i64 0], []⟩ 8 (by kernel_rfl) (by kernel_rfl) (by kernel_rfl) (by kernel_rfl)) ?_
  intro W base args ds gs before hval0 hW hcnd hsz0 _
  have hsz : (DataW.weightsEach Try.prog (Try.f10.params.toList ++ Rows.fnExactAdvanceWheelSpec.plain.varTypes Try.prog) (ds ++ gs)).all (· ≤ reachBytes) = true := hsz0
  have hval : ∀ (j : Nat) t v, Try.f10.params[j]? = some t → args[j]? = some v → Value.okWide Try.prog W .any base t v := hval0
  have hW' := hW
  obtain ⟨p, q, hA0, hV, rfl, hfz, hnd⟩ := hW
  have hA : DataW.TrodAll enc Try.prog W 0 (fun _ => true) true Try.f10.params.toList args.toList ds p := hA0
  rw [Try.params10] at hA hval hsz
  obtain ⟨v0, vs0, d0, ds0, p0, q0, hargs, rfl, rfl, h0, r0⟩ := trodAll_cons hA
  obtain ⟨v1, vs1, d1, ds1, p1, q1, rfl, rfl, rfl, h1, r1⟩ := trodAll_cons r0
  obtain ⟨rfl, rfl, rfl⟩ := trodAll_nil r1
  obtain rfl : args = #[v0, v1] := by cases args; simp_all
  obtain ⟨rfl, rfl⟩ := trodVars_none hV
  have k0 := h0
  have lt0 : ∀ x ∈ p0, x.block < W.heap.size := by obtain ⟨m, hm⟩ := k0; exact DataW.trod_lt m _ _ _ hm
  obtain ⟨u0_0, u0_1, z0_0, z0_1, n0, rfl, _, _, h0_0, h0_1⟩ := open_agg2 Try.underlying34 (by kernel_rfl) (by kernel_rfl) (hval 0 34 v0 rfl rfl) h0
  obtain ⟨a0_0, K0_0, q0_0⟩ := open_cell (d := (Kd.int .i64)) opens3 h0_0
  obtain rfl : u0_0 = _ := by simpa [Kd.int, Kd.scalar] using K0_0
  obtain ⟨l0_1, K0_1, q0_1⟩ := open_cell (d := (Kd.slice 85 (Kd.slice 43 k43))) opens32 h0_1
  obtain ⟨A0_1, c0_1, rfl, hc0_1, hr0_1⟩ := cell_slice K0_1
  obtain ⟨a1, rfl, rfl, rfl, w1⟩ := open_int Try.underlying3 (hval 1 3 v1 rfl rfl) h1
  obtain ⟨k, hP⟩ := Pure.FnExactAdvanceWheel a0_0 l0_1 a1 q0_0 q0_1 w1
  clear hA0 hval0 hsz0 hsz
  refine (laws_FnExactAdvanceWheel.calls (k := k) (r := true) (w := W) (hr0_1 := hr0_1) (hc0_1 := hc0_1) (h := hP)).mono fun e W' ⟨he, bel0⟩ => ?_
  have bel : Below W.heap.size W W' := bel0
  subst he
  exact ⟨_, rfl, _, _, _, [], _, [], hW', trodAll_mk1 (shut_bool Try.underlying4 _), (trodAll_cons_mk (Below.trod laidOut (by kernel_rfl) (of_decide_eq_true (by kernel_rfl)) k0 bel lt0) (trodAll_cons_mk (shut_int Try.underlying3 w1) trodAll_mk0)), rfl, bel.frame _, fun h => by cases h⟩
theorem over : Rows.fnExactAdvanceWheelRow.holds Try.pinned (OpenSpec.ofChange Rows.fnExactAdvanceWheelSpec) :=
  OpenClaim.holds_of_wide 10 Try.f10 rfl rfl rfl rfl rfl rfl rfl ⟨rfl, rfl, rfl, rfl, rfl⟩ rfl rfl rfl rfl rfl (by kernel_rfl) Try.func10 (by kernel_rfl)
    (of_decide_eq_true (by kernel_rfl)) (by unfold Func.isWrapper; first | (rw [if_pos (by decide +kernel)]; kernel_rfl) | (rw [if_neg (by decide +kernel)]; exact ⟨rfl, rfl⟩))
    (fun os started H enc _ => lifted os started H enc)
theorem proved : Rows.FnExactAdvanceWheelSaid := over
#print axioms proved
end Go.Proofs.Ytgmjfdehladelaa.fnExactAdvanceWheel
namespace Go.Proofs.Ytgmjfdehladelaa
/-- The row, under a short name, for the claim. -/
theorem fnExactAdvanceWheel_holds : Rows.FnExactAdvanceWheelSaid := fnExactAdvanceWheel.proved
end Go.Proofs.Ytgmjfdehladelaa
