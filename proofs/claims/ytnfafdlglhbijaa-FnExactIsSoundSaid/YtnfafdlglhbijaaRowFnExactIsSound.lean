/- The row of the law FnExactIsSound: it answers true whatever the input. No conditions. -/
import Derived.Test.YtnfafdlglhbijaaRows
import Derived.Test.YtnfafdlglhbijaaPFnExactIsSoundx10
import Derived.Test.YtnfafdlglhbijaaPureFnExactIsSound
import Derived.Test.YtnfafdlglhbijaaOpen
import Derived.WalkKit
import Derived.ProofKit
import Derived.OpenShut
import Derived.ShutString
import Derived.ChangeOld
import Derived.Below
import Derived.SizedLaws
import Derived.Lib.SmallJoins
import Derived.Carry
namespace Go.Proofs.Ytnfafdlglhbijaa.fnExactIsSound
open Go.ChangeShapes Go.WideShapes Go.ChangeAt Go.RowKit Go.Joins Go.Deep Go.Proofs.YtnfafdlglhbijaaW.PrintWords Go.Proofs.Ytnfafdlglhbijaa.PFnExactIsSound Go.Proofs.Ytnfafdlglhbijaa.Open
open Go.ChangeMaps (open_string shut_string)
set_option linter.unusedVariables false
set_option linter.unusedSimpArgs false
theorem own : ownKnob Try.prog.godebug = none := by kernel_rfl
theorem laidOut : laidOutB Try.prog = true := by kernel_rfl
section
variable {H : Type} {enc : TypeId × Value → H} {W : World}
theorem opens3 : Opens enc Try.prog W 3 (Kd.int .i64) (fun x => (Lit.int .i64 x).wf = true) := opens_int Try.underlying3
theorem opens33 : Opens enc Try.prog W 33 (Kd.slice 3 (Kd.int .i64)) (fun x => (x.length ≤ 9223372036854775807 ∧ ∀ y ∈ x, (Lit.int .i64 y).wf = true)) := opens_slice Try.underlying33 (by kernel_rfl) opens3
theorem opens90 : Opens enc Try.prog W 90 k90 (fun x => ((x.f0.length ≤ 9223372036854775807 ∧ ∀ y ∈ x.f0, (Lit.int .i64 y).wf = true) ∧ (x.f1.length ≤ 9223372036854775807 ∧ ∀ y ∈ x.f1, (Lit.int .i64 y).wf = true))) := by
  intro fuel cs x h
  obtain ⟨y0, y1, n, _, hl, h0, h1⟩ := trod_struct2 Try.underlying90 h
  obtain ⟨c0, c1, rfl⟩ := cells2 (hl.trans (by kernel_rfl))
  have e33 : Try.prog.cellsOf 33 = 1 := by kernel_rfl
  simp only [e33] at h0
  obtain ⟨b0, K0, q0⟩ := opens33 _ _ _ h0
  simp only [e33] at h1
  obtain ⟨b1, K1, q1⟩ := opens33 _ _ _ h1
  exact ⟨⟨b0, b1⟩, ⟨[c0], [c1], rfl, K0, K1⟩, q0, q1⟩
theorem opens22 : Opens enc Try.prog W 22 (Kd.slice 90 k90) (fun x => (x.length ≤ 9223372036854775807 ∧ ∀ y ∈ x, ((y.f0.length ≤ 9223372036854775807 ∧ ∀ y2 ∈ y.f0, (Lit.int .i64 y2).wf = true) ∧ (y.f1.length ≤ 9223372036854775807 ∧ ∀ y2 ∈ y.f1, (Lit.int .i64 y2).wf = true)))) := opens_slice Try.underlying22 (by kernel_rfl) opens90
end
set_option maxRecDepth 100000 in
theorem lifted (os : Os) (started : os.Started) (H : Type) (enc : TypeId × Value → H) :
    ReturnsInHanded {} Try.checked os 11 .any (Rows.fnExactIsSoundSpec.pre6 enc Try.prog Try.f11 Rows.fnExactIsSoundRow.domain false) (Rows.fnExactIsSoundSpec.post enc Try.prog Try.f11 false true false false) := by
  refine returnsInHanded_of_change_sized (C := Try.checked) own started (by kernel_rfl) Try.func11
    (ChangeSpec.witness6 (enc := enc) (C := Try.checked) false ⟨#[], #[.agg #[.int .i64 0, .slice none 0 0]], []⟩ 8 (by kernel_rfl) (by kernel_rfl) (by kernel_rfl) (by kernel_rfl)) ?_
  intro W base args ds gs before hval0 hW hcnd hsz0 _
  have hsz : (DataW.weightsEach Try.prog (Try.f11.params.toList ++ Rows.fnExactIsSoundSpec.plain.varTypes Try.prog) (ds ++ gs)).all (· ≤ reachBytes) = true := hsz0
  have hval : ∀ (j : Nat) t v, Try.f11.params[j]? = some t → args[j]? = some v → Value.okWide Try.prog W .any base t v := hval0
  have hW' := hW
  obtain ⟨p, q, hA0, hV, rfl, hfz, hnd⟩ := hW
  have hA : DataW.TrodAll enc Try.prog W 0 (fun _ => true) true Try.f11.params.toList args.toList ds p := hA0
  rw [Try.params11] at hA hval hsz
  obtain ⟨v0, vs0, d0, ds0, p0, q0, hargs, rfl, rfl, h0, r0⟩ := trodAll_cons hA
  obtain ⟨rfl, rfl, rfl⟩ := trodAll_nil r0
  obtain rfl : args = #[v0] := by cases args; simp_all
  obtain ⟨rfl, rfl⟩ := trodVars_none hV
  have k0 := h0
  have lt0 : ∀ x ∈ p0, x.block < W.heap.size := by obtain ⟨m, hm⟩ := k0; exact DataW.trod_lt m _ _ _ hm
  obtain ⟨u0_0, u0_1, z0_0, z0_1, n0, rfl, _, _, h0_0, h0_1⟩ := open_agg2 Try.underlying24 (by kernel_rfl) (by kernel_rfl) (hval 0 24 v0 rfl rfl) h0
  obtain ⟨a0_0, K0_0, q0_0⟩ := open_cell (d := (Kd.int .i64)) opens3 h0_0
  obtain rfl : u0_0 = _ := by simpa [Kd.int, Kd.scalar] using K0_0
  obtain ⟨l0_1, K0_1, q0_1⟩ := open_cell (d := (Kd.slice 90 k90)) opens22 h0_1
  obtain ⟨A0_1, c0_1, rfl, hc0_1, hr0_1⟩ := cell_slice K0_1
  obtain ⟨k, hP⟩ := Pure.FnExactIsSound a0_0 l0_1 q0_0 q0_1
  clear hA0 hval0 hsz0 hsz
  refine (laws_FnExactIsSound.calls (k := k) (r := true) (w := W) (hr0_1 := hr0_1) (hc0_1 := hc0_1) (h := hP)).mono fun e W' ⟨he, bel0⟩ => ?_
  have bel : Below W.heap.size W W' := bel0
  subst he
  exact ⟨_, rfl, _, _, _, [], _, [], hW', trodAll_mk1 (shut_bool Try.underlying4 _), (trodAll_cons_mk (Below.trod laidOut (by kernel_rfl) (of_decide_eq_true (by kernel_rfl)) k0 bel lt0) trodAll_mk0), rfl, bel.frame _, fun h => by cases h⟩
theorem over : Rows.fnExactIsSoundRow.holds Try.pinned (OpenSpec.ofChange Rows.fnExactIsSoundSpec) :=
  OpenClaim.holds_of_wide 11 Try.f11 rfl rfl rfl rfl rfl rfl rfl ⟨rfl, rfl, rfl, rfl, rfl⟩ rfl rfl rfl rfl rfl (by kernel_rfl) Try.func11 (by kernel_rfl)
    (of_decide_eq_true (by kernel_rfl)) (by unfold Func.isWrapper; first | (rw [if_pos (by decide +kernel)]; kernel_rfl) | (rw [if_neg (by decide +kernel)]; exact ⟨rfl, rfl⟩))
    (fun os started H enc _ => lifted os started H enc)
theorem proved : Rows.FnExactIsSoundSaid := over
#print axioms proved
end Go.Proofs.Ytnfafdlglhbijaa.fnExactIsSound
namespace Go.Proofs.Ytnfafdlglhbijaa
/-- The row, under a short name, for the claim. -/
theorem fnExactIsSound_holds : Rows.FnExactIsSoundSaid := fnExactIsSound.proved
end Go.Proofs.Ytnfafdlglhbijaa
