/-
  No cell of these rows narrows 'for every input' (looked for: loops, veiled, ifaces, maps, wideKeys, modest, calm, conditions, laid).
  DERIVED. THE GIVEN ROWS OF THIS SEAT. 10 by the template 'for every input the law returns true; each argument reads behind the call as it read before'; 0 by the template 'total and deterministic' (their statements: YtnfafdlglhbijaaTotals.lean).
  GIVEN WITH THE SEED: the statements are not yours to turn. If you find one false, say at which input.
  Laid BY PROGRAM, IN A SANDBOX (cutbox-rows.mjs): the forced cells as the released guide's own fill.sh prints them over the translation 6fc0c04012dbdaf9… (all of the seat's roots in one cut). By AI agents, Wed Nov 11 2026. No macro, syntax, notation, axiom, sorry.
-/
import Derived.Test.YtnfafdlglhbijaaChecked
import GoSem.Claim
import GoSem.ClaimJoined
import GoSem.ClaimMapViews
import Derived.JoinedTies
import Derived.KernelRfl
namespace Go.Proofs.Ytnfafdlglhbijaa
/- THE CELL 'sum', in the pinned program and in every row, IS THE sha256 OF THE DUMP (.gsa) THAT YtnfafdlglhbijaaProg.lean LOADS. Nothing in Lean hashes anything: it is a label: what it is worth is what the hold of that sum in a sandbox is worth. -/
noncomputable def Try.pinned : Pinned := { name := "ytnfafdlglhbijaa", sum := "6fc0c04012dbdaf9dfd81eb75899c5d6eb8b5c31fb61f47a13e93f16fa46e357", checked := Try.checked }
namespace Rows
def none {H : Type} : Left H := { results := [], args := [] }

/-- 'laws.FnExactGoodNet': WHATEVER THE INPUT: true; the input reads as it did. -/
def fnExactGoodNetSpec : ChangeSpec := { name := "fnExactGoodNet", fn := fun _ => fun
  | [d] => { results := [.lit (.bool true)], args := [d] }
  | _ => none }
def fnExactGoodNetRow : OpenClaim := { program := "ytnfafdlglhbijaa", sum := "6fc0c04012dbdaf9dfd81eb75899c5d6eb8b5c31fb61f47a13e93f16fa46e357", func := "loop.example/g00269/laws.FnExactGoodNet", spec := "fnExactGoodNet", unfollowed := true, recurses := true, plainKeys := false, apart := false }
def FnExactGoodNetSaid : Prop := fnExactGoodNetRow.holds Try.pinned (OpenSpec.ofChange fnExactGoodNetSpec)

/-- ITS FALSE NEIGHBOUR: 'it returns false'. Refute it at one input. -/
def fnExactGoodNetWrong : ChangeSpec := { name := "fnExactGoodNet", fn := fun _ => fun
  | [d] => { results := [.lit (.bool false)], args := [d] }
  | _ => none }
def FnExactGoodNetWrongFalsely : Prop := fnExactGoodNetRow.holds Try.pinned (OpenSpec.ofChange fnExactGoodNetWrong)

/-- 'laws.FnExactWeightOf': WHATEVER THE INPUT: true; the input reads as it did. -/
def fnExactWeightOfSpec : ChangeSpec := { name := "fnExactWeightOf", fn := fun _ => fun
  | [d1, d2] => { results := [.lit (.bool true)], args := [d1, d2] }
  | _ => none }
def fnExactWeightOfRow : OpenClaim := { program := "ytnfafdlglhbijaa", sum := "6fc0c04012dbdaf9dfd81eb75899c5d6eb8b5c31fb61f47a13e93f16fa46e357", func := "loop.example/g00269/laws.FnExactWeightOf", spec := "fnExactWeightOf", unfollowed := true, recurses := true, plainKeys := false, apart := false }
def FnExactWeightOfSaid : Prop := fnExactWeightOfRow.holds Try.pinned (OpenSpec.ofChange fnExactWeightOfSpec)

/-- ITS FALSE NEIGHBOUR: 'it returns false'. Refute it at one input. -/
def fnExactWeightOfWrong : ChangeSpec := { name := "fnExactWeightOf", fn := fun _ => fun
  | [d1, d2] => { results := [.lit (.bool false)], args := [d1, d2] }
  | _ => none }
def FnExactWeightOfWrongFalsely : Prop := fnExactWeightOfRow.holds Try.pinned (OpenSpec.ofChange fnExactWeightOfWrong)

/-- 'laws.FnExactIsInvariant': WHATEVER THE INPUT: true; the input reads as it did. -/
def fnExactIsInvariantSpec : ChangeSpec := { name := "fnExactIsInvariant", fn := fun _ => fun
  | [d1, d2] => { results := [.lit (.bool true)], args := [d1, d2] }
  | _ => none }
def fnExactIsInvariantRow : OpenClaim := { program := "ytnfafdlglhbijaa", sum := "6fc0c04012dbdaf9dfd81eb75899c5d6eb8b5c31fb61f47a13e93f16fa46e357", func := "loop.example/g00269/laws.FnExactIsInvariant", spec := "fnExactIsInvariant", unfollowed := true, recurses := true, plainKeys := false, apart := false }
def FnExactIsInvariantSaid : Prop := fnExactIsInvariantRow.holds Try.pinned (OpenSpec.ofChange fnExactIsInvariantSpec)

/-- ITS FALSE NEIGHBOUR: 'it returns false'. Refute it at one input. -/
def fnExactIsInvariantWrong : ChangeSpec := { name := "fnExactIsInvariant", fn := fun _ => fun
  | [d1, d2] => { results := [.lit (.bool false)], args := [d1, d2] }
  | _ => none }
def FnExactIsInvariantWrongFalsely : Prop := fnExactIsInvariantRow.holds Try.pinned (OpenSpec.ofChange fnExactIsInvariantWrong)

/-- 'laws.FnExactCanFire': WHATEVER THE INPUT: true; the input reads as it did. -/
def fnExactCanFireSpec : ChangeSpec := { name := "fnExactCanFire", fn := fun _ => fun
  | [d1, d2, d3] => { results := [.lit (.bool true)], args := [d1, d2, d3] }
  | _ => none }
def fnExactCanFireRow : OpenClaim := { program := "ytnfafdlglhbijaa", sum := "6fc0c04012dbdaf9dfd81eb75899c5d6eb8b5c31fb61f47a13e93f16fa46e357", func := "loop.example/g00269/laws.FnExactCanFire", spec := "fnExactCanFire", unfollowed := true, recurses := true, plainKeys := false, apart := false }
def FnExactCanFireSaid : Prop := fnExactCanFireRow.holds Try.pinned (OpenSpec.ofChange fnExactCanFireSpec)

/-- ITS FALSE NEIGHBOUR: 'it returns false'. Refute it at one input. -/
def fnExactCanFireWrong : ChangeSpec := { name := "fnExactCanFire", fn := fun _ => fun
  | [d1, d2, d3] => { results := [.lit (.bool false)], args := [d1, d2, d3] }
  | _ => none }
def FnExactCanFireWrongFalsely : Prop := fnExactCanFireRow.holds Try.pinned (OpenSpec.ofChange fnExactCanFireWrong)

/-- 'laws.FnExactCountSteps': WHATEVER THE INPUT: true; the input reads as it did. -/
def fnExactCountStepsSpec : ChangeSpec := { name := "fnExactCountSteps", fn := fun _ => fun
  | [d1, d2, d3] => { results := [.lit (.bool true)], args := [d1, d2, d3] }
  | _ => none }
def fnExactCountStepsRow : OpenClaim := { program := "ytnfafdlglhbijaa", sum := "6fc0c04012dbdaf9dfd81eb75899c5d6eb8b5c31fb61f47a13e93f16fa46e357", func := "loop.example/g00269/laws.FnExactCountSteps", spec := "fnExactCountSteps", unfollowed := true, recurses := true, plainKeys := false, apart := false }
def FnExactCountStepsSaid : Prop := fnExactCountStepsRow.holds Try.pinned (OpenSpec.ofChange fnExactCountStepsSpec)

/-- ITS FALSE NEIGHBOUR: 'it returns false'. Refute it at one input. -/
def fnExactCountStepsWrong : ChangeSpec := { name := "fnExactCountSteps", fn := fun _ => fun
  | [d1, d2, d3] => { results := [.lit (.bool false)], args := [d1, d2, d3] }
  | _ => none }
def FnExactCountStepsWrongFalsely : Prop := fnExactCountStepsRow.holds Try.pinned (OpenSpec.ofChange fnExactCountStepsWrong)

/-- 'laws.FnExactFireStep': WHATEVER THE INPUT: true; the input reads as it did. -/
def fnExactFireStepSpec : ChangeSpec := { name := "fnExactFireStep", fn := fun _ => fun
  | [d1, d2, d3] => { results := [.lit (.bool true)], args := [d1, d2, d3] }
  | _ => none }
def fnExactFireStepRow : OpenClaim := { program := "ytnfafdlglhbijaa", sum := "6fc0c04012dbdaf9dfd81eb75899c5d6eb8b5c31fb61f47a13e93f16fa46e357", func := "loop.example/g00269/laws.FnExactFireStep", spec := "fnExactFireStep", unfollowed := true, recurses := true, plainKeys := false, apart := false }
def FnExactFireStepSaid : Prop := fnExactFireStepRow.holds Try.pinned (OpenSpec.ofChange fnExactFireStepSpec)

/-- ITS FALSE NEIGHBOUR: 'it returns false'. Refute it at one input. -/
def fnExactFireStepWrong : ChangeSpec := { name := "fnExactFireStep", fn := fun _ => fun
  | [d1, d2, d3] => { results := [.lit (.bool false)], args := [d1, d2, d3] }
  | _ => none }
def FnExactFireStepWrongFalsely : Prop := fnExactFireStepRow.holds Try.pinned (OpenSpec.ofChange fnExactFireStepWrong)

/-- 'laws.FnExactPlayNet': WHATEVER THE INPUT: true; the input reads as it did. -/
def fnExactPlayNetSpec : ChangeSpec := { name := "fnExactPlayNet", fn := fun _ => fun
  | [d1, d2, d3] => { results := [.lit (.bool true)], args := [d1, d2, d3] }
  | _ => none }
def fnExactPlayNetRow : OpenClaim := { program := "ytnfafdlglhbijaa", sum := "6fc0c04012dbdaf9dfd81eb75899c5d6eb8b5c31fb61f47a13e93f16fa46e357", func := "loop.example/g00269/laws.FnExactPlayNet", spec := "fnExactPlayNet", unfollowed := true, recurses := true, plainKeys := false, apart := false }
def FnExactPlayNetSaid : Prop := fnExactPlayNetRow.holds Try.pinned (OpenSpec.ofChange fnExactPlayNetSpec)

/-- ITS FALSE NEIGHBOUR: 'it returns false'. Refute it at one input. -/
def fnExactPlayNetWrong : ChangeSpec := { name := "fnExactPlayNet", fn := fun _ => fun
  | [d1, d2, d3] => { results := [.lit (.bool false)], args := [d1, d2, d3] }
  | _ => none }
def FnExactPlayNetWrongFalsely : Prop := fnExactPlayNetRow.holds Try.pinned (OpenSpec.ofChange fnExactPlayNetWrong)

/-- 'laws.FnExactMarksFrom': WHATEVER THE INPUT: true; the input reads as it did. -/
def fnExactMarksFromSpec : ChangeSpec := { name := "fnExactMarksFrom", fn := fun _ => fun
  | [d1, d2] => { results := [.lit (.bool true)], args := [d1, d2] }
  | _ => none }
def fnExactMarksFromRow : OpenClaim := { program := "ytnfafdlglhbijaa", sum := "6fc0c04012dbdaf9dfd81eb75899c5d6eb8b5c31fb61f47a13e93f16fa46e357", func := "loop.example/g00269/laws.FnExactMarksFrom", spec := "fnExactMarksFrom", unfollowed := true, recurses := true, plainKeys := false, apart := false }
def FnExactMarksFromSaid : Prop := fnExactMarksFromRow.holds Try.pinned (OpenSpec.ofChange fnExactMarksFromSpec)

/-- ITS FALSE NEIGHBOUR: 'it returns false'. Refute it at one input. -/
def fnExactMarksFromWrong : ChangeSpec := { name := "fnExactMarksFrom", fn := fun _ => fun
  | [d1, d2] => { results := [.lit (.bool false)], args := [d1, d2] }
  | _ => none }
def FnExactMarksFromWrongFalsely : Prop := fnExactMarksFromRow.holds Try.pinned (OpenSpec.ofChange fnExactMarksFromWrong)

/-- 'laws.FnExactIsSound': WHATEVER THE INPUT: true; the input reads as it did. -/
def fnExactIsSoundSpec : ChangeSpec := { name := "fnExactIsSound", fn := fun _ => fun
  | [d] => { results := [.lit (.bool true)], args := [d] }
  | _ => none }
def fnExactIsSoundRow : OpenClaim := { program := "ytnfafdlglhbijaa", sum := "6fc0c04012dbdaf9dfd81eb75899c5d6eb8b5c31fb61f47a13e93f16fa46e357", func := "loop.example/g00269/laws.FnExactIsSound", spec := "fnExactIsSound", unfollowed := true, recurses := true, plainKeys := false, apart := false }
def FnExactIsSoundSaid : Prop := fnExactIsSoundRow.holds Try.pinned (OpenSpec.ofChange fnExactIsSoundSpec)

/-- ITS FALSE NEIGHBOUR: 'it returns false'. Refute it at one input. -/
def fnExactIsSoundWrong : ChangeSpec := { name := "fnExactIsSound", fn := fun _ => fun
  | [d] => { results := [.lit (.bool false)], args := [d] }
  | _ => none }
def FnExactIsSoundWrongFalsely : Prop := fnExactIsSoundRow.holds Try.pinned (OpenSpec.ofChange fnExactIsSoundWrong)

/-- 'laws.FnExactFinishFrom': WHATEVER THE INPUT: true; the input reads as it did. -/
def fnExactFinishFromSpec : ChangeSpec := { name := "fnExactFinishFrom", fn := fun _ => fun
  | [d1, d2] => { results := [.lit (.bool true)], args := [d1, d2] }
  | _ => none }
def fnExactFinishFromRow : OpenClaim := { program := "ytnfafdlglhbijaa", sum := "6fc0c04012dbdaf9dfd81eb75899c5d6eb8b5c31fb61f47a13e93f16fa46e357", func := "loop.example/g00269/laws.FnExactFinishFrom", spec := "fnExactFinishFrom", unfollowed := true, recurses := true, plainKeys := false, apart := false }
def FnExactFinishFromSaid : Prop := fnExactFinishFromRow.holds Try.pinned (OpenSpec.ofChange fnExactFinishFromSpec)

/-- ITS FALSE NEIGHBOUR: 'it returns false'. Refute it at one input. -/
def fnExactFinishFromWrong : ChangeSpec := { name := "fnExactFinishFrom", fn := fun _ => fun
  | [d1, d2] => { results := [.lit (.bool false)], args := [d1, d2] }
  | _ => none }
def FnExactFinishFromWrongFalsely : Prop := fnExactFinishFromRow.holds Try.pinned (OpenSpec.ofChange fnExactFinishFromWrong)

/- THE SECOND FORM. 'bulk': how many values and letters a reading holds, each counted each time it is reached (what is shared counts as often as it is met; a slice's spare places count too). A statement '..UptoSaid' is the law's where the arguments, and the package variables that the reading takes, are together of bulk at most 1048576: NARROWER than '..Said'. Prove '..Said' where nothing that the law and all that it calls make is longer than what came in: it says more and counts as full. Else prove '..UptoSaid'. A law counts once. -/
mutual
def uptoBulk {H : Type} : DataW H → Nat
  | .lit (.string bytes) => bytes.length + 1
  | .lit _ => 1
  | .nil => 1
  | .ptr d => uptoBulk d + 1
  | .slice elems spare => uptoBulkAll elems + uptoBulkAll spare + 1
  | .agg parts => uptoBulkAll parts + 1
  | .iface _ d => uptoBulk d + 1
  | .map entries => uptoBulkEntries entries + 1
  | .held _ => 1
def uptoBulkAll {H : Type} : List (DataW H) → Nat
  | [] => 0
  | d :: r => uptoBulk d + uptoBulkAll r
def uptoBulkEntries {H : Type} : List (Lit × DataW H) → Nat
  | [] => 0
  | x :: r => uptoBulkEntry x + uptoBulkEntries r
def uptoBulkEntry {H : Type} : Lit × DataW H → Nat
  | (.string bytes, d) => bytes.length + uptoBulk d + 1
  | (_, d) => uptoBulk d + 1
 end
def uptoSmall : (H : Type) → List (DataW H) → Bool := fun _ ds => decide (uptoBulkAll ds ≤ 1048576)
def OpenSpec.upto (s : _root_.Go.ChangeSpec) : _root_.Go.OpenSpec := { _root_.Go.OpenSpec.ofChange s with cond := some uptoSmall }

/-- 'laws.FnExactGoodNet', WHERE WHAT IT READS IS OF BULK AT MOST 1048576: true; the input reads as it did. -/
def fnExactGoodNetUptoRow : OpenClaim := { program := "ytnfafdlglhbijaa", sum := "6fc0c04012dbdaf9dfd81eb75899c5d6eb8b5c31fb61f47a13e93f16fa46e357", func := "loop.example/g00269/laws.FnExactGoodNet", spec := "fnExactGoodNet", unfollowed := true, recurses := true, plainKeys := false, apart := false, narrowed := true }
def FnExactGoodNetUptoSaid : Prop := fnExactGoodNetUptoRow.holds Try.pinned (OpenSpec.upto fnExactGoodNetSpec)

/-- 'laws.FnExactWeightOf', WHERE WHAT IT READS IS OF BULK AT MOST 1048576: true; the input reads as it did. -/
def fnExactWeightOfUptoRow : OpenClaim := { program := "ytnfafdlglhbijaa", sum := "6fc0c04012dbdaf9dfd81eb75899c5d6eb8b5c31fb61f47a13e93f16fa46e357", func := "loop.example/g00269/laws.FnExactWeightOf", spec := "fnExactWeightOf", unfollowed := true, recurses := true, plainKeys := false, apart := false, narrowed := true }
def FnExactWeightOfUptoSaid : Prop := fnExactWeightOfUptoRow.holds Try.pinned (OpenSpec.upto fnExactWeightOfSpec)

/-- 'laws.FnExactIsInvariant', WHERE WHAT IT READS IS OF BULK AT MOST 1048576: true; the input reads as it did. -/
def fnExactIsInvariantUptoRow : OpenClaim := { program := "ytnfafdlglhbijaa", sum := "6fc0c04012dbdaf9dfd81eb75899c5d6eb8b5c31fb61f47a13e93f16fa46e357", func := "loop.example/g00269/laws.FnExactIsInvariant", spec := "fnExactIsInvariant", unfollowed := true, recurses := true, plainKeys := false, apart := false, narrowed := true }
def FnExactIsInvariantUptoSaid : Prop := fnExactIsInvariantUptoRow.holds Try.pinned (OpenSpec.upto fnExactIsInvariantSpec)

/-- 'laws.FnExactCanFire', WHERE WHAT IT READS IS OF BULK AT MOST 1048576: true; the input reads as it did. -/
def fnExactCanFireUptoRow : OpenClaim := { program := "ytnfafdlglhbijaa", sum := "6fc0c04012dbdaf9dfd81eb75899c5d6eb8b5c31fb61f47a13e93f16fa46e357", func := "loop.example/g00269/laws.FnExactCanFire", spec := "fnExactCanFire", unfollowed := true, recurses := true, plainKeys := false, apart := false, narrowed := true }
def FnExactCanFireUptoSaid : Prop := fnExactCanFireUptoRow.holds Try.pinned (OpenSpec.upto fnExactCanFireSpec)

/-- 'laws.FnExactCountSteps', WHERE WHAT IT READS IS OF BULK AT MOST 1048576: true; the input reads as it did. -/
def fnExactCountStepsUptoRow : OpenClaim := { program := "ytnfafdlglhbijaa", sum := "6fc0c04012dbdaf9dfd81eb75899c5d6eb8b5c31fb61f47a13e93f16fa46e357", func := "loop.example/g00269/laws.FnExactCountSteps", spec := "fnExactCountSteps", unfollowed := true, recurses := true, plainKeys := false, apart := false, narrowed := true }
def FnExactCountStepsUptoSaid : Prop := fnExactCountStepsUptoRow.holds Try.pinned (OpenSpec.upto fnExactCountStepsSpec)

/-- 'laws.FnExactFireStep', WHERE WHAT IT READS IS OF BULK AT MOST 1048576: true; the input reads as it did. -/
def fnExactFireStepUptoRow : OpenClaim := { program := "ytnfafdlglhbijaa", sum := "6fc0c04012dbdaf9dfd81eb75899c5d6eb8b5c31fb61f47a13e93f16fa46e357", func := "loop.example/g00269/laws.FnExactFireStep", spec := "fnExactFireStep", unfollowed := true, recurses := true, plainKeys := false, apart := false, narrowed := true }
def FnExactFireStepUptoSaid : Prop := fnExactFireStepUptoRow.holds Try.pinned (OpenSpec.upto fnExactFireStepSpec)

/-- 'laws.FnExactPlayNet', WHERE WHAT IT READS IS OF BULK AT MOST 1048576: true; the input reads as it did. -/
def fnExactPlayNetUptoRow : OpenClaim := { program := "ytnfafdlglhbijaa", sum := "6fc0c04012dbdaf9dfd81eb75899c5d6eb8b5c31fb61f47a13e93f16fa46e357", func := "loop.example/g00269/laws.FnExactPlayNet", spec := "fnExactPlayNet", unfollowed := true, recurses := true, plainKeys := false, apart := false, narrowed := true }
def FnExactPlayNetUptoSaid : Prop := fnExactPlayNetUptoRow.holds Try.pinned (OpenSpec.upto fnExactPlayNetSpec)

/-- 'laws.FnExactMarksFrom', WHERE WHAT IT READS IS OF BULK AT MOST 1048576: true; the input reads as it did. -/
def fnExactMarksFromUptoRow : OpenClaim := { program := "ytnfafdlglhbijaa", sum := "6fc0c04012dbdaf9dfd81eb75899c5d6eb8b5c31fb61f47a13e93f16fa46e357", func := "loop.example/g00269/laws.FnExactMarksFrom", spec := "fnExactMarksFrom", unfollowed := true, recurses := true, plainKeys := false, apart := false, narrowed := true }
def FnExactMarksFromUptoSaid : Prop := fnExactMarksFromUptoRow.holds Try.pinned (OpenSpec.upto fnExactMarksFromSpec)

/-- 'laws.FnExactIsSound', WHERE WHAT IT READS IS OF BULK AT MOST 1048576: true; the input reads as it did. -/
def fnExactIsSoundUptoRow : OpenClaim := { program := "ytnfafdlglhbijaa", sum := "6fc0c04012dbdaf9dfd81eb75899c5d6eb8b5c31fb61f47a13e93f16fa46e357", func := "loop.example/g00269/laws.FnExactIsSound", spec := "fnExactIsSound", unfollowed := true, recurses := true, plainKeys := false, apart := false, narrowed := true }
def FnExactIsSoundUptoSaid : Prop := fnExactIsSoundUptoRow.holds Try.pinned (OpenSpec.upto fnExactIsSoundSpec)

/-- 'laws.FnExactFinishFrom', WHERE WHAT IT READS IS OF BULK AT MOST 1048576: true; the input reads as it did. -/
def fnExactFinishFromUptoRow : OpenClaim := { program := "ytnfafdlglhbijaa", sum := "6fc0c04012dbdaf9dfd81eb75899c5d6eb8b5c31fb61f47a13e93f16fa46e357", func := "loop.example/g00269/laws.FnExactFinishFrom", spec := "fnExactFinishFrom", unfollowed := true, recurses := true, plainKeys := false, apart := false, narrowed := true }
def FnExactFinishFromUptoSaid : Prop := fnExactFinishFromUptoRow.holds Try.pinned (OpenSpec.upto fnExactFinishFromSpec)

end Rows
end Go.Proofs.Ytnfafdlglhbijaa
