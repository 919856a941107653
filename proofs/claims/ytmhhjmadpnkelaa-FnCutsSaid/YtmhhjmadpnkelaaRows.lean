/-
  No cell of these rows narrows 'for every input' (looked for: loops, veiled, ifaces, maps, wideKeys, modest, calm, conditions, laid).
  DERIVED. THE GIVEN ROWS OF THIS SEAT. 10 by the template 'for every input the law returns true; each argument reads behind the call as it read before'; 0 by the template 'total and deterministic' (their statements: YtmhhjmadpnkelaaTotals.lean).
  GIVEN WITH THE SEED: the statements are not yours to turn. If you find one false, say at which input.
  Laid BY PROGRAM, IN A SANDBOX (cutbox-rows.mjs): the forced cells as the released guide's own fill.sh prints them over the translation 9f8d40a3537c6266… (all of the seat's roots in one cut). By AI agents, Wed Nov 11 2026. No macro, syntax, notation, axiom, sorry.
-/
import Derived.Test.YtmhhjmadpnkelaaChecked
import GoSem.Claim
import GoSem.ClaimJoined
import GoSem.ClaimMapViews
import Derived.JoinedTies
import Derived.KernelRfl
namespace Go.Proofs.Ytmhhjmadpnkelaa
/- THE CELL 'sum', in the pinned program and in every row, IS THE sha256 OF THE DUMP (.gsa) THAT YtmhhjmadpnkelaaProg.lean LOADS. Nothing in Lean hashes anything: it is a label: what it is worth is what the hold of that sum in a sandbox is worth. -/
noncomputable def Try.pinned : Pinned := { name := "ytmhhjmadpnkelaa", sum := "9f8d40a3537c6266bc7f05ca66c1c81800809d356e0e1c2667902f6c61e0cb09", checked := Try.checked }
namespace Rows
def none {H : Type} : Left H := { results := [], args := [] }

/-- 'laws.FnExactGoodActs': WHATEVER THE INPUT: true; the input reads as it did. -/
def fnExactGoodActsSpec : ChangeSpec := { name := "fnExactGoodActs", fn := fun _ => fun
  | [d1, d2] => { results := [.lit (.bool true)], args := [d1, d2] }
  | _ => none }
def fnExactGoodActsRow : OpenClaim := { program := "ytmhhjmadpnkelaa", sum := "9f8d40a3537c6266bc7f05ca66c1c81800809d356e0e1c2667902f6c61e0cb09", func := "loop.example/g00269/laws.FnExactGoodActs", spec := "fnExactGoodActs", apart := false }
def FnExactGoodActsSaid : Prop := fnExactGoodActsRow.holds Try.pinned (OpenSpec.ofChange fnExactGoodActsSpec)

/-- ITS FALSE NEIGHBOUR: 'it returns false'. Refute it at one input. -/
def fnExactGoodActsWrong : ChangeSpec := { name := "fnExactGoodActs", fn := fun _ => fun
  | [d1, d2] => { results := [.lit (.bool false)], args := [d1, d2] }
  | _ => none }
def FnExactGoodActsWrongFalsely : Prop := fnExactGoodActsRow.holds Try.pinned (OpenSpec.ofChange fnExactGoodActsWrong)

/-- 'laws.FnExactJoinVec': WHATEVER THE INPUT: true; the input reads as it did. -/
def fnExactJoinVecSpec : ChangeSpec := { name := "fnExactJoinVec", fn := fun _ => fun
  | [d1, d2] => { results := [.lit (.bool true)], args := [d1, d2] }
  | _ => none }
def fnExactJoinVecRow : OpenClaim := { program := "ytmhhjmadpnkelaa", sum := "9f8d40a3537c6266bc7f05ca66c1c81800809d356e0e1c2667902f6c61e0cb09", func := "loop.example/g00269/laws.FnExactJoinVec", spec := "fnExactJoinVec", apart := false }
def FnExactJoinVecSaid : Prop := fnExactJoinVecRow.holds Try.pinned (OpenSpec.ofChange fnExactJoinVecSpec)

/-- ITS FALSE NEIGHBOUR: 'it returns false'. Refute it at one input. -/
def fnExactJoinVecWrong : ChangeSpec := { name := "fnExactJoinVec", fn := fun _ => fun
  | [d1, d2] => { results := [.lit (.bool false)], args := [d1, d2] }
  | _ => none }
def FnExactJoinVecWrongFalsely : Prop := fnExactJoinVecRow.holds Try.pinned (OpenSpec.ofChange fnExactJoinVecWrong)

/-- 'laws.FnExactCompareVec': WHATEVER THE INPUT: true; the input reads as it did. -/
def fnExactCompareVecSpec : ChangeSpec := { name := "fnExactCompareVec", fn := fun _ => fun
  | [d1, d2] => { results := [.lit (.bool true)], args := [d1, d2] }
  | _ => none }
def fnExactCompareVecRow : OpenClaim := { program := "ytmhhjmadpnkelaa", sum := "9f8d40a3537c6266bc7f05ca66c1c81800809d356e0e1c2667902f6c61e0cb09", func := "loop.example/g00269/laws.FnExactCompareVec", spec := "fnExactCompareVec", apart := false }
def FnExactCompareVecSaid : Prop := fnExactCompareVecRow.holds Try.pinned (OpenSpec.ofChange fnExactCompareVecSpec)

/-- ITS FALSE NEIGHBOUR: 'it returns false'. Refute it at one input. -/
def fnExactCompareVecWrong : ChangeSpec := { name := "fnExactCompareVec", fn := fun _ => fun
  | [d1, d2] => { results := [.lit (.bool false)], args := [d1, d2] }
  | _ => none }
def FnExactCompareVecWrongFalsely : Prop := fnExactCompareVecRow.holds Try.pinned (OpenSpec.ofChange fnExactCompareVecWrong)

/-- 'laws.FnExactLamportOf': WHATEVER THE INPUT: true; the input reads as it did. -/
def fnExactLamportOfSpec : ChangeSpec := { name := "fnExactLamportOf", fn := fun _ => fun
  | [d1, d2] => { results := [.lit (.bool true)], args := [d1, d2] }
  | _ => none }
def fnExactLamportOfRow : OpenClaim := { program := "ytmhhjmadpnkelaa", sum := "9f8d40a3537c6266bc7f05ca66c1c81800809d356e0e1c2667902f6c61e0cb09", func := "loop.example/g00269/laws.FnExactLamportOf", spec := "fnExactLamportOf", apart := false }
def FnExactLamportOfSaid : Prop := fnExactLamportOfRow.holds Try.pinned (OpenSpec.ofChange fnExactLamportOfSpec)

/-- ITS FALSE NEIGHBOUR: 'it returns false'. Refute it at one input. -/
def fnExactLamportOfWrong : ChangeSpec := { name := "fnExactLamportOf", fn := fun _ => fun
  | [d1, d2] => { results := [.lit (.bool false)], args := [d1, d2] }
  | _ => none }
def FnExactLamportOfWrongFalsely : Prop := fnExactLamportOfRow.holds Try.pinned (OpenSpec.ofChange fnExactLamportOfWrong)

/-- 'laws.FnExactVectorsOf': WHATEVER THE INPUT: true; the input reads as it did. -/
def fnExactVectorsOfSpec : ChangeSpec := { name := "fnExactVectorsOf", fn := fun _ => fun
  | [d1, d2] => { results := [.lit (.bool true)], args := [d1, d2] }
  | _ => none }
def fnExactVectorsOfRow : OpenClaim := { program := "ytmhhjmadpnkelaa", sum := "9f8d40a3537c6266bc7f05ca66c1c81800809d356e0e1c2667902f6c61e0cb09", func := "loop.example/g00269/laws.FnExactVectorsOf", spec := "fnExactVectorsOf", apart := false }
def FnExactVectorsOfSaid : Prop := fnExactVectorsOfRow.holds Try.pinned (OpenSpec.ofChange fnExactVectorsOfSpec)

/-- ITS FALSE NEIGHBOUR: 'it returns false'. Refute it at one input. -/
def fnExactVectorsOfWrong : ChangeSpec := { name := "fnExactVectorsOf", fn := fun _ => fun
  | [d1, d2] => { results := [.lit (.bool false)], args := [d1, d2] }
  | _ => none }
def FnExactVectorsOfWrongFalsely : Prop := fnExactVectorsOfRow.holds Try.pinned (OpenSpec.ofChange fnExactVectorsOfWrong)

/-- 'laws.FnExactAheadOf': WHATEVER THE INPUT: true; the input reads as it did. -/
def fnExactAheadOfSpec : ChangeSpec := { name := "fnExactAheadOf", fn := fun _ => fun
  | [d1, d2, d3, d4] => { results := [.lit (.bool true)], args := [d1, d2, d3, d4] }
  | _ => none }
def fnExactAheadOfRow : OpenClaim := { program := "ytmhhjmadpnkelaa", sum := "9f8d40a3537c6266bc7f05ca66c1c81800809d356e0e1c2667902f6c61e0cb09", func := "loop.example/g00269/laws.FnExactAheadOf", spec := "fnExactAheadOf", apart := false }
def FnExactAheadOfSaid : Prop := fnExactAheadOfRow.holds Try.pinned (OpenSpec.ofChange fnExactAheadOfSpec)

/-- ITS FALSE NEIGHBOUR: 'it returns false'. Refute it at one input. -/
def fnExactAheadOfWrong : ChangeSpec := { name := "fnExactAheadOf", fn := fun _ => fun
  | [d1, d2, d3, d4] => { results := [.lit (.bool false)], args := [d1, d2, d3, d4] }
  | _ => none }
def FnExactAheadOfWrongFalsely : Prop := fnExactAheadOfRow.holds Try.pinned (OpenSpec.ofChange fnExactAheadOfWrong)

/-- 'laws.FnExactCutIsWhole': WHATEVER THE INPUT: true; the input reads as it did. -/
def fnExactCutIsWholeSpec : ChangeSpec := { name := "fnExactCutIsWhole", fn := fun _ => fun
  | [d1, d2, d3] => { results := [.lit (.bool true)], args := [d1, d2, d3] }
  | _ => none }
def fnExactCutIsWholeRow : OpenClaim := { program := "ytmhhjmadpnkelaa", sum := "9f8d40a3537c6266bc7f05ca66c1c81800809d356e0e1c2667902f6c61e0cb09", func := "loop.example/g00269/laws.FnExactCutIsWhole", spec := "fnExactCutIsWhole", apart := false }
def FnExactCutIsWholeSaid : Prop := fnExactCutIsWholeRow.holds Try.pinned (OpenSpec.ofChange fnExactCutIsWholeSpec)

/-- ITS FALSE NEIGHBOUR: 'it returns false'. Refute it at one input. -/
def fnExactCutIsWholeWrong : ChangeSpec := { name := "fnExactCutIsWhole", fn := fun _ => fun
  | [d1, d2, d3] => { results := [.lit (.bool false)], args := [d1, d2, d3] }
  | _ => none }
def FnExactCutIsWholeWrongFalsely : Prop := fnExactCutIsWholeRow.holds Try.pinned (OpenSpec.ofChange fnExactCutIsWholeWrong)

/-- 'laws.FnVectors': WHATEVER THE INPUT: true; the input reads as it did. -/
def fnVectorsSpec : ChangeSpec := { name := "fnVectors", fn := fun _ => fun
  | [d] => { results := [.lit (.bool true)], args := [d] }
  | _ => none }
def fnVectorsRow : OpenClaim := { program := "ytmhhjmadpnkelaa", sum := "9f8d40a3537c6266bc7f05ca66c1c81800809d356e0e1c2667902f6c61e0cb09", func := "loop.example/g00269/laws.FnVectors", spec := "fnVectors", apart := false }
def FnVectorsSaid : Prop := fnVectorsRow.holds Try.pinned (OpenSpec.ofChange fnVectorsSpec)

/-- ITS FALSE NEIGHBOUR: 'it returns false'. Refute it at one input. -/
def fnVectorsWrong : ChangeSpec := { name := "fnVectors", fn := fun _ => fun
  | [d] => { results := [.lit (.bool false)], args := [d] }
  | _ => none }
def FnVectorsWrongFalsely : Prop := fnVectorsRow.holds Try.pinned (OpenSpec.ofChange fnVectorsWrong)

/-- 'laws.FnCuts': WHATEVER THE INPUT: true; the input reads as it did. -/
def fnCutsSpec : ChangeSpec := { name := "fnCuts", fn := fun _ => fun
  | [d1, d2] => { results := [.lit (.bool true)], args := [d1, d2] }
  | _ => none }
def fnCutsRow : OpenClaim := { program := "ytmhhjmadpnkelaa", sum := "9f8d40a3537c6266bc7f05ca66c1c81800809d356e0e1c2667902f6c61e0cb09", func := "loop.example/g00269/laws.FnCuts", spec := "fnCuts", apart := false }
def FnCutsSaid : Prop := fnCutsRow.holds Try.pinned (OpenSpec.ofChange fnCutsSpec)

/-- ITS FALSE NEIGHBOUR: 'it returns false'. Refute it at one input. -/
def fnCutsWrong : ChangeSpec := { name := "fnCuts", fn := fun _ => fun
  | [d1, d2] => { results := [.lit (.bool false)], args := [d1, d2] }
  | _ => none }
def FnCutsWrongFalsely : Prop := fnCutsRow.holds Try.pinned (OpenSpec.ofChange fnCutsWrong)

/-- 'laws.FnClocks': WHATEVER THE INPUT: true; the input reads as it did. -/
def fnClocksSpec : ChangeSpec := { name := "fnClocks", fn := fun _ => fun
  | [d] => { results := [.lit (.bool true)], args := [d] }
  | _ => none }
def fnClocksRow : OpenClaim := { program := "ytmhhjmadpnkelaa", sum := "9f8d40a3537c6266bc7f05ca66c1c81800809d356e0e1c2667902f6c61e0cb09", func := "loop.example/g00269/laws.FnClocks", spec := "fnClocks", apart := false }
def FnClocksSaid : Prop := fnClocksRow.holds Try.pinned (OpenSpec.ofChange fnClocksSpec)

/-- ITS FALSE NEIGHBOUR: 'it returns false'. Refute it at one input. -/
def fnClocksWrong : ChangeSpec := { name := "fnClocks", fn := fun _ => fun
  | [d] => { results := [.lit (.bool false)], args := [d] }
  | _ => none }
def FnClocksWrongFalsely : Prop := fnClocksRow.holds Try.pinned (OpenSpec.ofChange fnClocksWrong)

/- THE SECOND FORM. 'bulk': how many values and letters a reading holds, each counted each time it is reached (what is shared counts as often as it is met; a slice's spare places count too). A statement '..UptoSaid' is the law's where the arguments, and the package variables that the reading takes, are together of bulk at most 1048576: NARROWER than '..Said'. Prove '..Said' where nothing that the law and all that it calls make is longer than what came in: it says more and counts as full. Else prove '..UptoSaid'. A law counts once. -/
mutual
def uptoBulk {H : Type} : DataW H → Nat
  | .lit (.string bytes) => bytes.length + 1
  | .lit _ => 1
  | .nil => 1
  | .ptr d => uptoBulk d + 1
  | .slice elems spare => uptoBulkAll elems + uptoBulkAll spare + 1
  | .agg parts => uptoBulkAll parts + 1
  | .iface _ d => uptoBulk d + 1
  | .map entries => uptoBulkEntries entries + 1
  | .held _ => 1
def uptoBulkAll {H : Type} : List (DataW H) → Nat
  | [] => 0
  | d :: r => uptoBulk d + uptoBulkAll r
def uptoBulkEntries {H : Type} : List (Lit × DataW H) → Nat
  | [] => 0
  | x :: r => uptoBulkEntry x + uptoBulkEntries r
def uptoBulkEntry {H : Type} : Lit × DataW H → Nat
  | (.string bytes, d) => bytes.length + uptoBulk d + 1
  | (_, d) => uptoBulk d + 1
 end
def uptoSmall : (H : Type) → List (DataW H) → Bool := fun _ ds => decide (uptoBulkAll ds ≤ 1048576)
def OpenSpec.upto (s : _root_.Go.ChangeSpec) : _root_.Go.OpenSpec := { _root_.Go.OpenSpec.ofChange s with cond := some uptoSmall }

/-- 'laws.FnExactGoodActs', WHERE WHAT IT READS IS OF BULK AT MOST 1048576: true; the input reads as it did. -/
def fnExactGoodActsUptoRow : OpenClaim := { program := "ytmhhjmadpnkelaa", sum := "9f8d40a3537c6266bc7f05ca66c1c81800809d356e0e1c2667902f6c61e0cb09", func := "loop.example/g00269/laws.FnExactGoodActs", spec := "fnExactGoodActs", apart := false, narrowed := true }
def FnExactGoodActsUptoSaid : Prop := fnExactGoodActsUptoRow.holds Try.pinned (OpenSpec.upto fnExactGoodActsSpec)

/-- 'laws.FnExactJoinVec', WHERE WHAT IT READS IS OF BULK AT MOST 1048576: true; the input reads as it did. -/
def fnExactJoinVecUptoRow : OpenClaim := { program := "ytmhhjmadpnkelaa", sum := "9f8d40a3537c6266bc7f05ca66c1c81800809d356e0e1c2667902f6c61e0cb09", func := "loop.example/g00269/laws.FnExactJoinVec", spec := "fnExactJoinVec", apart := false, narrowed := true }
def FnExactJoinVecUptoSaid : Prop := fnExactJoinVecUptoRow.holds Try.pinned (OpenSpec.upto fnExactJoinVecSpec)

/-- 'laws.FnExactCompareVec', WHERE WHAT IT READS IS OF BULK AT MOST 1048576: true; the input reads as it did. -/
def fnExactCompareVecUptoRow : OpenClaim := { program := "ytmhhjmadpnkelaa", sum := "9f8d40a3537c6266bc7f05ca66c1c81800809d356e0e1c2667902f6c61e0cb09", func := "loop.example/g00269/laws.FnExactCompareVec", spec := "fnExactCompareVec", apart := false, narrowed := true }
def FnExactCompareVecUptoSaid : Prop := fnExactCompareVecUptoRow.holds Try.pinned (OpenSpec.upto fnExactCompareVecSpec)

/-- 'laws.FnExactLamportOf', WHERE WHAT IT READS IS OF BULK AT MOST 1048576: true; the input reads as it did. -/
def fnExactLamportOfUptoRow : OpenClaim := { program := "ytmhhjmadpnkelaa", sum := "9f8d40a3537c6266bc7f05ca66c1c81800809d356e0e1c2667902f6c61e0cb09", func := "loop.example/g00269/laws.FnExactLamportOf", spec := "fnExactLamportOf", apart := false, narrowed := true }
def FnExactLamportOfUptoSaid : Prop := fnExactLamportOfUptoRow.holds Try.pinned (OpenSpec.upto fnExactLamportOfSpec)

/-- 'laws.FnExactVectorsOf', WHERE WHAT IT READS IS OF BULK AT MOST 1048576: true; the input reads as it did. -/
def fnExactVectorsOfUptoRow : OpenClaim := { program := "ytmhhjmadpnkelaa", sum := "9f8d40a3537c6266bc7f05ca66c1c81800809d356e0e1c2667902f6c61e0cb09", func := "loop.example/g00269/laws.FnExactVectorsOf", spec := "fnExactVectorsOf", apart := false, narrowed := true }
def FnExactVectorsOfUptoSaid : Prop := fnExactVectorsOfUptoRow.holds Try.pinned (OpenSpec.upto fnExactVectorsOfSpec)

/-- 'laws.FnExactAheadOf', WHERE WHAT IT READS IS OF BULK AT MOST 1048576: true; the input reads as it did. -/
def fnExactAheadOfUptoRow : OpenClaim := { program := "ytmhhjmadpnkelaa", sum := "9f8d40a3537c6266bc7f05ca66c1c81800809d356e0e1c2667902f6c61e0cb09", func := "loop.example/g00269/laws.FnExactAheadOf", spec := "fnExactAheadOf", apart := false, narrowed := true }
def FnExactAheadOfUptoSaid : Prop := fnExactAheadOfUptoRow.holds Try.pinned (OpenSpec.upto fnExactAheadOfSpec)

/-- 'laws.FnExactCutIsWhole', WHERE WHAT IT READS IS OF BULK AT MOST 1048576: true; the input reads as it did. -/
def fnExactCutIsWholeUptoRow : OpenClaim := { program := "ytmhhjmadpnkelaa", sum := "9f8d40a3537c6266bc7f05ca66c1c81800809d356e0e1c2667902f6c61e0cb09", func := "loop.example/g00269/laws.FnExactCutIsWhole", spec := "fnExactCutIsWhole", apart := false, narrowed := true }
def FnExactCutIsWholeUptoSaid : Prop := fnExactCutIsWholeUptoRow.holds Try.pinned (OpenSpec.upto fnExactCutIsWholeSpec)

/-- 'laws.FnVectors', WHERE WHAT IT READS IS OF BULK AT MOST 1048576: true; the input reads as it did. -/
def fnVectorsUptoRow : OpenClaim := { program := "ytmhhjmadpnkelaa", sum := "9f8d40a3537c6266bc7f05ca66c1c81800809d356e0e1c2667902f6c61e0cb09", func := "loop.example/g00269/laws.FnVectors", spec := "fnVectors", apart := false, narrowed := true }
def FnVectorsUptoSaid : Prop := fnVectorsUptoRow.holds Try.pinned (OpenSpec.upto fnVectorsSpec)

/-- 'laws.FnCuts', WHERE WHAT IT READS IS OF BULK AT MOST 1048576: true; the input reads as it did. -/
def fnCutsUptoRow : OpenClaim := { program := "ytmhhjmadpnkelaa", sum := "9f8d40a3537c6266bc7f05ca66c1c81800809d356e0e1c2667902f6c61e0cb09", func := "loop.example/g00269/laws.FnCuts", spec := "fnCuts", apart := false, narrowed := true }
def FnCutsUptoSaid : Prop := fnCutsUptoRow.holds Try.pinned (OpenSpec.upto fnCutsSpec)

/-- 'laws.FnClocks', WHERE WHAT IT READS IS OF BULK AT MOST 1048576: true; the input reads as it did. -/
def fnClocksUptoRow : OpenClaim := { program := "ytmhhjmadpnkelaa", sum := "9f8d40a3537c6266bc7f05ca66c1c81800809d356e0e1c2667902f6c61e0cb09", func := "loop.example/g00269/laws.FnClocks", spec := "fnClocks", apart := false, narrowed := true }
def FnClocksUptoSaid : Prop := fnClocksUptoRow.holds Try.pinned (OpenSpec.upto fnClocksSpec)

end Rows
end Go.Proofs.Ytmhhjmadpnkelaa
