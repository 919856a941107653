/-
  No cell of these rows narrows 'for every input' (looked for: loops, veiled, ifaces, maps, wideKeys, modest, calm, conditions, laid).
  DERIVED. THE GIVEN ROWS OF THIS SEAT. 6 by the template 'for every input the law returns true; each argument reads behind the call as it read before'; 0 by the template 'total and deterministic' (their statements: YtbljelkmmakgpaaTotals.lean).
  GIVEN WITH THE SEED: the statements are not yours to turn. If you find one false, say at which input.
  Laid BY PROGRAM, IN A SANDBOX (cutbox-rows.mjs): the forced cells as the released guide's own fill.sh prints them over the translation 4c4aded39720d7e8… (all of the seat's roots in one cut). By AI agents, Wed Nov 11 2026. No macro, syntax, notation, axiom, sorry.
-/
import Derived.Test.YtbljelkmmakgpaaChecked
import GoSem.Claim
import GoSem.ClaimJoined
import GoSem.ClaimMapViews
import Derived.JoinedTies
import Derived.KernelRfl
namespace Go.Proofs.Ytbljelkmmakgpaa
/- THE CELL 'sum', in the pinned program and in every row, IS THE sha256 OF THE DUMP (.gsa) THAT YtbljelkmmakgpaaProg.lean LOADS. Nothing in Lean hashes anything: it is a label: what it is worth is what the hold of that sum in a sandbox is worth. -/
noncomputable def Try.pinned : Pinned := { name := "ytbljelkmmakgpaa", sum := "4c4aded39720d7e83bc0050e3a16273fc59106a9418a161396e93d922f88dfbf", checked := Try.checked }
namespace Rows
def none {H : Type} : Left H := { results := [], args := [] }

/-- 'laws.FnExactGoodCron': WHATEVER THE INPUT: true; the input reads as it did. -/
def fnExactGoodCronSpec : ChangeSpec := { name := "fnExactGoodCron", fn := fun _ => fun
  | [d] => { results := [.lit (.bool true)], args := [d] }
  | _ => none }
def fnExactGoodCronRow : OpenClaim := { program := "ytbljelkmmakgpaa", sum := "4c4aded39720d7e83bc0050e3a16273fc59106a9418a161396e93d922f88dfbf", func := "loop.example/g00269/laws.FnExactGoodCron", spec := "fnExactGoodCron", apart := false }
def FnExactGoodCronSaid : Prop := fnExactGoodCronRow.holds Try.pinned (OpenSpec.ofChange fnExactGoodCronSpec)

/-- ITS FALSE NEIGHBOUR: 'it returns false'. Refute it at one input. -/
def fnExactGoodCronWrong : ChangeSpec := { name := "fnExactGoodCron", fn := fun _ => fun
  | [d] => { results := [.lit (.bool false)], args := [d] }
  | _ => none }
def FnExactGoodCronWrongFalsely : Prop := fnExactGoodCronRow.holds Try.pinned (OpenSpec.ofChange fnExactGoodCronWrong)

/-- 'laws.FnExactManyIn': WHATEVER THE INPUT: true; the input reads as it did. -/
def fnExactManyInSpec : ChangeSpec := { name := "fnExactManyIn", fn := fun _ => fun
  | [d] => { results := [.lit (.bool true)], args := [d] }
  | _ => none }
def fnExactManyInRow : OpenClaim := { program := "ytbljelkmmakgpaa", sum := "4c4aded39720d7e83bc0050e3a16273fc59106a9418a161396e93d922f88dfbf", func := "loop.example/g00269/laws.FnExactManyIn", spec := "fnExactManyIn", apart := false }
def FnExactManyInSaid : Prop := fnExactManyInRow.holds Try.pinned (OpenSpec.ofChange fnExactManyInSpec)

/-- ITS FALSE NEIGHBOUR: 'it returns false'. Refute it at one input. -/
def fnExactManyInWrong : ChangeSpec := { name := "fnExactManyIn", fn := fun _ => fun
  | [d] => { results := [.lit (.bool false)], args := [d] }
  | _ => none }
def FnExactManyInWrongFalsely : Prop := fnExactManyInRow.holds Try.pinned (OpenSpec.ofChange fnExactManyInWrong)

/-- 'laws.FnExactFitsAt': WHATEVER THE INPUT: true; the input reads as it did. -/
def fnExactFitsAtSpec : ChangeSpec := { name := "fnExactFitsAt", fn := fun _ => fun
  | [d1, d2] => { results := [.lit (.bool true)], args := [d1, d2] }
  | _ => none }
def fnExactFitsAtRow : OpenClaim := { program := "ytbljelkmmakgpaa", sum := "4c4aded39720d7e83bc0050e3a16273fc59106a9418a161396e93d922f88dfbf", func := "loop.example/g00269/laws.FnExactFitsAt", spec := "fnExactFitsAt", apart := false }
def FnExactFitsAtSaid : Prop := fnExactFitsAtRow.holds Try.pinned (OpenSpec.ofChange fnExactFitsAtSpec)

/-- ITS FALSE NEIGHBOUR: 'it returns false'. Refute it at one input. -/
def fnExactFitsAtWrong : ChangeSpec := { name := "fnExactFitsAt", fn := fun _ => fun
  | [d1, d2] => { results := [.lit (.bool false)], args := [d1, d2] }
  | _ => none }
def FnExactFitsAtWrongFalsely : Prop := fnExactFitsAtRow.holds Try.pinned (OpenSpec.ofChange fnExactFitsAtWrong)

/-- 'laws.FnExactNextAfter': WHATEVER THE INPUT: true; the input reads as it did. -/
def fnExactNextAfterSpec : ChangeSpec := { name := "fnExactNextAfter", fn := fun _ => fun
  | [d1, d2] => { results := [.lit (.bool true)], args := [d1, d2] }
  | _ => none }
def fnExactNextAfterRow : OpenClaim := { program := "ytbljelkmmakgpaa", sum := "4c4aded39720d7e83bc0050e3a16273fc59106a9418a161396e93d922f88dfbf", func := "loop.example/g00269/laws.FnExactNextAfter", spec := "fnExactNextAfter", apart := false }
def FnExactNextAfterSaid : Prop := fnExactNextAfterRow.holds Try.pinned (OpenSpec.ofChange fnExactNextAfterSpec)

/-- ITS FALSE NEIGHBOUR: 'it returns false'. Refute it at one input. -/
def fnExactNextAfterWrong : ChangeSpec := { name := "fnExactNextAfter", fn := fun _ => fun
  | [d1, d2] => { results := [.lit (.bool false)], args := [d1, d2] }
  | _ => none }
def FnExactNextAfterWrongFalsely : Prop := fnExactNextAfterRow.holds Try.pinned (OpenSpec.ofChange fnExactNextAfterWrong)

/-- 'laws.FnExactTimesIn': WHATEVER THE INPUT: true; the input reads as it did. -/
def fnExactTimesInSpec : ChangeSpec := { name := "fnExactTimesIn", fn := fun _ => fun
  | [d1, d2, d3] => { results := [.lit (.bool true)], args := [d1, d2, d3] }
  | _ => none }
def fnExactTimesInRow : OpenClaim := { program := "ytbljelkmmakgpaa", sum := "4c4aded39720d7e83bc0050e3a16273fc59106a9418a161396e93d922f88dfbf", func := "loop.example/g00269/laws.FnExactTimesIn", spec := "fnExactTimesIn", apart := false }
def FnExactTimesInSaid : Prop := fnExactTimesInRow.holds Try.pinned (OpenSpec.ofChange fnExactTimesInSpec)

/-- ITS FALSE NEIGHBOUR: 'it returns false'. Refute it at one input. -/
def fnExactTimesInWrong : ChangeSpec := { name := "fnExactTimesIn", fn := fun _ => fun
  | [d1, d2, d3] => { results := [.lit (.bool false)], args := [d1, d2, d3] }
  | _ => none }
def FnExactTimesInWrongFalsely : Prop := fnExactTimesInRow.holds Try.pinned (OpenSpec.ofChange fnExactTimesInWrong)

/-- 'laws.FnCron': WHATEVER THE INPUT: true; the input reads as it did. -/
def fnCronSpec : ChangeSpec := { name := "fnCron", fn := fun _ => fun
  | [d1, d2] => { results := [.lit (.bool true)], args := [d1, d2] }
  | _ => none }
def fnCronRow : OpenClaim := { program := "ytbljelkmmakgpaa", sum := "4c4aded39720d7e83bc0050e3a16273fc59106a9418a161396e93d922f88dfbf", func := "loop.example/g00269/laws.FnCron", spec := "fnCron", apart := false }
def FnCronSaid : Prop := fnCronRow.holds Try.pinned (OpenSpec.ofChange fnCronSpec)

/-- ITS FALSE NEIGHBOUR: 'it returns false'. Refute it at one input. -/
def fnCronWrong : ChangeSpec := { name := "fnCron", fn := fun _ => fun
  | [d1, d2] => { results := [.lit (.bool false)], args := [d1, d2] }
  | _ => none }
def FnCronWrongFalsely : Prop := fnCronRow.holds Try.pinned (OpenSpec.ofChange fnCronWrong)

/- THE SECOND FORM. 'bulk': how many values and letters a reading holds, each counted each time it is reached (what is shared counts as often as it is met; a slice's spare places count too). A statement '..UptoSaid' is the law's where the arguments, and the package variables that the reading takes, are together of bulk at most 1048576: NARROWER than '..Said'. Prove '..Said' where nothing that the law and all that it calls make is longer than what came in: it says more and counts as full. Else prove '..UptoSaid'. A law counts once. -/
mutual
def uptoBulk {H : Type} : DataW H → Nat
  | .lit (.string bytes) => bytes.length + 1
  | .lit _ => 1
  | .nil => 1
  | .ptr d => uptoBulk d + 1
  | .slice elems spare => uptoBulkAll elems + uptoBulkAll spare + 1
  | .agg parts => uptoBulkAll parts + 1
  | .iface _ d => uptoBulk d + 1
  | .map entries => uptoBulkEntries entries + 1
  | .held _ => 1
def uptoBulkAll {H : Type} : List (DataW H) → Nat
  | [] => 0
  | d :: r => uptoBulk d + uptoBulkAll r
def uptoBulkEntries {H : Type} : List (Lit × DataW H) → Nat
  | [] => 0
  | x :: r => uptoBulkEntry x + uptoBulkEntries r
def uptoBulkEntry {H : Type} : Lit × DataW H → Nat
  | (.string bytes, d) => bytes.length + uptoBulk d + 1
  | (_, d) => uptoBulk d + 1
 end
def uptoSmall : (H : Type) → List (DataW H) → Bool := fun _ ds => decide (uptoBulkAll ds ≤ 1048576)
def OpenSpec.upto (s : _root_.Go.ChangeSpec) : _root_.Go.OpenSpec := { _root_.Go.OpenSpec.ofChange s with cond := some uptoSmall }

/-- 'laws.FnExactGoodCron', WHERE WHAT IT READS IS OF BULK AT MOST 1048576: true; the input reads as it did. -/
def fnExactGoodCronUptoRow : OpenClaim := { program := "ytbljelkmmakgpaa", sum := "4c4aded39720d7e83bc0050e3a16273fc59106a9418a161396e93d922f88dfbf", func := "loop.example/g00269/laws.FnExactGoodCron", spec := "fnExactGoodCron", apart := false, narrowed := true }
def FnExactGoodCronUptoSaid : Prop := fnExactGoodCronUptoRow.holds Try.pinned (OpenSpec.upto fnExactGoodCronSpec)

/-- 'laws.FnExactManyIn', WHERE WHAT IT READS IS OF BULK AT MOST 1048576: true; the input reads as it did. -/
def fnExactManyInUptoRow : OpenClaim := { program := "ytbljelkmmakgpaa", sum := "4c4aded39720d7e83bc0050e3a16273fc59106a9418a161396e93d922f88dfbf", func := "loop.example/g00269/laws.FnExactManyIn", spec := "fnExactManyIn", apart := false, narrowed := true }
def FnExactManyInUptoSaid : Prop := fnExactManyInUptoRow.holds Try.pinned (OpenSpec.upto fnExactManyInSpec)

/-- 'laws.FnExactFitsAt', WHERE WHAT IT READS IS OF BULK AT MOST 1048576: true; the input reads as it did. -/
def fnExactFitsAtUptoRow : OpenClaim := { program := "ytbljelkmmakgpaa", sum := "4c4aded39720d7e83bc0050e3a16273fc59106a9418a161396e93d922f88dfbf", func := "loop.example/g00269/laws.FnExactFitsAt", spec := "fnExactFitsAt", apart := false, narrowed := true }
def FnExactFitsAtUptoSaid : Prop := fnExactFitsAtUptoRow.holds Try.pinned (OpenSpec.upto fnExactFitsAtSpec)

/-- 'laws.FnExactNextAfter', WHERE WHAT IT READS IS OF BULK AT MOST 1048576: true; the input reads as it did. -/
def fnExactNextAfterUptoRow : OpenClaim := { program := "ytbljelkmmakgpaa", sum := "4c4aded39720d7e83bc0050e3a16273fc59106a9418a161396e93d922f88dfbf", func := "loop.example/g00269/laws.FnExactNextAfter", spec := "fnExactNextAfter", apart := false, narrowed := true }
def FnExactNextAfterUptoSaid : Prop := fnExactNextAfterUptoRow.holds Try.pinned (OpenSpec.upto fnExactNextAfterSpec)

/-- 'laws.FnExactTimesIn', WHERE WHAT IT READS IS OF BULK AT MOST 1048576: true; the input reads as it did. -/
def fnExactTimesInUptoRow : OpenClaim := { program := "ytbljelkmmakgpaa", sum := "4c4aded39720d7e83bc0050e3a16273fc59106a9418a161396e93d922f88dfbf", func := "loop.example/g00269/laws.FnExactTimesIn", spec := "fnExactTimesIn", apart := false, narrowed := true }
def FnExactTimesInUptoSaid : Prop := fnExactTimesInUptoRow.holds Try.pinned (OpenSpec.upto fnExactTimesInSpec)

/-- 'laws.FnCron', WHERE WHAT IT READS IS OF BULK AT MOST 1048576: true; the input reads as it did. -/
def fnCronUptoRow : OpenClaim := { program := "ytbljelkmmakgpaa", sum := "4c4aded39720d7e83bc0050e3a16273fc59106a9418a161396e93d922f88dfbf", func := "loop.example/g00269/laws.FnCron", spec := "fnCron", apart := false, narrowed := true }
def FnCronUptoSaid : Prop := fnCronUptoRow.holds Try.pinned (OpenSpec.upto fnCronSpec)

end Rows
end Go.Proofs.Ytbljelkmmakgpaa
