/-
  No cell of these rows narrows 'for every input' (looked for: loops, veiled, ifaces, maps, wideKeys, modest, calm, conditions, laid).
  DERIVED. THE GIVEN ROWS OF THIS SEAT. 8 by the template 'for every input the law returns true; each argument reads behind the call as it read before'; 0 by the template 'total and deterministic' (their statements: YtgmjfdehladelaaTotals.lean).
  GIVEN WITH THE SEED: the statements are not yours to turn. If you find one false, say at which input.
  Laid BY PROGRAM, IN A SANDBOX (cutbox-rows.mjs): the forced cells as the released guide's own fill.sh prints them over the translation 1b4df5f5d7eef679… (all of the seat's roots in one cut). By AI agents, Wed Nov 11 2026. No macro, syntax, notation, axiom, sorry.
-/
import Derived.Test.YtgmjfdehladelaaChecked
import GoSem.Claim
import GoSem.ClaimJoined
import GoSem.ClaimMapViews
import Derived.JoinedTies
import Derived.KernelRfl
namespace Go.Proofs.Ytgmjfdehladelaa
/- THE CELL 'sum', in the pinned program and in every row, IS THE sha256 OF THE DUMP (.gsa) THAT YtgmjfdehladelaaProg.lean LOADS. Nothing in Lean hashes anything: it is a label: what it is worth is what the hold of that sum in a sandbox is worth. -/
noncomputable def Try.pinned : Pinned := { name := "ytgmjfdehladelaa", sum := "1b4df5f5d7eef679b3ecfe25d466676db421146c5b54f805c832f9d2d9ed5968", checked := Try.checked }
namespace Rows
def none {H : Type} : Left H := { results := [], args := [] }

/-- 'laws.FnExactSlotFor': WHATEVER THE INPUT: true; the input reads as it did. -/
def fnExactSlotForSpec : ChangeSpec := { name := "fnExactSlotFor", fn := fun _ => fun
  | [d1, d2] => { results := [.lit (.bool true)], args := [d1, d2] }
  | _ => none }
def fnExactSlotForRow : OpenClaim := { program := "ytgmjfdehladelaa", sum := "1b4df5f5d7eef679b3ecfe25d466676db421146c5b54f805c832f9d2d9ed5968", func := "loop.example/g00269/laws.FnExactSlotFor", spec := "fnExactSlotFor", apart := false }
def FnExactSlotForSaid : Prop := fnExactSlotForRow.holds Try.pinned (OpenSpec.ofChange fnExactSlotForSpec)

/-- ITS FALSE NEIGHBOUR: 'it returns false'. Refute it at one input. -/
def fnExactSlotForWrong : ChangeSpec := { name := "fnExactSlotFor", fn := fun _ => fun
  | [d1, d2] => { results := [.lit (.bool false)], args := [d1, d2] }
  | _ => none }
def FnExactSlotForWrongFalsely : Prop := fnExactSlotForRow.holds Try.pinned (OpenSpec.ofChange fnExactSlotForWrong)

/-- 'laws.FnExactNewWheel': WHATEVER THE INPUT: true; the input reads as it did. -/
def fnExactNewWheelSpec : ChangeSpec := { name := "fnExactNewWheel", fn := fun _ => fun
  | [] => { results := [.lit (.bool true)], args := [] }
  | _ => none }
def fnExactNewWheelRow : OpenClaim := { program := "ytgmjfdehladelaa", sum := "1b4df5f5d7eef679b3ecfe25d466676db421146c5b54f805c832f9d2d9ed5968", func := "loop.example/g00269/laws.FnExactNewWheel", spec := "fnExactNewWheel", apart := false }
def FnExactNewWheelSaid : Prop := fnExactNewWheelRow.holds Try.pinned (OpenSpec.ofChange fnExactNewWheelSpec)

/-- ITS FALSE NEIGHBOUR: 'it returns false'. Refute it at one input. -/
def fnExactNewWheelWrong : ChangeSpec := { name := "fnExactNewWheel", fn := fun _ => fun
  | [] => { results := [.lit (.bool false)], args := [] }
  | _ => none }
def FnExactNewWheelWrongFalsely : Prop := fnExactNewWheelRow.holds Try.pinned (OpenSpec.ofChange fnExactNewWheelWrong)

/-- 'laws.FnExactGoodWheel': WHATEVER THE INPUT: true; the input reads as it did. -/
def fnExactGoodWheelSpec : ChangeSpec := { name := "fnExactGoodWheel", fn := fun _ => fun
  | [d] => { results := [.lit (.bool true)], args := [d] }
  | _ => none }
def fnExactGoodWheelRow : OpenClaim := { program := "ytgmjfdehladelaa", sum := "1b4df5f5d7eef679b3ecfe25d466676db421146c5b54f805c832f9d2d9ed5968", func := "loop.example/g00269/laws.FnExactGoodWheel", spec := "fnExactGoodWheel", apart := false }
def FnExactGoodWheelSaid : Prop := fnExactGoodWheelRow.holds Try.pinned (OpenSpec.ofChange fnExactGoodWheelSpec)

/-- ITS FALSE NEIGHBOUR: 'it returns false'. Refute it at one input. -/
def fnExactGoodWheelWrong : ChangeSpec := { name := "fnExactGoodWheel", fn := fun _ => fun
  | [d] => { results := [.lit (.bool false)], args := [d] }
  | _ => none }
def FnExactGoodWheelWrongFalsely : Prop := fnExactGoodWheelRow.holds Try.pinned (OpenSpec.ofChange fnExactGoodWheelWrong)

/-- 'laws.FnExactDropTimer': WHATEVER THE INPUT: true; the input reads as it did. -/
def fnExactDropTimerSpec : ChangeSpec := { name := "fnExactDropTimer", fn := fun _ => fun
  | [d1, d2] => { results := [.lit (.bool true)], args := [d1, d2] }
  | _ => none }
def fnExactDropTimerRow : OpenClaim := { program := "ytgmjfdehladelaa", sum := "1b4df5f5d7eef679b3ecfe25d466676db421146c5b54f805c832f9d2d9ed5968", func := "loop.example/g00269/laws.FnExactDropTimer", spec := "fnExactDropTimer", unfollowed := true, recurses := true, apart := false }
def FnExactDropTimerSaid : Prop := fnExactDropTimerRow.holds Try.pinned (OpenSpec.ofChange fnExactDropTimerSpec)

/-- ITS FALSE NEIGHBOUR: 'it returns false'. Refute it at one input. -/
def fnExactDropTimerWrong : ChangeSpec := { name := "fnExactDropTimer", fn := fun _ => fun
  | [d1, d2] => { results := [.lit (.bool false)], args := [d1, d2] }
  | _ => none }
def FnExactDropTimerWrongFalsely : Prop := fnExactDropTimerRow.holds Try.pinned (OpenSpec.ofChange fnExactDropTimerWrong)

/-- 'laws.FnExactSetTimer': WHATEVER THE INPUT: true; the input reads as it did. -/
def fnExactSetTimerSpec : ChangeSpec := { name := "fnExactSetTimer", fn := fun _ => fun
  | [d1, d2] => { results := [.lit (.bool true)], args := [d1, d2] }
  | _ => none }
def fnExactSetTimerRow : OpenClaim := { program := "ytgmjfdehladelaa", sum := "1b4df5f5d7eef679b3ecfe25d466676db421146c5b54f805c832f9d2d9ed5968", func := "loop.example/g00269/laws.FnExactSetTimer", spec := "fnExactSetTimer", unfollowed := true, recurses := true, apart := false }
def FnExactSetTimerSaid : Prop := fnExactSetTimerRow.holds Try.pinned (OpenSpec.ofChange fnExactSetTimerSpec)

/-- ITS FALSE NEIGHBOUR: 'it returns false'. Refute it at one input. -/
def fnExactSetTimerWrong : ChangeSpec := { name := "fnExactSetTimer", fn := fun _ => fun
  | [d1, d2] => { results := [.lit (.bool false)], args := [d1, d2] }
  | _ => none }
def FnExactSetTimerWrongFalsely : Prop := fnExactSetTimerRow.holds Try.pinned (OpenSpec.ofChange fnExactSetTimerWrong)

/-- 'laws.FnExactTimersIn': WHATEVER THE INPUT: true; the input reads as it did. -/
def fnExactTimersInSpec : ChangeSpec := { name := "fnExactTimersIn", fn := fun _ => fun
  | [d] => { results := [.lit (.bool true)], args := [d] }
  | _ => none }
def fnExactTimersInRow : OpenClaim := { program := "ytgmjfdehladelaa", sum := "1b4df5f5d7eef679b3ecfe25d466676db421146c5b54f805c832f9d2d9ed5968", func := "loop.example/g00269/laws.FnExactTimersIn", spec := "fnExactTimersIn", unfollowed := true, recurses := true, apart := false }
def FnExactTimersInSaid : Prop := fnExactTimersInRow.holds Try.pinned (OpenSpec.ofChange fnExactTimersInSpec)

/-- ITS FALSE NEIGHBOUR: 'it returns false'. Refute it at one input. -/
def fnExactTimersInWrong : ChangeSpec := { name := "fnExactTimersIn", fn := fun _ => fun
  | [d] => { results := [.lit (.bool false)], args := [d] }
  | _ => none }
def FnExactTimersInWrongFalsely : Prop := fnExactTimersInRow.holds Try.pinned (OpenSpec.ofChange fnExactTimersInWrong)

/-- 'laws.FnExactTickWheel': WHATEVER THE INPUT: true; the input reads as it did. -/
def fnExactTickWheelSpec : ChangeSpec := { name := "fnExactTickWheel", fn := fun _ => fun
  | [d] => { results := [.lit (.bool true)], args := [d] }
  | _ => none }
def fnExactTickWheelRow : OpenClaim := { program := "ytgmjfdehladelaa", sum := "1b4df5f5d7eef679b3ecfe25d466676db421146c5b54f805c832f9d2d9ed5968", func := "loop.example/g00269/laws.FnExactTickWheel", spec := "fnExactTickWheel", recurses := true, apart := false }
def FnExactTickWheelSaid : Prop := fnExactTickWheelRow.holds Try.pinned (OpenSpec.ofChange fnExactTickWheelSpec)

/-- ITS FALSE NEIGHBOUR: 'it returns false'. Refute it at one input. -/
def fnExactTickWheelWrong : ChangeSpec := { name := "fnExactTickWheel", fn := fun _ => fun
  | [d] => { results := [.lit (.bool false)], args := [d] }
  | _ => none }
def FnExactTickWheelWrongFalsely : Prop := fnExactTickWheelRow.holds Try.pinned (OpenSpec.ofChange fnExactTickWheelWrong)

/-- 'laws.FnExactAdvanceWheel': WHATEVER THE INPUT: true; the input reads as it did. -/
def fnExactAdvanceWheelSpec : ChangeSpec := { name := "fnExactAdvanceWheel", fn := fun _ => fun
  | [d1, d2] => { results := [.lit (.bool true)], args := [d1, d2] }
  | _ => none }
def fnExactAdvanceWheelRow : OpenClaim := { program := "ytgmjfdehladelaa", sum := "1b4df5f5d7eef679b3ecfe25d466676db421146c5b54f805c832f9d2d9ed5968", func := "loop.example/g00269/laws.FnExactAdvanceWheel", spec := "fnExactAdvanceWheel", recurses := true, apart := false }
def FnExactAdvanceWheelSaid : Prop := fnExactAdvanceWheelRow.holds Try.pinned (OpenSpec.ofChange fnExactAdvanceWheelSpec)

/-- ITS FALSE NEIGHBOUR: 'it returns false'. Refute it at one input. -/
def fnExactAdvanceWheelWrong : ChangeSpec := { name := "fnExactAdvanceWheel", fn := fun _ => fun
  | [d1, d2] => { results := [.lit (.bool false)], args := [d1, d2] }
  | _ => none }
def FnExactAdvanceWheelWrongFalsely : Prop := fnExactAdvanceWheelRow.holds Try.pinned (OpenSpec.ofChange fnExactAdvanceWheelWrong)

/- THE SECOND FORM. 'bulk': how many values and letters a reading holds, each counted each time it is reached (what is shared counts as often as it is met; a slice's spare places count too). A statement '..UptoSaid' is the law's where the arguments, and the package variables that the reading takes, are together of bulk at most 1048576: NARROWER than '..Said'. Prove '..Said' where nothing that the law and all that it calls make is longer than what came in: it says more and counts as full. Else prove '..UptoSaid'. A law counts once. -/
mutual
def uptoBulk {H : Type} : DataW H → Nat
  | .lit (.string bytes) => bytes.length + 1
  | .lit _ => 1
  | .nil => 1
  | .ptr d => uptoBulk d + 1
  | .slice elems spare => uptoBulkAll elems + uptoBulkAll spare + 1
  | .agg parts => uptoBulkAll parts + 1
  | .iface _ d => uptoBulk d + 1
  | .map entries => uptoBulkEntries entries + 1
  | .held _ => 1
def uptoBulkAll {H : Type} : List (DataW H) → Nat
  | [] => 0
  | d :: r => uptoBulk d + uptoBulkAll r
def uptoBulkEntries {H : Type} : List (Lit × DataW H) → Nat
  | [] => 0
  | x :: r => uptoBulkEntry x + uptoBulkEntries r
def uptoBulkEntry {H : Type} : Lit × DataW H → Nat
  | (.string bytes, d) => bytes.length + uptoBulk d + 1
  | (_, d) => uptoBulk d + 1
 end
def uptoSmall : (H : Type) → List (DataW H) → Bool := fun _ ds => decide (uptoBulkAll ds ≤ 1048576)
def OpenSpec.upto (s : _root_.Go.ChangeSpec) : _root_.Go.OpenSpec := { _root_.Go.OpenSpec.ofChange s with cond := some uptoSmall }

/-- 'laws.FnExactSlotFor', WHERE WHAT IT READS IS OF BULK AT MOST 1048576: true; the input reads as it did. -/
def fnExactSlotForUptoRow : OpenClaim := { program := "ytgmjfdehladelaa", sum := "1b4df5f5d7eef679b3ecfe25d466676db421146c5b54f805c832f9d2d9ed5968", func := "loop.example/g00269/laws.FnExactSlotFor", spec := "fnExactSlotFor", apart := false, narrowed := true }
def FnExactSlotForUptoSaid : Prop := fnExactSlotForUptoRow.holds Try.pinned (OpenSpec.upto fnExactSlotForSpec)

/-- 'laws.FnExactNewWheel', WHERE WHAT IT READS IS OF BULK AT MOST 1048576: true; the input reads as it did. -/
def fnExactNewWheelUptoRow : OpenClaim := { program := "ytgmjfdehladelaa", sum := "1b4df5f5d7eef679b3ecfe25d466676db421146c5b54f805c832f9d2d9ed5968", func := "loop.example/g00269/laws.FnExactNewWheel", spec := "fnExactNewWheel", apart := false, narrowed := true }
def FnExactNewWheelUptoSaid : Prop := fnExactNewWheelUptoRow.holds Try.pinned (OpenSpec.upto fnExactNewWheelSpec)

/-- 'laws.FnExactGoodWheel', WHERE WHAT IT READS IS OF BULK AT MOST 1048576: true; the input reads as it did. -/
def fnExactGoodWheelUptoRow : OpenClaim := { program := "ytgmjfdehladelaa", sum := "1b4df5f5d7eef679b3ecfe25d466676db421146c5b54f805c832f9d2d9ed5968", func := "loop.example/g00269/laws.FnExactGoodWheel", spec := "fnExactGoodWheel", apart := false, narrowed := true }
def FnExactGoodWheelUptoSaid : Prop := fnExactGoodWheelUptoRow.holds Try.pinned (OpenSpec.upto fnExactGoodWheelSpec)

/-- 'laws.FnExactDropTimer', WHERE WHAT IT READS IS OF BULK AT MOST 1048576: true; the input reads as it did. -/
def fnExactDropTimerUptoRow : OpenClaim := { program := "ytgmjfdehladelaa", sum := "1b4df5f5d7eef679b3ecfe25d466676db421146c5b54f805c832f9d2d9ed5968", func := "loop.example/g00269/laws.FnExactDropTimer", spec := "fnExactDropTimer", unfollowed := true, recurses := true, apart := false, narrowed := true }
def FnExactDropTimerUptoSaid : Prop := fnExactDropTimerUptoRow.holds Try.pinned (OpenSpec.upto fnExactDropTimerSpec)

/-- 'laws.FnExactSetTimer', WHERE WHAT IT READS IS OF BULK AT MOST 1048576: true; the input reads as it did. -/
def fnExactSetTimerUptoRow : OpenClaim := { program := "ytgmjfdehladelaa", sum := "1b4df5f5d7eef679b3ecfe25d466676db421146c5b54f805c832f9d2d9ed5968", func := "loop.example/g00269/laws.FnExactSetTimer", spec := "fnExactSetTimer", unfollowed := true, recurses := true, apart := false, narrowed := true }
def FnExactSetTimerUptoSaid : Prop := fnExactSetTimerUptoRow.holds Try.pinned (OpenSpec.upto fnExactSetTimerSpec)

/-- 'laws.FnExactTimersIn', WHERE WHAT IT READS IS OF BULK AT MOST 1048576: true; the input reads as it did. -/
def fnExactTimersInUptoRow : OpenClaim := { program := "ytgmjfdehladelaa", sum := "1b4df5f5d7eef679b3ecfe25d466676db421146c5b54f805c832f9d2d9ed5968", func := "loop.example/g00269/laws.FnExactTimersIn", spec := "fnExactTimersIn", unfollowed := true, recurses := true, apart := false, narrowed := true }
def FnExactTimersInUptoSaid : Prop := fnExactTimersInUptoRow.holds Try.pinned (OpenSpec.upto fnExactTimersInSpec)

/-- 'laws.FnExactTickWheel', WHERE WHAT IT READS IS OF BULK AT MOST 1048576: true; the input reads as it did. -/
def fnExactTickWheelUptoRow : OpenClaim := { program := "ytgmjfdehladelaa", sum := "1b4df5f5d7eef679b3ecfe25d466676db421146c5b54f805c832f9d2d9ed5968", func := "loop.example/g00269/laws.FnExactTickWheel", spec := "fnExactTickWheel", recurses := true, apart := false, narrowed := true }
def FnExactTickWheelUptoSaid : Prop := fnExactTickWheelUptoRow.holds Try.pinned (OpenSpec.upto fnExactTickWheelSpec)

/-- 'laws.FnExactAdvanceWheel', WHERE WHAT IT READS IS OF BULK AT MOST 1048576: true; the input reads as it did. -/
def fnExactAdvanceWheelUptoRow : OpenClaim := { program := "ytgmjfdehladelaa", sum := "1b4df5f5d7eef679b3ecfe25d466676db421146c5b54f805c832f9d2d9ed5968", func := "loop.example/g00269/laws.FnExactAdvanceWheel", spec := "fnExactAdvanceWheel", recurses := true, apart := false, narrowed := true }
def FnExactAdvanceWheelUptoSaid : Prop := fnExactAdvanceWheelUptoRow.holds Try.pinned (OpenSpec.upto fnExactAdvanceWheelSpec)

end Rows
end Go.Proofs.Ytgmjfdehladelaa
