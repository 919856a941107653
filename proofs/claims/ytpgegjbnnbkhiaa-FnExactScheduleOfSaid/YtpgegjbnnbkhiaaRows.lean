/-
  No cell of these rows narrows 'for every input' (looked for: loops, veiled, ifaces, maps, wideKeys, modest, calm, conditions, laid).
  DERIVED. THE GIVEN ROWS OF THIS SEAT. 9 by the template 'for every input the law returns true; each argument reads behind the call as it read before'; 0 by the template 'total and deterministic' (their statements: YtpgegjbnnbkhiaaTotals.lean).
  GIVEN WITH THE SEED: the statements are not yours to turn. If you find one false, say at which input.
  Laid BY PROGRAM, IN A SANDBOX (cutbox-rows.mjs): the forced cells as the released guide's own fill.sh prints them over the translation b5e2aafc90331f55… (all of the seat's roots in one cut). By AI agents, Wed Nov 11 2026. No macro, syntax, notation, axiom, sorry.
-/
import Derived.Test.YtpgegjbnnbkhiaaChecked
import GoSem.Claim
import GoSem.ClaimJoined
import GoSem.ClaimMapViews
import Derived.JoinedTies
import Derived.KernelRfl
namespace Go.Proofs.Ytpgegjbnnbkhiaa
/- THE CELL 'sum', in the pinned program and in every row, IS THE sha256 OF THE DUMP (.gsa) THAT YtpgegjbnnbkhiaaProg.lean LOADS. Nothing in Lean hashes anything: it is a label: what it is worth is what the hold of that sum in a sandbox is worth. -/
noncomputable def Try.pinned : Pinned := { name := "ytpgegjbnnbkhiaa", sum := "b5e2aafc90331f554b9fab920daf99ae9b5c638e6511749fa8fc848063ed6dac", checked := Try.checked }
namespace Rows
def none {H : Type} : Left H := { results := [], args := [] }

/-- 'laws.FnExactGoodPlan': WHATEVER THE INPUT: true; the input reads as it did. -/
def fnExactGoodPlanSpec : ChangeSpec := { name := "fnExactGoodPlan", fn := fun _ => fun
  | [d] => { results := [.lit (.bool true)], args := [d] }
  | _ => none }
def fnExactGoodPlanRow : OpenClaim := { program := "ytpgegjbnnbkhiaa", sum := "b5e2aafc90331f554b9fab920daf99ae9b5c638e6511749fa8fc848063ed6dac", func := "loop.example/g00269/laws.FnExactGoodPlan", spec := "fnExactGoodPlan", unfollowed := true, recurses := true, apart := false }
def FnExactGoodPlanSaid : Prop := fnExactGoodPlanRow.holds Try.pinned (OpenSpec.ofChange fnExactGoodPlanSpec)

/-- ITS FALSE NEIGHBOUR: 'it returns false'. Refute it at one input. -/
def fnExactGoodPlanWrong : ChangeSpec := { name := "fnExactGoodPlan", fn := fun _ => fun
  | [d] => { results := [.lit (.bool false)], args := [d] }
  | _ => none }
def FnExactGoodPlanWrongFalsely : Prop := fnExactGoodPlanRow.holds Try.pinned (OpenSpec.ofChange fnExactGoodPlanWrong)

/-- 'laws.FnExactOrderOf': WHATEVER THE INPUT: true; the input reads as it did. -/
def fnExactOrderOfSpec : ChangeSpec := { name := "fnExactOrderOf", fn := fun _ => fun
  | [d] => { results := [.lit (.bool true)], args := [d] }
  | _ => none }
def fnExactOrderOfRow : OpenClaim := { program := "ytpgegjbnnbkhiaa", sum := "b5e2aafc90331f554b9fab920daf99ae9b5c638e6511749fa8fc848063ed6dac", func := "loop.example/g00269/laws.FnExactOrderOf", spec := "fnExactOrderOf", unfollowed := true, recurses := true, apart := false }
def FnExactOrderOfSaid : Prop := fnExactOrderOfRow.holds Try.pinned (OpenSpec.ofChange fnExactOrderOfSpec)

/-- ITS FALSE NEIGHBOUR: 'it returns false'. Refute it at one input. -/
def fnExactOrderOfWrong : ChangeSpec := { name := "fnExactOrderOf", fn := fun _ => fun
  | [d] => { results := [.lit (.bool false)], args := [d] }
  | _ => none }
def FnExactOrderOfWrongFalsely : Prop := fnExactOrderOfRow.holds Try.pinned (OpenSpec.ofChange fnExactOrderOfWrong)

/-- 'laws.FnExactEarliestOf': WHATEVER THE INPUT: true; the input reads as it did. -/
def fnExactEarliestOfSpec : ChangeSpec := { name := "fnExactEarliestOf", fn := fun _ => fun
  | [d] => { results := [.lit (.bool true)], args := [d] }
  | _ => none }
def fnExactEarliestOfRow : OpenClaim := { program := "ytpgegjbnnbkhiaa", sum := "b5e2aafc90331f554b9fab920daf99ae9b5c638e6511749fa8fc848063ed6dac", func := "loop.example/g00269/laws.FnExactEarliestOf", spec := "fnExactEarliestOf", unfollowed := true, recurses := true, apart := false }
def FnExactEarliestOfSaid : Prop := fnExactEarliestOfRow.holds Try.pinned (OpenSpec.ofChange fnExactEarliestOfSpec)

/-- ITS FALSE NEIGHBOUR: 'it returns false'. Refute it at one input. -/
def fnExactEarliestOfWrong : ChangeSpec := { name := "fnExactEarliestOf", fn := fun _ => fun
  | [d] => { results := [.lit (.bool false)], args := [d] }
  | _ => none }
def FnExactEarliestOfWrongFalsely : Prop := fnExactEarliestOfRow.holds Try.pinned (OpenSpec.ofChange fnExactEarliestOfWrong)

/-- 'laws.FnExactNeedsAll': WHATEVER THE INPUT: true; the input reads as it did. -/
def fnExactNeedsAllSpec : ChangeSpec := { name := "fnExactNeedsAll", fn := fun _ => fun
  | [d1, d2] => { results := [.lit (.bool true)], args := [d1, d2] }
  | _ => none }
def fnExactNeedsAllRow : OpenClaim := { program := "ytpgegjbnnbkhiaa", sum := "b5e2aafc90331f554b9fab920daf99ae9b5c638e6511749fa8fc848063ed6dac", func := "loop.example/g00269/laws.FnExactNeedsAll", spec := "fnExactNeedsAll", unfollowed := true, recurses := true, apart := false }
def FnExactNeedsAllSaid : Prop := fnExactNeedsAllRow.holds Try.pinned (OpenSpec.ofChange fnExactNeedsAllSpec)

/-- ITS FALSE NEIGHBOUR: 'it returns false'. Refute it at one input. -/
def fnExactNeedsAllWrong : ChangeSpec := { name := "fnExactNeedsAll", fn := fun _ => fun
  | [d1, d2] => { results := [.lit (.bool false)], args := [d1, d2] }
  | _ => none }
def FnExactNeedsAllWrongFalsely : Prop := fnExactNeedsAllRow.holds Try.pinned (OpenSpec.ofChange fnExactNeedsAllWrong)

/-- 'laws.FnExactLatestOf': WHATEVER THE INPUT: true; the input reads as it did. -/
def fnExactLatestOfSpec : ChangeSpec := { name := "fnExactLatestOf", fn := fun _ => fun
  | [d] => { results := [.lit (.bool true)], args := [d] }
  | _ => none }
def fnExactLatestOfRow : OpenClaim := { program := "ytpgegjbnnbkhiaa", sum := "b5e2aafc90331f554b9fab920daf99ae9b5c638e6511749fa8fc848063ed6dac", func := "loop.example/g00269/laws.FnExactLatestOf", spec := "fnExactLatestOf", unfollowed := true, recurses := true, apart := false }
def FnExactLatestOfSaid : Prop := fnExactLatestOfRow.holds Try.pinned (OpenSpec.ofChange fnExactLatestOfSpec)

/-- ITS FALSE NEIGHBOUR: 'it returns false'. Refute it at one input. -/
def fnExactLatestOfWrong : ChangeSpec := { name := "fnExactLatestOf", fn := fun _ => fun
  | [d] => { results := [.lit (.bool false)], args := [d] }
  | _ => none }
def FnExactLatestOfWrongFalsely : Prop := fnExactLatestOfRow.holds Try.pinned (OpenSpec.ofChange fnExactLatestOfWrong)

/-- 'laws.FnExactSlackOf': WHATEVER THE INPUT: true; the input reads as it did. -/
def fnExactSlackOfSpec : ChangeSpec := { name := "fnExactSlackOf", fn := fun _ => fun
  | [d] => { results := [.lit (.bool true)], args := [d] }
  | _ => none }
def fnExactSlackOfRow : OpenClaim := { program := "ytpgegjbnnbkhiaa", sum := "b5e2aafc90331f554b9fab920daf99ae9b5c638e6511749fa8fc848063ed6dac", func := "loop.example/g00269/laws.FnExactSlackOf", spec := "fnExactSlackOf", unfollowed := true, recurses := true, apart := false }
def FnExactSlackOfSaid : Prop := fnExactSlackOfRow.holds Try.pinned (OpenSpec.ofChange fnExactSlackOfSpec)

/-- ITS FALSE NEIGHBOUR: 'it returns false'. Refute it at one input. -/
def fnExactSlackOfWrong : ChangeSpec := { name := "fnExactSlackOf", fn := fun _ => fun
  | [d] => { results := [.lit (.bool false)], args := [d] }
  | _ => none }
def FnExactSlackOfWrongFalsely : Prop := fnExactSlackOfRow.holds Try.pinned (OpenSpec.ofChange fnExactSlackOfWrong)

/-- 'laws.FnExactCriticalOf': WHATEVER THE INPUT: true; the input reads as it did. -/
def fnExactCriticalOfSpec : ChangeSpec := { name := "fnExactCriticalOf", fn := fun _ => fun
  | [d] => { results := [.lit (.bool true)], args := [d] }
  | _ => none }
def fnExactCriticalOfRow : OpenClaim := { program := "ytpgegjbnnbkhiaa", sum := "b5e2aafc90331f554b9fab920daf99ae9b5c638e6511749fa8fc848063ed6dac", func := "loop.example/g00269/laws.FnExactCriticalOf", spec := "fnExactCriticalOf", unfollowed := true, recurses := true, apart := false }
def FnExactCriticalOfSaid : Prop := fnExactCriticalOfRow.holds Try.pinned (OpenSpec.ofChange fnExactCriticalOfSpec)

/-- ITS FALSE NEIGHBOUR: 'it returns false'. Refute it at one input. -/
def fnExactCriticalOfWrong : ChangeSpec := { name := "fnExactCriticalOf", fn := fun _ => fun
  | [d] => { results := [.lit (.bool false)], args := [d] }
  | _ => none }
def FnExactCriticalOfWrongFalsely : Prop := fnExactCriticalOfRow.holds Try.pinned (OpenSpec.ofChange fnExactCriticalOfWrong)

/-- 'laws.FnExactIsSchedule': WHATEVER THE INPUT: true; the input reads as it did. -/
def fnExactIsScheduleSpec : ChangeSpec := { name := "fnExactIsSchedule", fn := fun _ => fun
  | [d1, d2, d3] => { results := [.lit (.bool true)], args := [d1, d2, d3] }
  | _ => none }
def fnExactIsScheduleRow : OpenClaim := { program := "ytpgegjbnnbkhiaa", sum := "b5e2aafc90331f554b9fab920daf99ae9b5c638e6511749fa8fc848063ed6dac", func := "loop.example/g00269/laws.FnExactIsSchedule", spec := "fnExactIsSchedule", unfollowed := true, recurses := true, apart := false }
def FnExactIsScheduleSaid : Prop := fnExactIsScheduleRow.holds Try.pinned (OpenSpec.ofChange fnExactIsScheduleSpec)

/-- ITS FALSE NEIGHBOUR: 'it returns false'. Refute it at one input. -/
def fnExactIsScheduleWrong : ChangeSpec := { name := "fnExactIsSchedule", fn := fun _ => fun
  | [d1, d2, d3] => { results := [.lit (.bool false)], args := [d1, d2, d3] }
  | _ => none }
def FnExactIsScheduleWrongFalsely : Prop := fnExactIsScheduleRow.holds Try.pinned (OpenSpec.ofChange fnExactIsScheduleWrong)

/-- 'laws.FnExactScheduleOf': WHATEVER THE INPUT: true; the input reads as it did. -/
def fnExactScheduleOfSpec : ChangeSpec := { name := "fnExactScheduleOf", fn := fun _ => fun
  | [d1, d2] => { results := [.lit (.bool true)], args := [d1, d2] }
  | _ => none }
def fnExactScheduleOfRow : OpenClaim := { program := "ytpgegjbnnbkhiaa", sum := "b5e2aafc90331f554b9fab920daf99ae9b5c638e6511749fa8fc848063ed6dac", func := "loop.example/g00269/laws.FnExactScheduleOf", spec := "fnExactScheduleOf", unfollowed := true, recurses := true, apart := false }
def FnExactScheduleOfSaid : Prop := fnExactScheduleOfRow.holds Try.pinned (OpenSpec.ofChange fnExactScheduleOfSpec)

/-- ITS FALSE NEIGHBOUR: 'it returns false'. Refute it at one input. -/
def fnExactScheduleOfWrong : ChangeSpec := { name := "fnExactScheduleOf", fn := fun _ => fun
  | [d1, d2] => { results := [.lit (.bool false)], args := [d1, d2] }
  | _ => none }
def FnExactScheduleOfWrongFalsely : Prop := fnExactScheduleOfRow.holds Try.pinned (OpenSpec.ofChange fnExactScheduleOfWrong)

/- THE SECOND FORM. 'bulk': how many values and letters a reading holds, each counted each time it is reached (what is shared counts as often as it is met; a slice's spare places count too). A statement '..UptoSaid' is the law's where the arguments, and the package variables that the reading takes, are together of bulk at most 1048576: NARROWER than '..Said'. Prove '..Said' where nothing that the law and all that it calls make is longer than what came in: it says more and counts as full. Else prove '..UptoSaid'. A law counts once. -/
mutual
def uptoBulk {H : Type} : DataW H → Nat
  | .lit (.string bytes) => bytes.length + 1
  | .lit _ => 1
  | .nil => 1
  | .ptr d => uptoBulk d + 1
  | .slice elems spare => uptoBulkAll elems + uptoBulkAll spare + 1
  | .agg parts => uptoBulkAll parts + 1
  | .iface _ d => uptoBulk d + 1
  | .map entries => uptoBulkEntries entries + 1
  | .held _ => 1
def uptoBulkAll {H : Type} : List (DataW H) → Nat
  | [] => 0
  | d :: r => uptoBulk d + uptoBulkAll r
def uptoBulkEntries {H : Type} : List (Lit × DataW H) → Nat
  | [] => 0
  | x :: r => uptoBulkEntry x + uptoBulkEntries r
def uptoBulkEntry {H : Type} : Lit × DataW H → Nat
  | (.string bytes, d) => bytes.length + uptoBulk d + 1
  | (_, d) => uptoBulk d + 1
 end
def uptoSmall : (H : Type) → List (DataW H) → Bool := fun _ ds => decide (uptoBulkAll ds ≤ 1048576)
def OpenSpec.upto (s : _root_.Go.ChangeSpec) : _root_.Go.OpenSpec := { _root_.Go.OpenSpec.ofChange s with cond := some uptoSmall }

/-- 'laws.FnExactGoodPlan', WHERE WHAT IT READS IS OF BULK AT MOST 1048576: true; the input reads as it did. -/
def fnExactGoodPlanUptoRow : OpenClaim := { program := "ytpgegjbnnbkhiaa", sum := "b5e2aafc90331f554b9fab920daf99ae9b5c638e6511749fa8fc848063ed6dac", func := "loop.example/g00269/laws.FnExactGoodPlan", spec := "fnExactGoodPlan", unfollowed := true, recurses := true, apart := false, narrowed := true }
def FnExactGoodPlanUptoSaid : Prop := fnExactGoodPlanUptoRow.holds Try.pinned (OpenSpec.upto fnExactGoodPlanSpec)

/-- 'laws.FnExactOrderOf', WHERE WHAT IT READS IS OF BULK AT MOST 1048576: true; the input reads as it did. -/
def fnExactOrderOfUptoRow : OpenClaim := { program := "ytpgegjbnnbkhiaa", sum := "b5e2aafc90331f554b9fab920daf99ae9b5c638e6511749fa8fc848063ed6dac", func := "loop.example/g00269/laws.FnExactOrderOf", spec := "fnExactOrderOf", unfollowed := true, recurses := true, apart := false, narrowed := true }
def FnExactOrderOfUptoSaid : Prop := fnExactOrderOfUptoRow.holds Try.pinned (OpenSpec.upto fnExactOrderOfSpec)

/-- 'laws.FnExactEarliestOf', WHERE WHAT IT READS IS OF BULK AT MOST 1048576: true; the input reads as it did. -/
def fnExactEarliestOfUptoRow : OpenClaim := { program := "ytpgegjbnnbkhiaa", sum := "b5e2aafc90331f554b9fab920daf99ae9b5c638e6511749fa8fc848063ed6dac", func := "loop.example/g00269/laws.FnExactEarliestOf", spec := "fnExactEarliestOf", unfollowed := true, recurses := true, apart := false, narrowed := true }
def FnExactEarliestOfUptoSaid : Prop := fnExactEarliestOfUptoRow.holds Try.pinned (OpenSpec.upto fnExactEarliestOfSpec)

/-- 'laws.FnExactNeedsAll', WHERE WHAT IT READS IS OF BULK AT MOST 1048576: true; the input reads as it did. -/
def fnExactNeedsAllUptoRow : OpenClaim := { program := "ytpgegjbnnbkhiaa", sum := "b5e2aafc90331f554b9fab920daf99ae9b5c638e6511749fa8fc848063ed6dac", func := "loop.example/g00269/laws.FnExactNeedsAll", spec := "fnExactNeedsAll", unfollowed := true, recurses := true, apart := false, narrowed := true }
def FnExactNeedsAllUptoSaid : Prop := fnExactNeedsAllUptoRow.holds Try.pinned (OpenSpec.upto fnExactNeedsAllSpec)

/-- 'laws.FnExactLatestOf', WHERE WHAT IT READS IS OF BULK AT MOST 1048576: true; the input reads as it did. -/
def fnExactLatestOfUptoRow : OpenClaim := { program := "ytpgegjbnnbkhiaa", sum := "b5e2aafc90331f554b9fab920daf99ae9b5c638e6511749fa8fc848063ed6dac", func := "loop.example/g00269/laws.FnExactLatestOf", spec := "fnExactLatestOf", unfollowed := true, recurses := true, apart := false, narrowed := true }
def FnExactLatestOfUptoSaid : Prop := fnExactLatestOfUptoRow.holds Try.pinned (OpenSpec.upto fnExactLatestOfSpec)

/-- 'laws.FnExactSlackOf', WHERE WHAT IT READS IS OF BULK AT MOST 1048576: true; the input reads as it did. -/
def fnExactSlackOfUptoRow : OpenClaim := { program := "ytpgegjbnnbkhiaa", sum := "b5e2aafc90331f554b9fab920daf99ae9b5c638e6511749fa8fc848063ed6dac", func := "loop.example/g00269/laws.FnExactSlackOf", spec := "fnExactSlackOf", unfollowed := true, recurses := true, apart := false, narrowed := true }
def FnExactSlackOfUptoSaid : Prop := fnExactSlackOfUptoRow.holds Try.pinned (OpenSpec.upto fnExactSlackOfSpec)

/-- 'laws.FnExactCriticalOf', WHERE WHAT IT READS IS OF BULK AT MOST 1048576: true; the input reads as it did. -/
def fnExactCriticalOfUptoRow : OpenClaim := { program := "ytpgegjbnnbkhiaa", sum := "b5e2aafc90331f554b9fab920daf99ae9b5c638e6511749fa8fc848063ed6dac", func := "loop.example/g00269/laws.FnExactCriticalOf", spec := "fnExactCriticalOf", unfollowed := true, recurses := true, apart := false, narrowed := true }
def FnExactCriticalOfUptoSaid : Prop := fnExactCriticalOfUptoRow.holds Try.pinned (OpenSpec.upto fnExactCriticalOfSpec)

/-- 'laws.FnExactIsSchedule', WHERE WHAT IT READS IS OF BULK AT MOST 1048576: true; the input reads as it did. -/
def fnExactIsScheduleUptoRow : OpenClaim := { program := "ytpgegjbnnbkhiaa", sum := "b5e2aafc90331f554b9fab920daf99ae9b5c638e6511749fa8fc848063ed6dac", func := "loop.example/g00269/laws.FnExactIsSchedule", spec := "fnExactIsSchedule", unfollowed := true, recurses := true, apart := false, narrowed := true }
def FnExactIsScheduleUptoSaid : Prop := fnExactIsScheduleUptoRow.holds Try.pinned (OpenSpec.upto fnExactIsScheduleSpec)

/-- 'laws.FnExactScheduleOf', WHERE WHAT IT READS IS OF BULK AT MOST 1048576: true; the input reads as it did. -/
def fnExactScheduleOfUptoRow : OpenClaim := { program := "ytpgegjbnnbkhiaa", sum := "b5e2aafc90331f554b9fab920daf99ae9b5c638e6511749fa8fc848063ed6dac", func := "loop.example/g00269/laws.FnExactScheduleOf", spec := "fnExactScheduleOf", unfollowed := true, recurses := true, apart := false, narrowed := true }
def FnExactScheduleOfUptoSaid : Prop := fnExactScheduleOfUptoRow.holds Try.pinned (OpenSpec.upto fnExactScheduleOfSpec)

end Rows
end Go.Proofs.Ytpgegjbnnbkhiaa
