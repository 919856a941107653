/-
  DERIVED. GIVEN WITH THE SEED: THE CARDS: each row of YtbljelkmmakgpaaDoorRows.lean that lists a variable, with what it lists TIED to the program's text (the seventh form; the later family's looks); each row that meets fmt, with fmt's text TOLD by the authors' own Lean function (tested against real Go, not proved from fmt's source: count such statements apart). THE CARD IS WHAT COUNTS. Prove the row's statement (the work); the ties are given (YtbljelkmmakgpaaDoorTie.lean); close each card by the builder's one call (the guide's Derived/Test/ToyasCard.lean, 'card_holds'). Laid BY PROGRAM, IN A SANDBOX (cutbox-door.mjs). By AI agents, Wed Nov 11 2026. No macro, syntax, notation, axiom, sorry.
-/
import Derived.Test.YtbljelkmmakgpaaDoorRows
import GoSem.ClaimSeven
namespace Go.Proofs.YtbljelkmmakgpaaDoor
namespace Rows

/-- THE TIED CARD OF 'laws.FnExactCronText'. -/
def fnExactCronTextCard : Claim7 := { stood := { row := fnExactCronTextRow, standIns := [], harness := (true, "586ddfd56905c08d4b5b19447b7b73e1164fe9cc0d32278365f918c01ebe7688"), looks := true }, kinds := [], alts := [], laidByText := true, laidKinds := [.data, .data, .data], laidTests := true, laidLooks := .later }
def FnExactCronTextCardSaid : Prop := Claim7.holds Tryd.pinned (.plain (OpenSpec.ofChange fnExactCronTextSpec)) fnExactCronTextCard

/-- THE TIED CARD OF 'laws.FnExactReadCron'. -/
def fnExactReadCronCard : Claim7 := { stood := { row := fnExactReadCronRow, standIns := [], harness := (true, "586ddfd56905c08d4b5b19447b7b73e1164fe9cc0d32278365f918c01ebe7688"), looks := true }, kinds := [], alts := [], laidByText := true, laidKinds := [.data, .data, .data, .data, .sentinel, .sentinel, .pinned], laidTests := true, laidLooks := .later }
def FnExactReadCronCardSaid : Prop := Claim7.holds Tryd.pinned (.plain (OpenSpec.ofChange fnExactReadCronSpec)) fnExactReadCronCard

/-- THE SECOND FORM's CARD OF 'laws.FnExactCronText'. -/
def fnExactCronTextUptoCard : Claim7 := { stood := { row := fnExactCronTextUptoRow, standIns := [], harness := (true, "586ddfd56905c08d4b5b19447b7b73e1164fe9cc0d32278365f918c01ebe7688"), looks := true }, kinds := [], alts := [], laidByText := true, laidKinds := [.data, .data, .data], laidTests := true, laidLooks := .later }
def FnExactCronTextUptoCardSaid : Prop := Claim7.holds Tryd.pinned (.plain (OpenSpec.upto fnExactCronTextSpec)) fnExactCronTextUptoCard

/-- THE SECOND FORM's CARD OF 'laws.FnExactReadCron'. -/
def fnExactReadCronUptoCard : Claim7 := { stood := { row := fnExactReadCronUptoRow, standIns := [], harness := (true, "586ddfd56905c08d4b5b19447b7b73e1164fe9cc0d32278365f918c01ebe7688"), looks := true }, kinds := [], alts := [], laidByText := true, laidKinds := [.data, .data, .data, .data, .sentinel, .sentinel, .pinned], laidTests := true, laidLooks := .later }
def FnExactReadCronUptoCardSaid : Prop := Claim7.holds Tryd.pinned (.plain (OpenSpec.upto fnExactReadCronSpec)) fnExactReadCronUptoCard
end Rows
end Go.Proofs.YtbljelkmmakgpaaDoor
