/-
  DERIVED. GIVEN WITH THE SEED: THE CARDS: each row of YtggolfbojjjafaaDoorRows.lean that lists a variable, with what it lists TIED to the program's text (the seventh form; the later family's looks); each row that meets fmt, with fmt's text TOLD by the authors' own Lean function (tested against real Go, not proved from fmt's source: count such statements apart). THE CARD IS WHAT COUNTS. Prove the row's statement (the work); the ties are given (YtggolfbojjjafaaDoorTie.lean); close each card by the builder's one call (the guide's Derived/Test/ToyasCard.lean, 'card_holds'). Laid BY PROGRAM, IN A SANDBOX (cutbox-door.mjs). By AI agents, Wed Nov 11 2026. No macro, syntax, notation, axiom, sorry.
-/
import Derived.Test.YtggolfbojjjafaaDoorRows
import GoSem.ClaimSeven
namespace Go.Proofs.YtggolfbojjjafaaDoor
namespace Rows

/-- THE TIED CARD OF 'laws.FnExactGoodEvent'. -/
def fnExactGoodEventCard : Claim7 := { stood := { row := fnExactGoodEventRow, standIns := [], harness := (true, "91253b235cdce0df17500435301fa4fc850a4292b914dc8f70dbf70e27cb9cbf"), looks := true }, kinds := [], alts := [], laidByText := true, laidKinds := [.data, .pinned], laidTests := true, laidLooks := .later }
def FnExactGoodEventCardSaid : Prop := Claim7.holds Tryd.pinned (.plain (OpenSpec.ofChange fnExactGoodEventSpec)) fnExactGoodEventCard

/-- THE TIED CARD OF 'laws.FnExactEventBytes'. -/
def fnExactEventBytesCard : Claim7 := { stood := { row := fnExactEventBytesRow, standIns := [], harness := (true, "91253b235cdce0df17500435301fa4fc850a4292b914dc8f70dbf70e27cb9cbf"), looks := true }, kinds := [], alts := [], laidByText := true, laidKinds := [.data, .data, .data, .data, .pinned], laidTests := true, laidLooks := .later }
def FnExactEventBytesCardSaid : Prop := Claim7.holds Tryd.pinned (.plain (OpenSpec.ofChange fnExactEventBytesSpec)) fnExactEventBytesCard

/-- THE TIED CARD OF 'laws.FnExactEventsBytes'. -/
def fnExactEventsBytesCard : Claim7 := { stood := { row := fnExactEventsBytesRow, standIns := [], harness := (true, "91253b235cdce0df17500435301fa4fc850a4292b914dc8f70dbf70e27cb9cbf"), looks := true }, kinds := [], alts := [], laidByText := true, laidKinds := [.data, .data, .data, .data, .pinned], laidTests := true, laidLooks := .later }
def FnExactEventsBytesCardSaid : Prop := Claim7.holds Tryd.pinned (.plain (OpenSpec.ofChange fnExactEventsBytesSpec)) fnExactEventsBytesCard

/-- THE TIED CARD OF 'laws.FnExactReadEvent'. -/
def fnExactReadEventCard : Claim7 := { stood := { row := fnExactReadEventRow, standIns := [], harness := (true, "91253b235cdce0df17500435301fa4fc850a4292b914dc8f70dbf70e27cb9cbf"), looks := true }, kinds := [], alts := [], laidByText := true, laidKinds := [.data, .data, .data, .data, .sentinel, .sentinel, .pinned], laidTests := true, laidLooks := .later }
def FnExactReadEventCardSaid : Prop := Claim7.holds Tryd.pinned (.plain (OpenSpec.ofChange fnExactReadEventSpec)) fnExactReadEventCard

/-- THE TIED CARD OF 'laws.FnExactReadEvents'. -/
def fnExactReadEventsCard : Claim7 := { stood := { row := fnExactReadEventsRow, standIns := [], harness := (true, "91253b235cdce0df17500435301fa4fc850a4292b914dc8f70dbf70e27cb9cbf"), looks := true }, kinds := [], alts := [], laidByText := true, laidKinds := [.data, .data, .data, .data, .sentinel, .sentinel, .pinned], laidTests := true, laidLooks := .later }
def FnExactReadEventsCardSaid : Prop := Claim7.holds Tryd.pinned (.plain (OpenSpec.ofChange fnExactReadEventsSpec)) fnExactReadEventsCard

/-- THE SECOND FORM's CARD OF 'laws.FnExactGoodEvent'. -/
def fnExactGoodEventUptoCard : Claim7 := { stood := { row := fnExactGoodEventUptoRow, standIns := [], harness := (true, "91253b235cdce0df17500435301fa4fc850a4292b914dc8f70dbf70e27cb9cbf"), looks := true }, kinds := [], alts := [], laidByText := true, laidKinds := [.data, .pinned], laidTests := true, laidLooks := .later }
def FnExactGoodEventUptoCardSaid : Prop := Claim7.holds Tryd.pinned (.plain (OpenSpec.upto fnExactGoodEventSpec)) fnExactGoodEventUptoCard

/-- THE SECOND FORM's CARD OF 'laws.FnExactEventBytes'. -/
def fnExactEventBytesUptoCard : Claim7 := { stood := { row := fnExactEventBytesUptoRow, standIns := [], harness := (true, "91253b235cdce0df17500435301fa4fc850a4292b914dc8f70dbf70e27cb9cbf"), looks := true }, kinds := [], alts := [], laidByText := true, laidKinds := [.data, .data, .data, .data, .pinned], laidTests := true, laidLooks := .later }
def FnExactEventBytesUptoCardSaid : Prop := Claim7.holds Tryd.pinned (.plain (OpenSpec.upto fnExactEventBytesSpec)) fnExactEventBytesUptoCard

/-- THE SECOND FORM's CARD OF 'laws.FnExactEventsBytes'. -/
def fnExactEventsBytesUptoCard : Claim7 := { stood := { row := fnExactEventsBytesUptoRow, standIns := [], harness := (true, "91253b235cdce0df17500435301fa4fc850a4292b914dc8f70dbf70e27cb9cbf"), looks := true }, kinds := [], alts := [], laidByText := true, laidKinds := [.data, .data, .data, .data, .pinned], laidTests := true, laidLooks := .later }
def FnExactEventsBytesUptoCardSaid : Prop := Claim7.holds Tryd.pinned (.plain (OpenSpec.upto fnExactEventsBytesSpec)) fnExactEventsBytesUptoCard

/-- THE SECOND FORM's CARD OF 'laws.FnExactReadEvent'. -/
def fnExactReadEventUptoCard : Claim7 := { stood := { row := fnExactReadEventUptoRow, standIns := [], harness := (true, "91253b235cdce0df17500435301fa4fc850a4292b914dc8f70dbf70e27cb9cbf"), looks := true }, kinds := [], alts := [], laidByText := true, laidKinds := [.data, .data, .data, .data, .sentinel, .sentinel, .pinned], laidTests := true, laidLooks := .later }
def FnExactReadEventUptoCardSaid : Prop := Claim7.holds Tryd.pinned (.plain (OpenSpec.upto fnExactReadEventSpec)) fnExactReadEventUptoCard

/-- THE SECOND FORM's CARD OF 'laws.FnExactReadEvents'. -/
def fnExactReadEventsUptoCard : Claim7 := { stood := { row := fnExactReadEventsUptoRow, standIns := [], harness := (true, "91253b235cdce0df17500435301fa4fc850a4292b914dc8f70dbf70e27cb9cbf"), looks := true }, kinds := [], alts := [], laidByText := true, laidKinds := [.data, .data, .data, .data, .sentinel, .sentinel, .pinned], laidTests := true, laidLooks := .later }
def FnExactReadEventsUptoCardSaid : Prop := Claim7.holds Tryd.pinned (.plain (OpenSpec.upto fnExactReadEventsSpec)) fnExactReadEventsUptoCard
end Rows
end Go.Proofs.YtggolfbojjjafaaDoor
