/-
  DERIVED. GIVEN WITH THE SEED: THE CARDS: each row of YtmegdbbbllffkaaGreatDoorRows.lean that lists a variable, with what it lists TIED to the program's text (the seventh form; the later family's looks); each row that meets fmt, with fmt's text TOLD by the authors' own Lean function (tested against real Go, not proved from fmt's source: count such statements apart). THE CARD IS WHAT COUNTS. Prove the row's statement (the work); the ties are given (YtmegdbbbllffkaaGreatDoorTie.lean); close each card by the builder's one call (the guide's Derived/Test/ToyasCard.lean, 'card_holds'). Laid BY PROGRAM, IN A SANDBOX (cutbox-door.mjs). By AI agents, Wed Nov 11 2026. No macro, syntax, notation, axiom, sorry.
-/
import Derived.Test.YtmegdbbbllffkaaGreatDoorRows
import GoSem.ClaimSeven
namespace Go.Proofs.YtmegdbbbllffkaaGreatDoor
namespace Rows

/-- THE TIED CARD OF 'kitbaglaw16.ValueTells'. -/
def valueTellsCard : Claim7 := { stood := { row := valueTellsRow, standIns := [], harness := (true, "c8aa3b844e18a121a6c40505afdab6025a97fdd1dfa787709dcee25fdd0e1ee7"), looks := false }, kinds := [], alts := [], laidByText := true, laidKinds := [.data], laidTests := true, laidLooks := .later }
def ValueTellsCardSaid : Prop := Claim7.holds Tryz.pinned (.plain (OpenSpec.ofChange valueTellsSpec)) valueTellsCard

/-- THE TIED CARD OF 'kitbaglaw16.ValueUnits'. -/
def valueUnitsCard : Claim7 := { stood := { row := valueUnitsRow, standIns := [], harness := (true, "c8aa3b844e18a121a6c40505afdab6025a97fdd1dfa787709dcee25fdd0e1ee7"), looks := false }, kinds := [], alts := [], laidByText := true, laidKinds := [.data], laidTests := true, laidLooks := .later }
def ValueUnitsCardSaid : Prop := Claim7.holds Tryz.pinned (.plain (OpenSpec.ofChange valueUnitsSpec)) valueUnitsCard

/-- THE TIED CARD OF 'kitbaglaw16.ValueParts'. -/
def valuePartsCard : Claim7 := { stood := { row := valuePartsRow, standIns := [], harness := (true, "c8aa3b844e18a121a6c40505afdab6025a97fdd1dfa787709dcee25fdd0e1ee7"), looks := false }, kinds := [], alts := [], laidByText := true, laidKinds := [.data], laidTests := true, laidLooks := .later }
def ValuePartsCardSaid : Prop := Claim7.holds Tryz.pinned (.plain (OpenSpec.ofChange valuePartsSpec)) valuePartsCard

/-- THE TIED CARD OF 'kitbaglaw16.ValueNamed'. -/
def valueNamedCard : Claim7 := { stood := { row := valueNamedRow, standIns := [], harness := (true, "c8aa3b844e18a121a6c40505afdab6025a97fdd1dfa787709dcee25fdd0e1ee7"), looks := false }, kinds := [], alts := [], laidByText := true, laidKinds := [.data], laidTests := true, laidLooks := .later }
def ValueNamedCardSaid : Prop := Claim7.holds Tryz.pinned (.plain (OpenSpec.ofChange valueNamedSpec)) valueNamedCard

/-- THE TIED CARD OF 'kitbaglaw16.ValueOnly'. -/
def valueOnlyCard : Claim7 := { stood := { row := valueOnlyRow, standIns := [], harness := (true, "c8aa3b844e18a121a6c40505afdab6025a97fdd1dfa787709dcee25fdd0e1ee7"), looks := false }, kinds := [], alts := [], laidByText := true, laidKinds := [.data], laidTests := true, laidLooks := .later }
def ValueOnlyCardSaid : Prop := Claim7.holds Tryz.pinned (.plain (OpenSpec.ofChange valueOnlySpec)) valueOnlyCard

/-- THE TIED CARD OF 'kitbaglaw16.ValueTyped'. -/
def valueTypedCard : Claim7 := { stood := { row := valueTypedRow, standIns := [], harness := (true, "c8aa3b844e18a121a6c40505afdab6025a97fdd1dfa787709dcee25fdd0e1ee7"), looks := false }, kinds := [], alts := [], laidByText := true, laidKinds := [.data], laidTests := true, laidLooks := .later }
def ValueTypedCardSaid : Prop := Claim7.holds Tryz.pinned (.plain (OpenSpec.ofChange valueTypedSpec)) valueTypedCard

/-- THE SECOND FORM's CARD OF 'kitbaglaw16.ValueTells'. -/
def valueTellsUptoCard : Claim7 := { stood := { row := valueTellsUptoRow, standIns := [], harness := (true, "c8aa3b844e18a121a6c40505afdab6025a97fdd1dfa787709dcee25fdd0e1ee7"), looks := false }, kinds := [], alts := [], laidByText := true, laidKinds := [.data], laidTests := true, laidLooks := .later }
def ValueTellsUptoCardSaid : Prop := Claim7.holds Tryz.pinned (.plain (OpenSpec.upto valueTellsSpec)) valueTellsUptoCard

/-- THE SECOND FORM's CARD OF 'kitbaglaw16.ValueUnits'. -/
def valueUnitsUptoCard : Claim7 := { stood := { row := valueUnitsUptoRow, standIns := [], harness := (true, "c8aa3b844e18a121a6c40505afdab6025a97fdd1dfa787709dcee25fdd0e1ee7"), looks := false }, kinds := [], alts := [], laidByText := true, laidKinds := [.data], laidTests := true, laidLooks := .later }
def ValueUnitsUptoCardSaid : Prop := Claim7.holds Tryz.pinned (.plain (OpenSpec.upto valueUnitsSpec)) valueUnitsUptoCard

/-- THE SECOND FORM's CARD OF 'kitbaglaw16.ValueParts'. -/
def valuePartsUptoCard : Claim7 := { stood := { row := valuePartsUptoRow, standIns := [], harness := (true, "c8aa3b844e18a121a6c40505afdab6025a97fdd1dfa787709dcee25fdd0e1ee7"), looks := false }, kinds := [], alts := [], laidByText := true, laidKinds := [.data], laidTests := true, laidLooks := .later }
def ValuePartsUptoCardSaid : Prop := Claim7.holds Tryz.pinned (.plain (OpenSpec.upto valuePartsSpec)) valuePartsUptoCard

/-- THE SECOND FORM's CARD OF 'kitbaglaw16.ValueNamed'. -/
def valueNamedUptoCard : Claim7 := { stood := { row := valueNamedUptoRow, standIns := [], harness := (true, "c8aa3b844e18a121a6c40505afdab6025a97fdd1dfa787709dcee25fdd0e1ee7"), looks := false }, kinds := [], alts := [], laidByText := true, laidKinds := [.data], laidTests := true, laidLooks := .later }
def ValueNamedUptoCardSaid : Prop := Claim7.holds Tryz.pinned (.plain (OpenSpec.upto valueNamedSpec)) valueNamedUptoCard

/-- THE SECOND FORM's CARD OF 'kitbaglaw16.ValueOnly'. -/
def valueOnlyUptoCard : Claim7 := { stood := { row := valueOnlyUptoRow, standIns := [], harness := (true, "c8aa3b844e18a121a6c40505afdab6025a97fdd1dfa787709dcee25fdd0e1ee7"), looks := false }, kinds := [], alts := [], laidByText := true, laidKinds := [.data], laidTests := true, laidLooks := .later }
def ValueOnlyUptoCardSaid : Prop := Claim7.holds Tryz.pinned (.plain (OpenSpec.upto valueOnlySpec)) valueOnlyUptoCard

/-- THE SECOND FORM's CARD OF 'kitbaglaw16.ValueTyped'. -/
def valueTypedUptoCard : Claim7 := { stood := { row := valueTypedUptoRow, standIns := [], harness := (true, "c8aa3b844e18a121a6c40505afdab6025a97fdd1dfa787709dcee25fdd0e1ee7"), looks := false }, kinds := [], alts := [], laidByText := true, laidKinds := [.data], laidTests := true, laidLooks := .later }
def ValueTypedUptoCardSaid : Prop := Claim7.holds Tryz.pinned (.plain (OpenSpec.upto valueTypedSpec)) valueTypedUptoCard
end Rows
end Go.Proofs.YtmegdbbbllffkaaGreatDoor
