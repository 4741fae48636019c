/-
  DERIVED. GIVEN WITH THE SEED: THE CARDS: each row of YtjhbbadljohadaaGreatDoorRows.lean that lists a variable, with what it lists TIED to the program's text (the seventh form; the later family's looks); each row that meets fmt, with fmt's text TOLD by the authors' own Lean function (tested against real Go, not proved from fmt's source: count such statements apart). THE CARD IS WHAT COUNTS. Prove the row's statement (the work); the ties are given (YtjhbbadljohadaaGreatDoorTie.lean); close each card by the builder's one call (the guide's Derived/Test/ToyasCard.lean, 'card_holds'). Laid BY PROGRAM, IN A SANDBOX (cutbox-door.mjs). By AI agents, Wed Nov 11 2026. No macro, syntax, notation, axiom, sorry.
-/
import Derived.Test.YtjhbbadljohadaaGreatDoorRows
import GoSem.ClaimSeven
namespace Go.Proofs.YtjhbbadljohadaaGreatDoor
namespace Rows

/-- THE TIED CARD OF 'kitbaglaw15.InferTells'. -/
def inferTellsCard : Claim7 := { stood := { row := inferTellsRow, standIns := [], harness := (true, "a29a41f324062f604455abc4ade03a896896e75212cae0bd9527bed103ef5564"), looks := false }, kinds := [], alts := [], laidByText := true, laidKinds := [.data], laidTests := true, laidLooks := .later }
def InferTellsCardSaid : Prop := Claim7.holds Tryz.pinned (.plain (OpenSpec.ofChange inferTellsSpec)) inferTellsCard

/-- THE TIED CARD OF 'kitbaglaw15.InferReplaces'. -/
def inferReplacesCard : Claim7 := { stood := { row := inferReplacesRow, standIns := [], harness := (true, "a29a41f324062f604455abc4ade03a896896e75212cae0bd9527bed103ef5564"), looks := false }, kinds := [], alts := [], laidByText := true, laidKinds := [.data], laidTests := true, laidLooks := .later }
def InferReplacesCardSaid : Prop := Claim7.holds Tryz.pinned (.plain (OpenSpec.ofChange inferReplacesSpec)) inferReplacesCard

/-- THE TIED CARD OF 'kitbaglaw15.InferUnits'. -/
def inferUnitsCard : Claim7 := { stood := { row := inferUnitsRow, standIns := [], harness := (true, "a29a41f324062f604455abc4ade03a896896e75212cae0bd9527bed103ef5564"), looks := false }, kinds := [], alts := [], laidByText := true, laidKinds := [.data], laidTests := true, laidLooks := .later }
def InferUnitsCardSaid : Prop := Claim7.holds Tryz.pinned (.plain (OpenSpec.ofChange inferUnitsSpec)) inferUnitsCard

/-- THE TIED CARD OF 'kitbaglaw15.InferNames'. -/
def inferNamesCard : Claim7 := { stood := { row := inferNamesRow, standIns := [], harness := (true, "a29a41f324062f604455abc4ade03a896896e75212cae0bd9527bed103ef5564"), looks := false }, kinds := [], alts := [], laidByText := true, laidKinds := [.data], laidTests := true, laidLooks := .later }
def InferNamesCardSaid : Prop := Claim7.holds Tryz.pinned (.plain (OpenSpec.ofChange inferNamesSpec)) inferNamesCard

/-- THE SECOND FORM's CARD OF 'kitbaglaw15.InferTells'. -/
def inferTellsUptoCard : Claim7 := { stood := { row := inferTellsUptoRow, standIns := [], harness := (true, "a29a41f324062f604455abc4ade03a896896e75212cae0bd9527bed103ef5564"), looks := false }, kinds := [], alts := [], laidByText := true, laidKinds := [.data], laidTests := true, laidLooks := .later }
def InferTellsUptoCardSaid : Prop := Claim7.holds Tryz.pinned (.plain (OpenSpec.upto inferTellsSpec)) inferTellsUptoCard

/-- THE SECOND FORM's CARD OF 'kitbaglaw15.InferReplaces'. -/
def inferReplacesUptoCard : Claim7 := { stood := { row := inferReplacesUptoRow, standIns := [], harness := (true, "a29a41f324062f604455abc4ade03a896896e75212cae0bd9527bed103ef5564"), looks := false }, kinds := [], alts := [], laidByText := true, laidKinds := [.data], laidTests := true, laidLooks := .later }
def InferReplacesUptoCardSaid : Prop := Claim7.holds Tryz.pinned (.plain (OpenSpec.upto inferReplacesSpec)) inferReplacesUptoCard

/-- THE SECOND FORM's CARD OF 'kitbaglaw15.InferUnits'. -/
def inferUnitsUptoCard : Claim7 := { stood := { row := inferUnitsUptoRow, standIns := [], harness := (true, "a29a41f324062f604455abc4ade03a896896e75212cae0bd9527bed103ef5564"), looks := false }, kinds := [], alts := [], laidByText := true, laidKinds := [.data], laidTests := true, laidLooks := .later }
def InferUnitsUptoCardSaid : Prop := Claim7.holds Tryz.pinned (.plain (OpenSpec.upto inferUnitsSpec)) inferUnitsUptoCard

/-- THE SECOND FORM's CARD OF 'kitbaglaw15.InferNames'. -/
def inferNamesUptoCard : Claim7 := { stood := { row := inferNamesUptoRow, standIns := [], harness := (true, "a29a41f324062f604455abc4ade03a896896e75212cae0bd9527bed103ef5564"), looks := false }, kinds := [], alts := [], laidByText := true, laidKinds := [.data], laidTests := true, laidLooks := .later }
def InferNamesUptoCardSaid : Prop := Claim7.holds Tryz.pinned (.plain (OpenSpec.upto inferNamesSpec)) inferNamesUptoCard
end Rows
end Go.Proofs.YtjhbbadljohadaaGreatDoor
