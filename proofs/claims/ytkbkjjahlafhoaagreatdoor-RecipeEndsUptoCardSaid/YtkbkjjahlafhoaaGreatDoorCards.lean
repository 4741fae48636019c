/-
  DERIVED. GIVEN WITH THE SEED: THE CARDS: each row of YtkbkjjahlafhoaaGreatDoorRows.lean that lists a variable, with what it lists TIED to the program's text (the seventh form; the later family's looks); each row that meets fmt, with fmt's text TOLD by the authors' own Lean function (tested against real Go, not proved from fmt's source: count such statements apart). THE CARD IS WHAT COUNTS. Prove the row's statement (the work); the ties are given (YtkbkjjahlafhoaaGreatDoorTie.lean); close each card by the builder's one call (the guide's Derived/Test/ToyasCard.lean, 'card_holds'). Laid BY PROGRAM, IN A SANDBOX (cutbox-door.mjs). By AI agents, Wed Nov 11 2026. No macro, syntax, notation, axiom, sorry.
-/
import Derived.Test.YtkbkjjahlafhoaaGreatDoorRows
import GoSem.ClaimSeven
namespace Go.Proofs.YtkbkjjahlafhoaaGreatDoor
namespace Rows

/-- THE TIED CARD OF 'kitbaglaw29.RecipeWhole'. -/
def recipeWholeCard : Claim7 := { stood := { row := recipeWholeRow, standIns := [], harness := (true, "2ffb57943643cbba0f82d558da07fc531c756fa5ff0ce22ce2be6aedafebb745"), looks := true }, kinds := [], alts := [], laidByText := true, laidKinds := [.data], laidTests := true, laidLooks := .later }
def RecipeWholeCardSaid : Prop := Claim7.holds Tryz.pinned (.plain (OpenSpec.ofChange recipeWholeSpec)) recipeWholeCard

/-- THE TIED CARD OF 'kitbaglaw29.RecipeEnds'. -/
def recipeEndsCard : Claim7 := { stood := { row := recipeEndsRow, standIns := [], harness := (true, "2ffb57943643cbba0f82d558da07fc531c756fa5ff0ce22ce2be6aedafebb745"), looks := true }, kinds := [], alts := [], laidByText := true, laidKinds := [.data], laidTests := true, laidLooks := .later }
def RecipeEndsCardSaid : Prop := Claim7.holds Tryz.pinned (.plain (OpenSpec.ofChange recipeEndsSpec)) recipeEndsCard

/-- THE TIED CARD OF 'kitbaglaw29.RecipeLinear'. -/
def recipeLinearCard : Claim7 := { stood := { row := recipeLinearRow, standIns := [], harness := (true, "2ffb57943643cbba0f82d558da07fc531c756fa5ff0ce22ce2be6aedafebb745"), looks := true }, kinds := [], alts := [], laidByText := true, laidKinds := [.data], laidTests := true, laidLooks := .later }
def RecipeLinearCardSaid : Prop := Claim7.holds Tryz.pinned (.plain (OpenSpec.ofChange recipeLinearSpec)) recipeLinearCard

/-- THE TIED CARD OF 'kitbaglaw29.RecipeNames'. -/
def recipeNamesCard : Claim7 := { stood := { row := recipeNamesRow, standIns := [], harness := (true, "2ffb57943643cbba0f82d558da07fc531c756fa5ff0ce22ce2be6aedafebb745"), looks := true }, kinds := [], alts := [], laidByText := true, laidKinds := [.data], laidTests := true, laidLooks := .later }
def RecipeNamesCardSaid : Prop := Claim7.holds Tryz.pinned (.plain (OpenSpec.ofChange recipeNamesSpec)) recipeNamesCard

/-- THE SECOND FORM's CARD OF 'kitbaglaw29.RecipeWhole'. -/
def recipeWholeUptoCard : Claim7 := { stood := { row := recipeWholeUptoRow, standIns := [], harness := (true, "2ffb57943643cbba0f82d558da07fc531c756fa5ff0ce22ce2be6aedafebb745"), looks := true }, kinds := [], alts := [], laidByText := true, laidKinds := [.data], laidTests := true, laidLooks := .later }
def RecipeWholeUptoCardSaid : Prop := Claim7.holds Tryz.pinned (.plain (OpenSpec.upto recipeWholeSpec)) recipeWholeUptoCard

/-- THE SECOND FORM's CARD OF 'kitbaglaw29.RecipeEnds'. -/
def recipeEndsUptoCard : Claim7 := { stood := { row := recipeEndsUptoRow, standIns := [], harness := (true, "2ffb57943643cbba0f82d558da07fc531c756fa5ff0ce22ce2be6aedafebb745"), looks := true }, kinds := [], alts := [], laidByText := true, laidKinds := [.data], laidTests := true, laidLooks := .later }
def RecipeEndsUptoCardSaid : Prop := Claim7.holds Tryz.pinned (.plain (OpenSpec.upto recipeEndsSpec)) recipeEndsUptoCard

/-- THE SECOND FORM's CARD OF 'kitbaglaw29.RecipeLinear'. -/
def recipeLinearUptoCard : Claim7 := { stood := { row := recipeLinearUptoRow, standIns := [], harness := (true, "2ffb57943643cbba0f82d558da07fc531c756fa5ff0ce22ce2be6aedafebb745"), looks := true }, kinds := [], alts := [], laidByText := true, laidKinds := [.data], laidTests := true, laidLooks := .later }
def RecipeLinearUptoCardSaid : Prop := Claim7.holds Tryz.pinned (.plain (OpenSpec.upto recipeLinearSpec)) recipeLinearUptoCard

/-- THE SECOND FORM's CARD OF 'kitbaglaw29.RecipeNames'. -/
def recipeNamesUptoCard : Claim7 := { stood := { row := recipeNamesUptoRow, standIns := [], harness := (true, "2ffb57943643cbba0f82d558da07fc531c756fa5ff0ce22ce2be6aedafebb745"), looks := true }, kinds := [], alts := [], laidByText := true, laidKinds := [.data], laidTests := true, laidLooks := .later }
def RecipeNamesUptoCardSaid : Prop := Claim7.holds Tryz.pinned (.plain (OpenSpec.upto recipeNamesSpec)) recipeNamesUptoCard
end Rows
end Go.Proofs.YtkbkjjahlafhoaaGreatDoor
