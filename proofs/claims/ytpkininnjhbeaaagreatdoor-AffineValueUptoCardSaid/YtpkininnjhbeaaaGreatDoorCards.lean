/-
  DERIVED. GIVEN WITH THE SEED: THE CARDS: each row of YtpkininnjhbeaaaGreatDoorRows.lean that lists a variable, with what it lists TIED to the program's text (the seventh form; the later family's looks); each row that meets fmt, with fmt's text TOLD by the authors' own Lean function (tested against real Go, not proved from fmt's source: count such statements apart). THE CARD IS WHAT COUNTS. Prove the row's statement (the work); the ties are given (YtpkininnjhbeaaaGreatDoorTie.lean); close each card by the builder's one call (the guide's Derived/Test/ToyasCard.lean, 'card_holds'). Laid BY PROGRAM, IN A SANDBOX (cutbox-door.mjs). By AI agents, Wed Nov 11 2026. No macro, syntax, notation, axiom, sorry.
-/
import Derived.Test.YtpkininnjhbeaaaGreatDoorRows
import GoSem.ClaimSeven
namespace Go.Proofs.YtpkininnjhbeaaaGreatDoor
namespace Rows

/-- THE TIED CARD OF 'kitbaglaw19.AffineComposes'. -/
def affineComposesCard : Claim7 := { stood := { row := affineComposesRow, standIns := [], harness := (true, "3862d81d16611c9b4209bf860c7ce9fb839d3754358c9462dcae52b887b1b12a"), looks := false }, kinds := [], alts := [], laidByText := true, laidKinds := [.data], laidTests := true, laidLooks := .later }
def AffineComposesCardSaid : Prop := Claim7.holds Tryz.pinned (.plain (OpenSpec.ofChange affineComposesSpec)) affineComposesCard

/-- THE TIED CARD OF 'kitbaglaw19.AffineAdds'. -/
def affineAddsCard : Claim7 := { stood := { row := affineAddsRow, standIns := [], harness := (true, "3862d81d16611c9b4209bf860c7ce9fb839d3754358c9462dcae52b887b1b12a"), looks := false }, kinds := [], alts := [], laidByText := true, laidKinds := [.data], laidTests := true, laidLooks := .later }
def AffineAddsCardSaid : Prop := Claim7.holds Tryz.pinned (.plain (OpenSpec.ofChange affineAddsSpec)) affineAddsCard

/-- THE TIED CARD OF 'kitbaglaw19.AffineConstant'. -/
def affineConstantCard : Claim7 := { stood := { row := affineConstantRow, standIns := [], harness := (true, "3862d81d16611c9b4209bf860c7ce9fb839d3754358c9462dcae52b887b1b12a"), looks := false }, kinds := [], alts := [], laidByText := true, laidKinds := [.data], laidTests := true, laidLooks := .later }
def AffineConstantCardSaid : Prop := Claim7.holds Tryz.pinned (.plain (OpenSpec.ofChange affineConstantSpec)) affineConstantCard

/-- THE TIED CARD OF 'kitbaglaw19.AffineValue'. -/
def affineValueCard : Claim7 := { stood := { row := affineValueRow, standIns := [], harness := (true, "3862d81d16611c9b4209bf860c7ce9fb839d3754358c9462dcae52b887b1b12a"), looks := false }, kinds := [], alts := [], laidByText := true, laidKinds := [.data], laidTests := true, laidLooks := .later }
def AffineValueCardSaid : Prop := Claim7.holds Tryz.pinned (.plain (OpenSpec.ofChange affineValueSpec)) affineValueCard

/-- THE TIED CARD OF 'kitbaglaw19.AffineTells'. -/
def affineTellsCard : Claim7 := { stood := { row := affineTellsRow, standIns := [], harness := (true, "3862d81d16611c9b4209bf860c7ce9fb839d3754358c9462dcae52b887b1b12a"), looks := false }, kinds := [], alts := [], laidByText := true, laidKinds := [.data, .data, .data, .data], laidTests := true, laidLooks := .later }
def AffineTellsCardSaid : Prop := Claim7.holds Tryz.pinned (.plain (OpenSpec.ofChange affineTellsSpec)) affineTellsCard

/-- THE SECOND FORM's CARD OF 'kitbaglaw19.AffineComposes'. -/
def affineComposesUptoCard : Claim7 := { stood := { row := affineComposesUptoRow, standIns := [], harness := (true, "3862d81d16611c9b4209bf860c7ce9fb839d3754358c9462dcae52b887b1b12a"), looks := false }, kinds := [], alts := [], laidByText := true, laidKinds := [.data], laidTests := true, laidLooks := .later }
def AffineComposesUptoCardSaid : Prop := Claim7.holds Tryz.pinned (.plain (OpenSpec.upto affineComposesSpec)) affineComposesUptoCard

/-- THE SECOND FORM's CARD OF 'kitbaglaw19.AffineAdds'. -/
def affineAddsUptoCard : Claim7 := { stood := { row := affineAddsUptoRow, standIns := [], harness := (true, "3862d81d16611c9b4209bf860c7ce9fb839d3754358c9462dcae52b887b1b12a"), looks := false }, kinds := [], alts := [], laidByText := true, laidKinds := [.data], laidTests := true, laidLooks := .later }
def AffineAddsUptoCardSaid : Prop := Claim7.holds Tryz.pinned (.plain (OpenSpec.upto affineAddsSpec)) affineAddsUptoCard

/-- THE SECOND FORM's CARD OF 'kitbaglaw19.AffineConstant'. -/
def affineConstantUptoCard : Claim7 := { stood := { row := affineConstantUptoRow, standIns := [], harness := (true, "3862d81d16611c9b4209bf860c7ce9fb839d3754358c9462dcae52b887b1b12a"), looks := false }, kinds := [], alts := [], laidByText := true, laidKinds := [.data], laidTests := true, laidLooks := .later }
def AffineConstantUptoCardSaid : Prop := Claim7.holds Tryz.pinned (.plain (OpenSpec.upto affineConstantSpec)) affineConstantUptoCard

/-- THE SECOND FORM's CARD OF 'kitbaglaw19.AffineValue'. -/
def affineValueUptoCard : Claim7 := { stood := { row := affineValueUptoRow, standIns := [], harness := (true, "3862d81d16611c9b4209bf860c7ce9fb839d3754358c9462dcae52b887b1b12a"), looks := false }, kinds := [], alts := [], laidByText := true, laidKinds := [.data], laidTests := true, laidLooks := .later }
def AffineValueUptoCardSaid : Prop := Claim7.holds Tryz.pinned (.plain (OpenSpec.upto affineValueSpec)) affineValueUptoCard

/-- THE SECOND FORM's CARD OF 'kitbaglaw19.AffineTells'. -/
def affineTellsUptoCard : Claim7 := { stood := { row := affineTellsUptoRow, standIns := [], harness := (true, "3862d81d16611c9b4209bf860c7ce9fb839d3754358c9462dcae52b887b1b12a"), looks := false }, kinds := [], alts := [], laidByText := true, laidKinds := [.data, .data, .data, .data], laidTests := true, laidLooks := .later }
def AffineTellsUptoCardSaid : Prop := Claim7.holds Tryz.pinned (.plain (OpenSpec.upto affineTellsSpec)) affineTellsUptoCard
end Rows
end Go.Proofs.YtpkininnjhbeaaaGreatDoor
