/-
  DERIVED. GIVEN WITH THE SEED: THE CARDS: each row of YtbdoipfmafbhoaaGreatDoorRows.lean that lists a variable, with what it lists TIED to the program's text (the seventh form; the later family's looks); each row that meets fmt, with fmt's text TOLD by the authors' own Lean function (tested against real Go, not proved from fmt's source: count such statements apart). THE CARD IS WHAT COUNTS. Prove the row's statement (the work); the ties are given (YtbdoipfmafbhoaaGreatDoorTie.lean); close each card by the builder's one call (the guide's Derived/Test/ToyasCard.lean, 'card_holds'). Laid BY PROGRAM, IN A SANDBOX (cutbox-door.mjs). By AI agents, Wed Nov 11 2026. No macro, syntax, notation, axiom, sorry.
-/
import Derived.Test.YtbdoipfmafbhoaaGreatDoorRows
import GoSem.ClaimSeven
namespace Go.Proofs.YtbdoipfmafbhoaaGreatDoor
namespace Rows

/-- THE TIED CARD OF 'kitbaglaw28.ParcelTells'. -/
def parcelTellsCard : Claim7 := { stood := { row := parcelTellsRow, standIns := [], harness := (true, "e18da2293ac64dcd7932406f0e0750abad80e508b5be8909867a5307fa2d012e"), looks := true }, kinds := [], alts := [], laidByText := true, laidKinds := [.data], laidTests := true, laidLooks := .later }
def ParcelTellsCardSaid : Prop := Claim7.holds Tryz.pinned (.plain (OpenSpec.ofChange parcelTellsSpec)) parcelTellsCard

/-- THE TIED CARD OF 'kitbaglaw28.ParcelOnce'. -/
def parcelOnceCard : Claim7 := { stood := { row := parcelOnceRow, standIns := [], harness := (true, "e18da2293ac64dcd7932406f0e0750abad80e508b5be8909867a5307fa2d012e"), looks := true }, kinds := [], alts := [], laidByText := true, laidKinds := [.data], laidTests := true, laidLooks := .later }
def ParcelOnceCardSaid : Prop := Claim7.holds Tryz.pinned (.plain (OpenSpec.ofChange parcelOnceSpec)) parcelOnceCard

/-- THE TIED CARD OF 'kitbaglaw28.ParcelLess'. -/
def parcelLessCard : Claim7 := { stood := { row := parcelLessRow, standIns := [], harness := (true, "e18da2293ac64dcd7932406f0e0750abad80e508b5be8909867a5307fa2d012e"), looks := true }, kinds := [], alts := [], laidByText := true, laidKinds := [.data], laidTests := true, laidLooks := .later }
def ParcelLessCardSaid : Prop := Claim7.holds Tryz.pinned (.plain (OpenSpec.ofChange parcelLessSpec)) parcelLessCard

/-- THE TIED CARD OF 'kitbaglaw28.ParcelBlame'. -/
def parcelBlameCard : Claim7 := { stood := { row := parcelBlameRow, standIns := [], harness := (true, "e18da2293ac64dcd7932406f0e0750abad80e508b5be8909867a5307fa2d012e"), looks := true }, kinds := [], alts := [], laidByText := true, laidKinds := [.data], laidTests := true, laidLooks := .later }
def ParcelBlameCardSaid : Prop := Claim7.holds Tryz.pinned (.plain (OpenSpec.ofChange parcelBlameSpec)) parcelBlameCard

/-- THE TIED CARD OF 'kitbaglaw28.ParcelOther'. -/
def parcelOtherCard : Claim7 := { stood := { row := parcelOtherRow, standIns := [], harness := (true, "e18da2293ac64dcd7932406f0e0750abad80e508b5be8909867a5307fa2d012e"), looks := true }, kinds := [], alts := [], laidByText := true, laidKinds := [.data], laidTests := true, laidLooks := .later }
def ParcelOtherCardSaid : Prop := Claim7.holds Tryz.pinned (.plain (OpenSpec.ofChange parcelOtherSpec)) parcelOtherCard

/-- THE SECOND FORM's CARD OF 'kitbaglaw28.ParcelTells'. -/
def parcelTellsUptoCard : Claim7 := { stood := { row := parcelTellsUptoRow, standIns := [], harness := (true, "e18da2293ac64dcd7932406f0e0750abad80e508b5be8909867a5307fa2d012e"), looks := true }, kinds := [], alts := [], laidByText := true, laidKinds := [.data], laidTests := true, laidLooks := .later }
def ParcelTellsUptoCardSaid : Prop := Claim7.holds Tryz.pinned (.plain (OpenSpec.upto parcelTellsSpec)) parcelTellsUptoCard

/-- THE SECOND FORM's CARD OF 'kitbaglaw28.ParcelOnce'. -/
def parcelOnceUptoCard : Claim7 := { stood := { row := parcelOnceUptoRow, standIns := [], harness := (true, "e18da2293ac64dcd7932406f0e0750abad80e508b5be8909867a5307fa2d012e"), looks := true }, kinds := [], alts := [], laidByText := true, laidKinds := [.data], laidTests := true, laidLooks := .later }
def ParcelOnceUptoCardSaid : Prop := Claim7.holds Tryz.pinned (.plain (OpenSpec.upto parcelOnceSpec)) parcelOnceUptoCard

/-- THE SECOND FORM's CARD OF 'kitbaglaw28.ParcelLess'. -/
def parcelLessUptoCard : Claim7 := { stood := { row := parcelLessUptoRow, standIns := [], harness := (true, "e18da2293ac64dcd7932406f0e0750abad80e508b5be8909867a5307fa2d012e"), looks := true }, kinds := [], alts := [], laidByText := true, laidKinds := [.data], laidTests := true, laidLooks := .later }
def ParcelLessUptoCardSaid : Prop := Claim7.holds Tryz.pinned (.plain (OpenSpec.upto parcelLessSpec)) parcelLessUptoCard

/-- THE SECOND FORM's CARD OF 'kitbaglaw28.ParcelBlame'. -/
def parcelBlameUptoCard : Claim7 := { stood := { row := parcelBlameUptoRow, standIns := [], harness := (true, "e18da2293ac64dcd7932406f0e0750abad80e508b5be8909867a5307fa2d012e"), looks := true }, kinds := [], alts := [], laidByText := true, laidKinds := [.data], laidTests := true, laidLooks := .later }
def ParcelBlameUptoCardSaid : Prop := Claim7.holds Tryz.pinned (.plain (OpenSpec.upto parcelBlameSpec)) parcelBlameUptoCard

/-- THE SECOND FORM's CARD OF 'kitbaglaw28.ParcelOther'. -/
def parcelOtherUptoCard : Claim7 := { stood := { row := parcelOtherUptoRow, standIns := [], harness := (true, "e18da2293ac64dcd7932406f0e0750abad80e508b5be8909867a5307fa2d012e"), looks := true }, kinds := [], alts := [], laidByText := true, laidKinds := [.data], laidTests := true, laidLooks := .later }
def ParcelOtherUptoCardSaid : Prop := Claim7.holds Tryz.pinned (.plain (OpenSpec.upto parcelOtherSpec)) parcelOtherUptoCard
end Rows
end Go.Proofs.YtbdoipfmafbhoaaGreatDoor
