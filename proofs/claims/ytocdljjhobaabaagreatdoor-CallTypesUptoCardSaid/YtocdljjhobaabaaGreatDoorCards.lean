/-
  DERIVED. GIVEN WITH THE SEED: THE CARDS: each row of YtocdljjhobaabaaGreatDoorRows.lean that lists a variable, with what it lists TIED to the program's text (the seventh form; the later family's looks); each row that meets fmt, with fmt's text TOLD by the authors' own Lean function (tested against real Go, not proved from fmt's source: count such statements apart). THE CARD IS WHAT COUNTS. Prove the row's statement (the work); the ties are given (YtocdljjhobaabaaGreatDoorTie.lean); close each card by the builder's one call (the guide's Derived/Test/ToyasCard.lean, 'card_holds'). Laid BY PROGRAM, IN A SANDBOX (cutbox-door.mjs). By AI agents, Wed Nov 11 2026. No macro, syntax, notation, axiom, sorry.
-/
import Derived.Test.YtocdljjhobaabaaGreatDoorRows
import GoSem.ClaimSeven
namespace Go.Proofs.YtocdljjhobaabaaGreatDoor
namespace Rows

/-- THE TIED CARD OF 'kitbaglaw18.CallGone'. -/
def callGoneCard : Claim7 := { stood := { row := callGoneRow, standIns := [], harness := (true, "7ec44e6808199d0521d0a14f4343c82b61d0be80c65346cf66d8338f6b6326a5"), looks := false }, kinds := [], alts := [], laidByText := true, laidKinds := [.data, .data, .data, .data], laidTests := true, laidLooks := .later }
def CallGoneCardSaid : Prop := Claim7.holds Tryz.pinned (.plain (OpenSpec.ofChange callGoneSpec)) callGoneCard

/-- THE TIED CARD OF 'kitbaglaw18.CallOrder'. -/
def callOrderCard : Claim7 := { stood := { row := callOrderRow, standIns := [], harness := (true, "7ec44e6808199d0521d0a14f4343c82b61d0be80c65346cf66d8338f6b6326a5"), looks := false }, kinds := [], alts := [], laidByText := true, laidKinds := [.data, .data, .data, .data], laidTests := true, laidLooks := .later }
def CallOrderCardSaid : Prop := Claim7.holds Tryz.pinned (.plain (OpenSpec.ofChange callOrderSpec)) callOrderCard

/-- THE TIED CARD OF 'kitbaglaw18.CallCircles'. -/
def callCirclesCard : Claim7 := { stood := { row := callCirclesRow, standIns := [], harness := (true, "7ec44e6808199d0521d0a14f4343c82b61d0be80c65346cf66d8338f6b6326a5"), looks := false }, kinds := [], alts := [], laidByText := true, laidKinds := [.data, .data, .data, .data], laidTests := true, laidLooks := .later }
def CallCirclesCardSaid : Prop := Claim7.holds Tryz.pinned (.plain (OpenSpec.ofChange callCirclesSpec)) callCirclesCard

/-- THE TIED CARD OF 'kitbaglaw18.CallTypes'. -/
def callTypesCard : Claim7 := { stood := { row := callTypesRow, standIns := [], harness := (true, "7ec44e6808199d0521d0a14f4343c82b61d0be80c65346cf66d8338f6b6326a5"), looks := false }, kinds := [], alts := [], laidByText := true, laidKinds := [.data, .data, .data, .data], laidTests := true, laidLooks := .later }
def CallTypesCardSaid : Prop := Claim7.holds Tryz.pinned (.plain (OpenSpec.ofChange callTypesSpec)) callTypesCard

/-- THE SECOND FORM's CARD OF 'kitbaglaw18.CallGone'. -/
def callGoneUptoCard : Claim7 := { stood := { row := callGoneUptoRow, standIns := [], harness := (true, "7ec44e6808199d0521d0a14f4343c82b61d0be80c65346cf66d8338f6b6326a5"), looks := false }, kinds := [], alts := [], laidByText := true, laidKinds := [.data, .data, .data, .data], laidTests := true, laidLooks := .later }
def CallGoneUptoCardSaid : Prop := Claim7.holds Tryz.pinned (.plain (OpenSpec.upto callGoneSpec)) callGoneUptoCard

/-- THE SECOND FORM's CARD OF 'kitbaglaw18.CallOrder'. -/
def callOrderUptoCard : Claim7 := { stood := { row := callOrderUptoRow, standIns := [], harness := (true, "7ec44e6808199d0521d0a14f4343c82b61d0be80c65346cf66d8338f6b6326a5"), looks := false }, kinds := [], alts := [], laidByText := true, laidKinds := [.data, .data, .data, .data], laidTests := true, laidLooks := .later }
def CallOrderUptoCardSaid : Prop := Claim7.holds Tryz.pinned (.plain (OpenSpec.upto callOrderSpec)) callOrderUptoCard

/-- THE SECOND FORM's CARD OF 'kitbaglaw18.CallCircles'. -/
def callCirclesUptoCard : Claim7 := { stood := { row := callCirclesUptoRow, standIns := [], harness := (true, "7ec44e6808199d0521d0a14f4343c82b61d0be80c65346cf66d8338f6b6326a5"), looks := false }, kinds := [], alts := [], laidByText := true, laidKinds := [.data, .data, .data, .data], laidTests := true, laidLooks := .later }
def CallCirclesUptoCardSaid : Prop := Claim7.holds Tryz.pinned (.plain (OpenSpec.upto callCirclesSpec)) callCirclesUptoCard

/-- THE SECOND FORM's CARD OF 'kitbaglaw18.CallTypes'. -/
def callTypesUptoCard : Claim7 := { stood := { row := callTypesUptoRow, standIns := [], harness := (true, "7ec44e6808199d0521d0a14f4343c82b61d0be80c65346cf66d8338f6b6326a5"), looks := false }, kinds := [], alts := [], laidByText := true, laidKinds := [.data, .data, .data, .data], laidTests := true, laidLooks := .later }
def CallTypesUptoCardSaid : Prop := Claim7.holds Tryz.pinned (.plain (OpenSpec.upto callTypesSpec)) callTypesUptoCard
end Rows
end Go.Proofs.YtocdljjhobaabaaGreatDoor
