/-
  NARROWER THAN 'FOR EVERY INPUT', by the rows' own cells (each row's printed sentence says how): ValueTells: loops, laid · ValueUnits: loops, laid · ValueParts: loops, laid · ValueNamed: loops, laid · ValueOnly: loops, laid · ValueTyped: loops, laid.
  DERIVED. THE GIVEN ROWS OF THIS SEAT. 6 by the template 'for every input the law returns true; each argument reads behind the call as it read before'; 0 by the template 'total and deterministic' (their statements: YtmegdbbbllffkaaGreatDoorTotals.lean).
  GIVEN WITH THE SEED: the statements are not yours to turn. If you find one false, say at which input.
  Laid BY PROGRAM, IN A SANDBOX (cutbox-rows.mjs): the forced cells as the released guide's own fill.sh prints them over the translation d3adbec16e4143e5… (all of the seat's roots in one cut). By AI agents, Wed Nov 11 2026. No macro, syntax, notation, axiom, sorry.
-/
import Derived.Test.YtmegdbbbllffkaaGreatDoorChecked
import GoSem.Claim
import GoSem.ClaimJoined
import GoSem.ClaimMapViews
import Derived.JoinedTies
import Derived.KernelRfl
namespace Go.Proofs.YtmegdbbbllffkaaGreatDoor
/- THE CELL 'sum', in the pinned program and in every row, IS THE sha256 OF THE DUMP (.gsa) THAT YtmegdbbbllffkaaGreatDoorProg.lean LOADS. Nothing in Lean hashes anything: it is a label: what it is worth is what the hold of that sum in a sandbox is worth. -/
noncomputable def Tryz.pinned : Pinned := { name := "ytmegdbbbllffkaagreatdoor", sum := "d3adbec16e4143e59ec0dc09ddc497812adfebfc311502c123ccb244c83c77d0", checked := Tryz.checked }
namespace Rows
def none {H : Type} : Left H := { results := [], args := [] }

/- WHAT THE LISTED PACKAGE-LEVEL VARIABLES READ AS WHEN THE CALL BEGINS. Each datum BY PROGRAM (the guide's laid-datum.mjs) off the statement by which the dump's own 'gosem.cut.vars' lays the variable. In a bare row this is a premise. The card (YtmegdbbbllffkaaGreatDoorCards.lean) ties it to the program's text. -/
def laid_kitbag_lexer_signs {H : Type} : DataW H := .agg [.lit (.int .u8 40), .lit (.int .u8 41), .lit (.int .u8 44), .lit (.int .u8 59), .lit (.int .u8 58), .lit (.int .u8 61), .lit (.int .u8 60), .lit (.int .u8 43), .lit (.int .u8 45), .lit (.int .u8 42), .lit (.int .u8 47), .lit (.int .u8 123), .lit (.int .u8 125)]

/-- 'kitbaglaw16.ValueTells': WHATEVER THE INPUT: true; the input reads as it did. -/
def valueTellsSpec : ChangeSpec := { name := "valueTells", fn := fun _ => fun
  | [d1, d2, d3] => { results := [.lit (.bool true)], args := [d1, d2, d3] }
  | _ => none }
def valueTellsRow : OpenClaim := { program := "ytmegdbbbllffkaagreatdoor", sum := "d3adbec16e4143e59ec0dc09ddc497812adfebfc311502c123ccb244c83c77d0", func := "kitbag/kitbaglaw16.ValueTells", spec := "valueTells", inPlace := ["internal/abi.NoEscape"], unfollowed := true, recurses := true, named := ["kitbag/lexer.signs"], loops := true, apart := false, laid := [("kitbag/lexer.signs", laid_kitbag_lexer_signs)] }
def ValueTellsSaid : Prop := valueTellsRow.holds Tryz.pinned (OpenSpec.ofChange valueTellsSpec)

/-- ITS FALSE NEIGHBOUR: 'it returns false'. Refute it at one input. -/
def valueTellsWrong : ChangeSpec := { name := "valueTells", fn := fun _ => fun
  | [d1, d2, d3] => { results := [.lit (.bool false)], args := [d1, d2, d3] }
  | _ => none }
def ValueTellsWrongFalsely : Prop := valueTellsRow.holds Tryz.pinned (OpenSpec.ofChange valueTellsWrong)

/-- 'kitbaglaw16.ValueUnits': WHATEVER THE INPUT: true; the input reads as it did. -/
def valueUnitsSpec : ChangeSpec := { name := "valueUnits", fn := fun _ => fun
  | [d1, d2, d3] => { results := [.lit (.bool true)], args := [d1, d2, d3] }
  | _ => none }
def valueUnitsRow : OpenClaim := { program := "ytmegdbbbllffkaagreatdoor", sum := "d3adbec16e4143e59ec0dc09ddc497812adfebfc311502c123ccb244c83c77d0", func := "kitbag/kitbaglaw16.ValueUnits", spec := "valueUnits", inPlace := ["internal/abi.NoEscape"], unfollowed := true, recurses := true, named := ["kitbag/lexer.signs"], loops := true, apart := false, laid := [("kitbag/lexer.signs", laid_kitbag_lexer_signs)] }
def ValueUnitsSaid : Prop := valueUnitsRow.holds Tryz.pinned (OpenSpec.ofChange valueUnitsSpec)

/-- ITS FALSE NEIGHBOUR: 'it returns false'. Refute it at one input. -/
def valueUnitsWrong : ChangeSpec := { name := "valueUnits", fn := fun _ => fun
  | [d1, d2, d3] => { results := [.lit (.bool false)], args := [d1, d2, d3] }
  | _ => none }
def ValueUnitsWrongFalsely : Prop := valueUnitsRow.holds Tryz.pinned (OpenSpec.ofChange valueUnitsWrong)

/-- 'kitbaglaw16.ValueParts': WHATEVER THE INPUT: true; the input reads as it did. -/
def valuePartsSpec : ChangeSpec := { name := "valueParts", fn := fun _ => fun
  | [d1, d2, d3] => { results := [.lit (.bool true)], args := [d1, d2, d3] }
  | _ => none }
def valuePartsRow : OpenClaim := { program := "ytmegdbbbllffkaagreatdoor", sum := "d3adbec16e4143e59ec0dc09ddc497812adfebfc311502c123ccb244c83c77d0", func := "kitbag/kitbaglaw16.ValueParts", spec := "valueParts", inPlace := ["internal/abi.NoEscape"], unfollowed := true, recurses := true, named := ["kitbag/lexer.signs"], loops := true, apart := false, laid := [("kitbag/lexer.signs", laid_kitbag_lexer_signs)] }
def ValuePartsSaid : Prop := valuePartsRow.holds Tryz.pinned (OpenSpec.ofChange valuePartsSpec)

/-- ITS FALSE NEIGHBOUR: 'it returns false'. Refute it at one input. -/
def valuePartsWrong : ChangeSpec := { name := "valueParts", fn := fun _ => fun
  | [d1, d2, d3] => { results := [.lit (.bool false)], args := [d1, d2, d3] }
  | _ => none }
def ValuePartsWrongFalsely : Prop := valuePartsRow.holds Tryz.pinned (OpenSpec.ofChange valuePartsWrong)

/-- 'kitbaglaw16.ValueNamed': WHATEVER THE INPUT: true; the input reads as it did. -/
def valueNamedSpec : ChangeSpec := { name := "valueNamed", fn := fun _ => fun
  | [d1, d2, d3, d4, d5] => { results := [.lit (.bool true)], args := [d1, d2, d3, d4, d5] }
  | _ => none }
def valueNamedRow : OpenClaim := { program := "ytmegdbbbllffkaagreatdoor", sum := "d3adbec16e4143e59ec0dc09ddc497812adfebfc311502c123ccb244c83c77d0", func := "kitbag/kitbaglaw16.ValueNamed", spec := "valueNamed", inPlace := ["internal/abi.NoEscape"], unfollowed := true, recurses := true, named := ["kitbag/lexer.signs"], loops := true, apart := false, laid := [("kitbag/lexer.signs", laid_kitbag_lexer_signs)] }
def ValueNamedSaid : Prop := valueNamedRow.holds Tryz.pinned (OpenSpec.ofChange valueNamedSpec)

/-- ITS FALSE NEIGHBOUR: 'it returns false'. Refute it at one input. -/
def valueNamedWrong : ChangeSpec := { name := "valueNamed", fn := fun _ => fun
  | [d1, d2, d3, d4, d5] => { results := [.lit (.bool false)], args := [d1, d2, d3, d4, d5] }
  | _ => none }
def ValueNamedWrongFalsely : Prop := valueNamedRow.holds Tryz.pinned (OpenSpec.ofChange valueNamedWrong)

/-- 'kitbaglaw16.ValueOnly': WHATEVER THE INPUT: true; the input reads as it did. -/
def valueOnlySpec : ChangeSpec := { name := "valueOnly", fn := fun _ => fun
  | [d1, d2, d3] => { results := [.lit (.bool true)], args := [d1, d2, d3] }
  | _ => none }
def valueOnlyRow : OpenClaim := { program := "ytmegdbbbllffkaagreatdoor", sum := "d3adbec16e4143e59ec0dc09ddc497812adfebfc311502c123ccb244c83c77d0", func := "kitbag/kitbaglaw16.ValueOnly", spec := "valueOnly", inPlace := ["internal/abi.NoEscape"], unfollowed := true, recurses := true, named := ["kitbag/lexer.signs"], loops := true, apart := false, laid := [("kitbag/lexer.signs", laid_kitbag_lexer_signs)] }
def ValueOnlySaid : Prop := valueOnlyRow.holds Tryz.pinned (OpenSpec.ofChange valueOnlySpec)

/-- ITS FALSE NEIGHBOUR: 'it returns false'. Refute it at one input. -/
def valueOnlyWrong : ChangeSpec := { name := "valueOnly", fn := fun _ => fun
  | [d1, d2, d3] => { results := [.lit (.bool false)], args := [d1, d2, d3] }
  | _ => none }
def ValueOnlyWrongFalsely : Prop := valueOnlyRow.holds Tryz.pinned (OpenSpec.ofChange valueOnlyWrong)

/-- 'kitbaglaw16.ValueTyped': WHATEVER THE INPUT: true; the input reads as it did. -/
def valueTypedSpec : ChangeSpec := { name := "valueTyped", fn := fun _ => fun
  | [d1, d2, d3, d4] => { results := [.lit (.bool true)], args := [d1, d2, d3, d4] }
  | _ => none }
def valueTypedRow : OpenClaim := { program := "ytmegdbbbllffkaagreatdoor", sum := "d3adbec16e4143e59ec0dc09ddc497812adfebfc311502c123ccb244c83c77d0", func := "kitbag/kitbaglaw16.ValueTyped", spec := "valueTyped", inPlace := ["internal/abi.NoEscape"], unfollowed := true, recurses := true, named := ["kitbag/lexer.signs"], loops := true, apart := false, laid := [("kitbag/lexer.signs", laid_kitbag_lexer_signs)] }
def ValueTypedSaid : Prop := valueTypedRow.holds Tryz.pinned (OpenSpec.ofChange valueTypedSpec)

/-- ITS FALSE NEIGHBOUR: 'it returns false'. Refute it at one input. -/
def valueTypedWrong : ChangeSpec := { name := "valueTyped", fn := fun _ => fun
  | [d1, d2, d3, d4] => { results := [.lit (.bool false)], args := [d1, d2, d3, d4] }
  | _ => none }
def ValueTypedWrongFalsely : Prop := valueTypedRow.holds Tryz.pinned (OpenSpec.ofChange valueTypedWrong)

/- THE SECOND FORM. 'bulk': how many values and letters a reading holds, each counted each time it is reached (what is shared counts as often as it is met; a slice's spare places count too). A statement '..UptoSaid' is the law's where the arguments, and the package variables that the reading takes, are together of bulk at most 1048576: NARROWER than '..Said'. Prove '..Said' where nothing that the law and all that it calls make is longer than what came in: it says more and counts as full. Else prove '..UptoSaid'. A law counts once. -/
mutual
def uptoBulk {H : Type} : DataW H → Nat
  | .lit (.string bytes) => bytes.length + 1
  | .lit _ => 1
  | .nil => 1
  | .ptr d => uptoBulk d + 1
  | .slice elems spare => uptoBulkAll elems + uptoBulkAll spare + 1
  | .agg parts => uptoBulkAll parts + 1
  | .iface _ d => uptoBulk d + 1
  | .map entries => uptoBulkEntries entries + 1
  | .held _ => 1
def uptoBulkAll {H : Type} : List (DataW H) → Nat
  | [] => 0
  | d :: r => uptoBulk d + uptoBulkAll r
def uptoBulkEntries {H : Type} : List (Lit × DataW H) → Nat
  | [] => 0
  | x :: r => uptoBulkEntry x + uptoBulkEntries r
def uptoBulkEntry {H : Type} : Lit × DataW H → Nat
  | (.string bytes, d) => bytes.length + uptoBulk d + 1
  | (_, d) => uptoBulk d + 1
 end
def uptoSmall : (H : Type) → List (DataW H) → Bool := fun _ ds => decide (uptoBulkAll ds ≤ 1048576)
def OpenSpec.upto (s : _root_.Go.ChangeSpec) : _root_.Go.OpenSpec := { _root_.Go.OpenSpec.ofChange s with cond := some uptoSmall }

/-- 'kitbaglaw16.ValueTells', WHERE WHAT IT READS IS OF BULK AT MOST 1048576: true; the input reads as it did. -/
def valueTellsUptoRow : OpenClaim := { program := "ytmegdbbbllffkaagreatdoor", sum := "d3adbec16e4143e59ec0dc09ddc497812adfebfc311502c123ccb244c83c77d0", func := "kitbag/kitbaglaw16.ValueTells", spec := "valueTells", inPlace := ["internal/abi.NoEscape"], unfollowed := true, recurses := true, named := ["kitbag/lexer.signs"], loops := true, apart := false, laid := [("kitbag/lexer.signs", laid_kitbag_lexer_signs)], narrowed := true }
def ValueTellsUptoSaid : Prop := valueTellsUptoRow.holds Tryz.pinned (OpenSpec.upto valueTellsSpec)

/-- 'kitbaglaw16.ValueUnits', WHERE WHAT IT READS IS OF BULK AT MOST 1048576: true; the input reads as it did. -/
def valueUnitsUptoRow : OpenClaim := { program := "ytmegdbbbllffkaagreatdoor", sum := "d3adbec16e4143e59ec0dc09ddc497812adfebfc311502c123ccb244c83c77d0", func := "kitbag/kitbaglaw16.ValueUnits", spec := "valueUnits", inPlace := ["internal/abi.NoEscape"], unfollowed := true, recurses := true, named := ["kitbag/lexer.signs"], loops := true, apart := false, laid := [("kitbag/lexer.signs", laid_kitbag_lexer_signs)], narrowed := true }
def ValueUnitsUptoSaid : Prop := valueUnitsUptoRow.holds Tryz.pinned (OpenSpec.upto valueUnitsSpec)

/-- 'kitbaglaw16.ValueParts', WHERE WHAT IT READS IS OF BULK AT MOST 1048576: true; the input reads as it did. -/
def valuePartsUptoRow : OpenClaim := { program := "ytmegdbbbllffkaagreatdoor", sum := "d3adbec16e4143e59ec0dc09ddc497812adfebfc311502c123ccb244c83c77d0", func := "kitbag/kitbaglaw16.ValueParts", spec := "valueParts", inPlace := ["internal/abi.NoEscape"], unfollowed := true, recurses := true, named := ["kitbag/lexer.signs"], loops := true, apart := false, laid := [("kitbag/lexer.signs", laid_kitbag_lexer_signs)], narrowed := true }
def ValuePartsUptoSaid : Prop := valuePartsUptoRow.holds Tryz.pinned (OpenSpec.upto valuePartsSpec)

/-- 'kitbaglaw16.ValueNamed', WHERE WHAT IT READS IS OF BULK AT MOST 1048576: true; the input reads as it did. -/
def valueNamedUptoRow : OpenClaim := { program := "ytmegdbbbllffkaagreatdoor", sum := "d3adbec16e4143e59ec0dc09ddc497812adfebfc311502c123ccb244c83c77d0", func := "kitbag/kitbaglaw16.ValueNamed", spec := "valueNamed", inPlace := ["internal/abi.NoEscape"], unfollowed := true, recurses := true, named := ["kitbag/lexer.signs"], loops := true, apart := false, laid := [("kitbag/lexer.signs", laid_kitbag_lexer_signs)], narrowed := true }
def ValueNamedUptoSaid : Prop := valueNamedUptoRow.holds Tryz.pinned (OpenSpec.upto valueNamedSpec)

/-- 'kitbaglaw16.ValueOnly', WHERE WHAT IT READS IS OF BULK AT MOST 1048576: true; the input reads as it did. -/
def valueOnlyUptoRow : OpenClaim := { program := "ytmegdbbbllffkaagreatdoor", sum := "d3adbec16e4143e59ec0dc09ddc497812adfebfc311502c123ccb244c83c77d0", func := "kitbag/kitbaglaw16.ValueOnly", spec := "valueOnly", inPlace := ["internal/abi.NoEscape"], unfollowed := true, recurses := true, named := ["kitbag/lexer.signs"], loops := true, apart := false, laid := [("kitbag/lexer.signs", laid_kitbag_lexer_signs)], narrowed := true }
def ValueOnlyUptoSaid : Prop := valueOnlyUptoRow.holds Tryz.pinned (OpenSpec.upto valueOnlySpec)

/-- 'kitbaglaw16.ValueTyped', WHERE WHAT IT READS IS OF BULK AT MOST 1048576: true; the input reads as it did. -/
def valueTypedUptoRow : OpenClaim := { program := "ytmegdbbbllffkaagreatdoor", sum := "d3adbec16e4143e59ec0dc09ddc497812adfebfc311502c123ccb244c83c77d0", func := "kitbag/kitbaglaw16.ValueTyped", spec := "valueTyped", inPlace := ["internal/abi.NoEscape"], unfollowed := true, recurses := true, named := ["kitbag/lexer.signs"], loops := true, apart := false, laid := [("kitbag/lexer.signs", laid_kitbag_lexer_signs)], narrowed := true }
def ValueTypedUptoSaid : Prop := valueTypedUptoRow.holds Tryz.pinned (OpenSpec.upto valueTypedSpec)

end Rows
end Go.Proofs.YtmegdbbbllffkaaGreatDoor
