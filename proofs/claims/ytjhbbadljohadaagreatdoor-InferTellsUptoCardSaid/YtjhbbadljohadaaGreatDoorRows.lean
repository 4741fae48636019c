/-
  NARROWER THAN 'FOR EVERY INPUT', by the rows' own cells (each row's printed sentence says how): InferTells: loops, laid · InferReplaces: loops, laid · InferUnits: loops, laid · InferNames: loops, laid.
  DERIVED. THE GIVEN ROWS OF THIS SEAT. 4 by the template 'for every input the law returns true; each argument reads behind the call as it read before'; 0 by the template 'total and deterministic' (their statements: YtjhbbadljohadaaGreatDoorTotals.lean).
  GIVEN WITH THE SEED: the statements are not yours to turn. If you find one false, say at which input.
  Laid BY PROGRAM, IN A SANDBOX (cutbox-rows.mjs): the forced cells as the released guide's own fill.sh prints them over the translation c9048ba4f2bd8eda… (all of the seat's roots in one cut). By AI agents, Wed Nov 11 2026. No macro, syntax, notation, axiom, sorry.
-/
import Derived.Test.YtjhbbadljohadaaGreatDoorChecked
import GoSem.Claim
import GoSem.ClaimJoined
import GoSem.ClaimMapViews
import Derived.JoinedTies
import Derived.KernelRfl
namespace Go.Proofs.YtjhbbadljohadaaGreatDoor
/- THE CELL 'sum', in the pinned program and in every row, IS THE sha256 OF THE DUMP (.gsa) THAT YtjhbbadljohadaaGreatDoorProg.lean LOADS. Nothing in Lean hashes anything: it is a label: what it is worth is what the hold of that sum in a sandbox is worth. -/
noncomputable def Tryz.pinned : Pinned := { name := "ytjhbbadljohadaagreatdoor", sum := "c9048ba4f2bd8eda6574939d3c1e30e93b9772ebd487e2d8ab31b44bcd62b95f", checked := Tryz.checked }
namespace Rows
def none {H : Type} : Left H := { results := [], args := [] }

/- WHAT THE LISTED PACKAGE-LEVEL VARIABLES READ AS WHEN THE CALL BEGINS. Each datum BY PROGRAM (the guide's laid-datum.mjs) off the statement by which the dump's own 'gosem.cut.vars' lays the variable. In a bare row this is a premise. The card (YtjhbbadljohadaaGreatDoorCards.lean) ties it to the program's text. -/
def laid_kitbag_lexer_signs {H : Type} : DataW H := .agg [.lit (.int .u8 40), .lit (.int .u8 41), .lit (.int .u8 44), .lit (.int .u8 59), .lit (.int .u8 58), .lit (.int .u8 61), .lit (.int .u8 60), .lit (.int .u8 43), .lit (.int .u8 45), .lit (.int .u8 42), .lit (.int .u8 47), .lit (.int .u8 123), .lit (.int .u8 125)]

/-- 'kitbaglaw15.InferTells': WHATEVER THE INPUT: true; the input reads as it did. -/
def inferTellsSpec : ChangeSpec := { name := "inferTells", fn := fun _ => fun
  | [d1, d2, d3] => { results := [.lit (.bool true)], args := [d1, d2, d3] }
  | _ => none }
def inferTellsRow : OpenClaim := { program := "ytjhbbadljohadaagreatdoor", sum := "c9048ba4f2bd8eda6574939d3c1e30e93b9772ebd487e2d8ab31b44bcd62b95f", func := "kitbag/kitbaglaw15.InferTells", spec := "inferTells", inPlace := ["internal/abi.NoEscape"], unfollowed := true, recurses := true, named := ["kitbag/lexer.signs"], loops := true, apart := false, laid := [("kitbag/lexer.signs", laid_kitbag_lexer_signs)] }
def InferTellsSaid : Prop := inferTellsRow.holds Tryz.pinned (OpenSpec.ofChange inferTellsSpec)

/-- ITS FALSE NEIGHBOUR: 'it returns false'. Refute it at one input. -/
def inferTellsWrong : ChangeSpec := { name := "inferTells", fn := fun _ => fun
  | [d1, d2, d3] => { results := [.lit (.bool false)], args := [d1, d2, d3] }
  | _ => none }
def InferTellsWrongFalsely : Prop := inferTellsRow.holds Tryz.pinned (OpenSpec.ofChange inferTellsWrong)

/-- 'kitbaglaw15.InferReplaces': WHATEVER THE INPUT: true; the input reads as it did. -/
def inferReplacesSpec : ChangeSpec := { name := "inferReplaces", fn := fun _ => fun
  | [d1, d2, d3, d4, d5] => { results := [.lit (.bool true)], args := [d1, d2, d3, d4, d5] }
  | _ => none }
def inferReplacesRow : OpenClaim := { program := "ytjhbbadljohadaagreatdoor", sum := "c9048ba4f2bd8eda6574939d3c1e30e93b9772ebd487e2d8ab31b44bcd62b95f", func := "kitbag/kitbaglaw15.InferReplaces", spec := "inferReplaces", inPlace := ["internal/abi.NoEscape"], unfollowed := true, recurses := true, named := ["kitbag/lexer.signs"], loops := true, apart := false, laid := [("kitbag/lexer.signs", laid_kitbag_lexer_signs)] }
def InferReplacesSaid : Prop := inferReplacesRow.holds Tryz.pinned (OpenSpec.ofChange inferReplacesSpec)

/-- ITS FALSE NEIGHBOUR: 'it returns false'. Refute it at one input. -/
def inferReplacesWrong : ChangeSpec := { name := "inferReplaces", fn := fun _ => fun
  | [d1, d2, d3, d4, d5] => { results := [.lit (.bool false)], args := [d1, d2, d3, d4, d5] }
  | _ => none }
def InferReplacesWrongFalsely : Prop := inferReplacesRow.holds Tryz.pinned (OpenSpec.ofChange inferReplacesWrong)

/-- 'kitbaglaw15.InferUnits': WHATEVER THE INPUT: true; the input reads as it did. -/
def inferUnitsSpec : ChangeSpec := { name := "inferUnits", fn := fun _ => fun
  | [d1, d2, d3, d4, d5, d6] => { results := [.lit (.bool true)], args := [d1, d2, d3, d4, d5, d6] }
  | _ => none }
def inferUnitsRow : OpenClaim := { program := "ytjhbbadljohadaagreatdoor", sum := "c9048ba4f2bd8eda6574939d3c1e30e93b9772ebd487e2d8ab31b44bcd62b95f", func := "kitbag/kitbaglaw15.InferUnits", spec := "inferUnits", inPlace := ["internal/abi.NoEscape"], unfollowed := true, recurses := true, named := ["kitbag/lexer.signs"], loops := true, apart := false, laid := [("kitbag/lexer.signs", laid_kitbag_lexer_signs)] }
def InferUnitsSaid : Prop := inferUnitsRow.holds Tryz.pinned (OpenSpec.ofChange inferUnitsSpec)

/-- ITS FALSE NEIGHBOUR: 'it returns false'. Refute it at one input. -/
def inferUnitsWrong : ChangeSpec := { name := "inferUnits", fn := fun _ => fun
  | [d1, d2, d3, d4, d5, d6] => { results := [.lit (.bool false)], args := [d1, d2, d3, d4, d5, d6] }
  | _ => none }
def InferUnitsWrongFalsely : Prop := inferUnitsRow.holds Tryz.pinned (OpenSpec.ofChange inferUnitsWrong)

/-- 'kitbaglaw15.InferNames': WHATEVER THE INPUT: true; the input reads as it did. -/
def inferNamesSpec : ChangeSpec := { name := "inferNames", fn := fun _ => fun
  | [d1, d2, d3, d4, d5] => { results := [.lit (.bool true)], args := [d1, d2, d3, d4, d5] }
  | _ => none }
def inferNamesRow : OpenClaim := { program := "ytjhbbadljohadaagreatdoor", sum := "c9048ba4f2bd8eda6574939d3c1e30e93b9772ebd487e2d8ab31b44bcd62b95f", func := "kitbag/kitbaglaw15.InferNames", spec := "inferNames", inPlace := ["internal/abi.NoEscape"], unfollowed := true, recurses := true, named := ["kitbag/lexer.signs"], loops := true, apart := false, laid := [("kitbag/lexer.signs", laid_kitbag_lexer_signs)] }
def InferNamesSaid : Prop := inferNamesRow.holds Tryz.pinned (OpenSpec.ofChange inferNamesSpec)

/-- ITS FALSE NEIGHBOUR: 'it returns false'. Refute it at one input. -/
def inferNamesWrong : ChangeSpec := { name := "inferNames", fn := fun _ => fun
  | [d1, d2, d3, d4, d5] => { results := [.lit (.bool false)], args := [d1, d2, d3, d4, d5] }
  | _ => none }
def InferNamesWrongFalsely : Prop := inferNamesRow.holds Tryz.pinned (OpenSpec.ofChange inferNamesWrong)

/- THE SECOND FORM. 'bulk': how many values and letters a reading holds, each counted each time it is reached (what is shared counts as often as it is met; a slice's spare places count too). A statement '..UptoSaid' is the law's where the arguments, and the package variables that the reading takes, are together of bulk at most 1048576: NARROWER than '..Said'. Prove '..Said' where nothing that the law and all that it calls make is longer than what came in: it says more and counts as full. Else prove '..UptoSaid'. A law counts once. -/
mutual
def uptoBulk {H : Type} : DataW H → Nat
  | .lit (.string bytes) => bytes.length + 1
  | .lit _ => 1
  | .nil => 1
  | .ptr d => uptoBulk d + 1
  | .slice elems spare => uptoBulkAll elems + uptoBulkAll spare + 1
  | .agg parts => uptoBulkAll parts + 1
  | .iface _ d => uptoBulk d + 1
  | .map entries => uptoBulkEntries entries + 1
  | .held _ => 1
def uptoBulkAll {H : Type} : List (DataW H) → Nat
  | [] => 0
  | d :: r => uptoBulk d + uptoBulkAll r
def uptoBulkEntries {H : Type} : List (Lit × DataW H) → Nat
  | [] => 0
  | x :: r => uptoBulkEntry x + uptoBulkEntries r
def uptoBulkEntry {H : Type} : Lit × DataW H → Nat
  | (.string bytes, d) => bytes.length + uptoBulk d + 1
  | (_, d) => uptoBulk d + 1
 end
def uptoSmall : (H : Type) → List (DataW H) → Bool := fun _ ds => decide (uptoBulkAll ds ≤ 1048576)
def OpenSpec.upto (s : _root_.Go.ChangeSpec) : _root_.Go.OpenSpec := { _root_.Go.OpenSpec.ofChange s with cond := some uptoSmall }

/-- 'kitbaglaw15.InferTells', WHERE WHAT IT READS IS OF BULK AT MOST 1048576: true; the input reads as it did. -/
def inferTellsUptoRow : OpenClaim := { program := "ytjhbbadljohadaagreatdoor", sum := "c9048ba4f2bd8eda6574939d3c1e30e93b9772ebd487e2d8ab31b44bcd62b95f", func := "kitbag/kitbaglaw15.InferTells", spec := "inferTells", inPlace := ["internal/abi.NoEscape"], unfollowed := true, recurses := true, named := ["kitbag/lexer.signs"], loops := true, apart := false, laid := [("kitbag/lexer.signs", laid_kitbag_lexer_signs)], narrowed := true }
def InferTellsUptoSaid : Prop := inferTellsUptoRow.holds Tryz.pinned (OpenSpec.upto inferTellsSpec)

/-- 'kitbaglaw15.InferReplaces', WHERE WHAT IT READS IS OF BULK AT MOST 1048576: true; the input reads as it did. -/
def inferReplacesUptoRow : OpenClaim := { program := "ytjhbbadljohadaagreatdoor", sum := "c9048ba4f2bd8eda6574939d3c1e30e93b9772ebd487e2d8ab31b44bcd62b95f", func := "kitbag/kitbaglaw15.InferReplaces", spec := "inferReplaces", inPlace := ["internal/abi.NoEscape"], unfollowed := true, recurses := true, named := ["kitbag/lexer.signs"], loops := true, apart := false, laid := [("kitbag/lexer.signs", laid_kitbag_lexer_signs)], narrowed := true }
def InferReplacesUptoSaid : Prop := inferReplacesUptoRow.holds Tryz.pinned (OpenSpec.upto inferReplacesSpec)

/-- 'kitbaglaw15.InferUnits', WHERE WHAT IT READS IS OF BULK AT MOST 1048576: true; the input reads as it did. -/
def inferUnitsUptoRow : OpenClaim := { program := "ytjhbbadljohadaagreatdoor", sum := "c9048ba4f2bd8eda6574939d3c1e30e93b9772ebd487e2d8ab31b44bcd62b95f", func := "kitbag/kitbaglaw15.InferUnits", spec := "inferUnits", inPlace := ["internal/abi.NoEscape"], unfollowed := true, recurses := true, named := ["kitbag/lexer.signs"], loops := true, apart := false, laid := [("kitbag/lexer.signs", laid_kitbag_lexer_signs)], narrowed := true }
def InferUnitsUptoSaid : Prop := inferUnitsUptoRow.holds Tryz.pinned (OpenSpec.upto inferUnitsSpec)

/-- 'kitbaglaw15.InferNames', WHERE WHAT IT READS IS OF BULK AT MOST 1048576: true; the input reads as it did. -/
def inferNamesUptoRow : OpenClaim := { program := "ytjhbbadljohadaagreatdoor", sum := "c9048ba4f2bd8eda6574939d3c1e30e93b9772ebd487e2d8ab31b44bcd62b95f", func := "kitbag/kitbaglaw15.InferNames", spec := "inferNames", inPlace := ["internal/abi.NoEscape"], unfollowed := true, recurses := true, named := ["kitbag/lexer.signs"], loops := true, apart := false, laid := [("kitbag/lexer.signs", laid_kitbag_lexer_signs)], narrowed := true }
def InferNamesUptoSaid : Prop := inferNamesUptoRow.holds Tryz.pinned (OpenSpec.upto inferNamesSpec)

end Rows
end Go.Proofs.YtjhbbadljohadaaGreatDoor
