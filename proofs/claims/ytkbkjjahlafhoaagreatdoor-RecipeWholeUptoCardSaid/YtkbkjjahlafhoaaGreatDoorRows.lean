/-
  NARROWER THAN 'FOR EVERY INPUT', by the rows' own cells (each row's printed sentence says how): RecipeWhole: loops, laid · RecipeEnds: loops, laid · RecipeLinear: laid · RecipeNames: loops, laid.
  DERIVED. THE GIVEN ROWS OF THIS SEAT. 4 by the template 'for every input the law returns true; each argument reads behind the call as it read before'; 0 by the template 'total and deterministic' (their statements: YtkbkjjahlafhoaaGreatDoorTotals.lean).
  GIVEN WITH THE SEED: the statements are not yours to turn. If you find one false, say at which input.
  Laid BY PROGRAM, IN A SANDBOX (cutbox-rows.mjs): the forced cells as the released guide's own fill.sh prints them over the translation 2bcbd8ed42f6b731… (all of the seat's roots in one cut). By AI agents, Wed Nov 11 2026. No macro, syntax, notation, axiom, sorry.
-/
import Derived.Test.YtkbkjjahlafhoaaGreatDoorChecked
import GoSem.Claim
import GoSem.ClaimJoined
import GoSem.ClaimMapViews
import Derived.JoinedTies
import Derived.KernelRfl
namespace Go.Proofs.YtkbkjjahlafhoaaGreatDoor
/- THE CELL 'sum', in the pinned program and in every row, IS THE sha256 OF THE DUMP (.gsa) THAT YtkbkjjahlafhoaaGreatDoorProg.lean LOADS. Nothing in Lean hashes anything: it is a label: what it is worth is what the hold of that sum in a sandbox is worth. -/
noncomputable def Tryz.pinned : Pinned := { name := "ytkbkjjahlafhoaagreatdoor", sum := "2bcbd8ed42f6b7315058e505d60a7a6afeb17ef3e07e767e6343a0089a48e886", checked := Tryz.checked }
namespace Rows
def none {H : Type} : Left H := { results := [], args := [] }

/- WHAT THE LISTED PACKAGE-LEVEL VARIABLES READ AS WHEN THE CALL BEGINS. Each datum BY PROGRAM (the guide's laid-datum.mjs) off the statement by which the dump's own 'gosem.cut.vars' lays the variable. In a bare row this is a premise. The card (YtkbkjjahlafhoaaGreatDoorCards.lean) ties it to the program's text. -/
def laid_kitbag_lexer_signs {H : Type} : DataW H := .agg [.lit (.int .u8 40), .lit (.int .u8 41), .lit (.int .u8 44), .lit (.int .u8 59), .lit (.int .u8 58), .lit (.int .u8 61), .lit (.int .u8 60), .lit (.int .u8 43), .lit (.int .u8 45), .lit (.int .u8 42), .lit (.int .u8 47), .lit (.int .u8 123), .lit (.int .u8 125)]

/-- 'kitbaglaw29.RecipeWhole': WHATEVER THE INPUT: true; the input reads as it did. -/
def recipeWholeSpec : ChangeSpec := { name := "recipeWhole", fn := fun _ => fun
  | [d1, d2, d3, d4] => { results := [.lit (.bool true)], args := [d1, d2, d3, d4] }
  | _ => none }
def recipeWholeRow : OpenClaim := { program := "ytkbkjjahlafhoaagreatdoor", sum := "2bcbd8ed42f6b7315058e505d60a7a6afeb17ef3e07e767e6343a0089a48e886", func := "kitbag/kitbaglaw29.RecipeWhole", spec := "recipeWhole", inPlace := ["internal/abi.NoEscape"], unfollowed := true, recurses := true, named := ["kitbag/lexer.signs"], loops := true, plainKeys := false, apart := false, laid := [("kitbag/lexer.signs", laid_kitbag_lexer_signs)] }
def RecipeWholeSaid : Prop := recipeWholeRow.holds Tryz.pinned (OpenSpec.ofChange recipeWholeSpec)

/-- ITS FALSE NEIGHBOUR: 'it returns false'. Refute it at one input. -/
def recipeWholeWrong : ChangeSpec := { name := "recipeWhole", fn := fun _ => fun
  | [d1, d2, d3, d4] => { results := [.lit (.bool false)], args := [d1, d2, d3, d4] }
  | _ => none }
def RecipeWholeWrongFalsely : Prop := recipeWholeRow.holds Tryz.pinned (OpenSpec.ofChange recipeWholeWrong)

/-- 'kitbaglaw29.RecipeEnds': WHATEVER THE INPUT: true; the input reads as it did. -/
def recipeEndsSpec : ChangeSpec := { name := "recipeEnds", fn := fun _ => fun
  | [d1, d2, d3] => { results := [.lit (.bool true)], args := [d1, d2, d3] }
  | _ => none }
def recipeEndsRow : OpenClaim := { program := "ytkbkjjahlafhoaagreatdoor", sum := "2bcbd8ed42f6b7315058e505d60a7a6afeb17ef3e07e767e6343a0089a48e886", func := "kitbag/kitbaglaw29.RecipeEnds", spec := "recipeEnds", inPlace := ["internal/abi.NoEscape"], unfollowed := true, recurses := true, named := ["kitbag/lexer.signs"], loops := true, plainKeys := false, apart := false, laid := [("kitbag/lexer.signs", laid_kitbag_lexer_signs)] }
def RecipeEndsSaid : Prop := recipeEndsRow.holds Tryz.pinned (OpenSpec.ofChange recipeEndsSpec)

/-- ITS FALSE NEIGHBOUR: 'it returns false'. Refute it at one input. -/
def recipeEndsWrong : ChangeSpec := { name := "recipeEnds", fn := fun _ => fun
  | [d1, d2, d3] => { results := [.lit (.bool false)], args := [d1, d2, d3] }
  | _ => none }
def RecipeEndsWrongFalsely : Prop := recipeEndsRow.holds Tryz.pinned (OpenSpec.ofChange recipeEndsWrong)

/-- 'kitbaglaw29.RecipeLinear': WHATEVER THE INPUT: true; the input reads as it did. -/
def recipeLinearSpec : ChangeSpec := { name := "recipeLinear", fn := fun _ => fun
  | [d1, d2, d3] => { results := [.lit (.bool true)], args := [d1, d2, d3] }
  | _ => none }
def recipeLinearRow : OpenClaim := { program := "ytkbkjjahlafhoaagreatdoor", sum := "2bcbd8ed42f6b7315058e505d60a7a6afeb17ef3e07e767e6343a0089a48e886", func := "kitbag/kitbaglaw29.RecipeLinear", spec := "recipeLinear", inPlace := ["internal/abi.NoEscape"], unfollowed := true, recurses := true, named := ["kitbag/lexer.signs"], plainKeys := false, apart := false, laid := [("kitbag/lexer.signs", laid_kitbag_lexer_signs)] }
def RecipeLinearSaid : Prop := recipeLinearRow.holds Tryz.pinned (OpenSpec.ofChange recipeLinearSpec)

/-- ITS FALSE NEIGHBOUR: 'it returns false'. Refute it at one input. -/
def recipeLinearWrong : ChangeSpec := { name := "recipeLinear", fn := fun _ => fun
  | [d1, d2, d3] => { results := [.lit (.bool false)], args := [d1, d2, d3] }
  | _ => none }
def RecipeLinearWrongFalsely : Prop := recipeLinearRow.holds Tryz.pinned (OpenSpec.ofChange recipeLinearWrong)

/-- 'kitbaglaw29.RecipeNames': WHATEVER THE INPUT: true; the input reads as it did. -/
def recipeNamesSpec : ChangeSpec := { name := "recipeNames", fn := fun _ => fun
  | [d1, d2, d3, d4] => { results := [.lit (.bool true)], args := [d1, d2, d3, d4] }
  | _ => none }
def recipeNamesRow : OpenClaim := { program := "ytkbkjjahlafhoaagreatdoor", sum := "2bcbd8ed42f6b7315058e505d60a7a6afeb17ef3e07e767e6343a0089a48e886", func := "kitbag/kitbaglaw29.RecipeNames", spec := "recipeNames", inPlace := ["internal/abi.NoEscape"], unfollowed := true, recurses := true, named := ["kitbag/lexer.signs"], loops := true, plainKeys := false, apart := false, laid := [("kitbag/lexer.signs", laid_kitbag_lexer_signs)] }
def RecipeNamesSaid : Prop := recipeNamesRow.holds Tryz.pinned (OpenSpec.ofChange recipeNamesSpec)

/-- ITS FALSE NEIGHBOUR: 'it returns false'. Refute it at one input. -/
def recipeNamesWrong : ChangeSpec := { name := "recipeNames", fn := fun _ => fun
  | [d1, d2, d3, d4] => { results := [.lit (.bool false)], args := [d1, d2, d3, d4] }
  | _ => none }
def RecipeNamesWrongFalsely : Prop := recipeNamesRow.holds Tryz.pinned (OpenSpec.ofChange recipeNamesWrong)

/- THE SECOND FORM. 'bulk': how many values and letters a reading holds, each counted each time it is reached (what is shared counts as often as it is met; a slice's spare places count too). A statement '..UptoSaid' is the law's where the arguments, and the package variables that the reading takes, are together of bulk at most 1048576: NARROWER than '..Said'. Prove '..Said' where nothing that the law and all that it calls make is longer than what came in: it says more and counts as full. Else prove '..UptoSaid'. A law counts once. -/
mutual
def uptoBulk {H : Type} : DataW H → Nat
  | .lit (.string bytes) => bytes.length + 1
  | .lit _ => 1
  | .nil => 1
  | .ptr d => uptoBulk d + 1
  | .slice elems spare => uptoBulkAll elems + uptoBulkAll spare + 1
  | .agg parts => uptoBulkAll parts + 1
  | .iface _ d => uptoBulk d + 1
  | .map entries => uptoBulkEntries entries + 1
  | .held _ => 1
def uptoBulkAll {H : Type} : List (DataW H) → Nat
  | [] => 0
  | d :: r => uptoBulk d + uptoBulkAll r
def uptoBulkEntries {H : Type} : List (Lit × DataW H) → Nat
  | [] => 0
  | x :: r => uptoBulkEntry x + uptoBulkEntries r
def uptoBulkEntry {H : Type} : Lit × DataW H → Nat
  | (.string bytes, d) => bytes.length + uptoBulk d + 1
  | (_, d) => uptoBulk d + 1
 end
def uptoSmall : (H : Type) → List (DataW H) → Bool := fun _ ds => decide (uptoBulkAll ds ≤ 1048576)
def OpenSpec.upto (s : _root_.Go.ChangeSpec) : _root_.Go.OpenSpec := { _root_.Go.OpenSpec.ofChange s with cond := some uptoSmall }

/-- 'kitbaglaw29.RecipeWhole', WHERE WHAT IT READS IS OF BULK AT MOST 1048576: true; the input reads as it did. -/
def recipeWholeUptoRow : OpenClaim := { program := "ytkbkjjahlafhoaagreatdoor", sum := "2bcbd8ed42f6b7315058e505d60a7a6afeb17ef3e07e767e6343a0089a48e886", func := "kitbag/kitbaglaw29.RecipeWhole", spec := "recipeWhole", inPlace := ["internal/abi.NoEscape"], unfollowed := true, recurses := true, named := ["kitbag/lexer.signs"], loops := true, plainKeys := false, apart := false, laid := [("kitbag/lexer.signs", laid_kitbag_lexer_signs)], narrowed := true }
def RecipeWholeUptoSaid : Prop := recipeWholeUptoRow.holds Tryz.pinned (OpenSpec.upto recipeWholeSpec)

/-- 'kitbaglaw29.RecipeEnds', WHERE WHAT IT READS IS OF BULK AT MOST 1048576: true; the input reads as it did. -/
def recipeEndsUptoRow : OpenClaim := { program := "ytkbkjjahlafhoaagreatdoor", sum := "2bcbd8ed42f6b7315058e505d60a7a6afeb17ef3e07e767e6343a0089a48e886", func := "kitbag/kitbaglaw29.RecipeEnds", spec := "recipeEnds", inPlace := ["internal/abi.NoEscape"], unfollowed := true, recurses := true, named := ["kitbag/lexer.signs"], loops := true, plainKeys := false, apart := false, laid := [("kitbag/lexer.signs", laid_kitbag_lexer_signs)], narrowed := true }
def RecipeEndsUptoSaid : Prop := recipeEndsUptoRow.holds Tryz.pinned (OpenSpec.upto recipeEndsSpec)

/-- 'kitbaglaw29.RecipeLinear', WHERE WHAT IT READS IS OF BULK AT MOST 1048576: true; the input reads as it did. -/
def recipeLinearUptoRow : OpenClaim := { program := "ytkbkjjahlafhoaagreatdoor", sum := "2bcbd8ed42f6b7315058e505d60a7a6afeb17ef3e07e767e6343a0089a48e886", func := "kitbag/kitbaglaw29.RecipeLinear", spec := "recipeLinear", inPlace := ["internal/abi.NoEscape"], unfollowed := true, recurses := true, named := ["kitbag/lexer.signs"], plainKeys := false, apart := false, laid := [("kitbag/lexer.signs", laid_kitbag_lexer_signs)], narrowed := true }
def RecipeLinearUptoSaid : Prop := recipeLinearUptoRow.holds Tryz.pinned (OpenSpec.upto recipeLinearSpec)

/-- 'kitbaglaw29.RecipeNames', WHERE WHAT IT READS IS OF BULK AT MOST 1048576: true; the input reads as it did. -/
def recipeNamesUptoRow : OpenClaim := { program := "ytkbkjjahlafhoaagreatdoor", sum := "2bcbd8ed42f6b7315058e505d60a7a6afeb17ef3e07e767e6343a0089a48e886", func := "kitbag/kitbaglaw29.RecipeNames", spec := "recipeNames", inPlace := ["internal/abi.NoEscape"], unfollowed := true, recurses := true, named := ["kitbag/lexer.signs"], loops := true, plainKeys := false, apart := false, laid := [("kitbag/lexer.signs", laid_kitbag_lexer_signs)], narrowed := true }
def RecipeNamesUptoSaid : Prop := recipeNamesUptoRow.holds Tryz.pinned (OpenSpec.upto recipeNamesSpec)

end Rows
end Go.Proofs.YtkbkjjahlafhoaaGreatDoor
