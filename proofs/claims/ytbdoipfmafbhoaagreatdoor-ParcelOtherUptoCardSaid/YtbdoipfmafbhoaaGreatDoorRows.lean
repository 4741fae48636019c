/-
  NARROWER THAN 'FOR EVERY INPUT', by the rows' own cells (each row's printed sentence says how): ParcelTells: loops, laid · ParcelOnce: loops, laid · ParcelLess: loops, laid · ParcelBlame: loops, laid · ParcelOther: loops, laid.
  DERIVED. THE GIVEN ROWS OF THIS SEAT. 5 by the template 'for every input the law returns true; each argument reads behind the call as it read before'; 0 by the template 'total and deterministic' (their statements: YtbdoipfmafbhoaaGreatDoorTotals.lean).
  GIVEN WITH THE SEED: the statements are not yours to turn. If you find one false, say at which input.
  Laid BY PROGRAM, IN A SANDBOX (cutbox-rows.mjs): the forced cells as the released guide's own fill.sh prints them over the translation 8e1f69e261cf20a5… (all of the seat's roots in one cut). By AI agents, Wed Nov 11 2026. No macro, syntax, notation, axiom, sorry.
-/
import Derived.Test.YtbdoipfmafbhoaaGreatDoorChecked
import GoSem.Claim
import GoSem.ClaimJoined
import GoSem.ClaimMapViews
import Derived.JoinedTies
import Derived.KernelRfl
namespace Go.Proofs.YtbdoipfmafbhoaaGreatDoor
/- THE CELL 'sum', in the pinned program and in every row, IS THE sha256 OF THE DUMP (.gsa) THAT YtbdoipfmafbhoaaGreatDoorProg.lean LOADS. Nothing in Lean hashes anything: it is a label: what it is worth is what the hold of that sum in a sandbox is worth. -/
noncomputable def Tryz.pinned : Pinned := { name := "ytbdoipfmafbhoaagreatdoor", sum := "8e1f69e261cf20a59df06f415dcf25ccccd9bb5f41023c23d5cd19dbfa9cd737", checked := Tryz.checked }
namespace Rows
def none {H : Type} : Left H := { results := [], args := [] }

/- WHAT THE LISTED PACKAGE-LEVEL VARIABLES READ AS WHEN THE CALL BEGINS. Each datum BY PROGRAM (the guide's laid-datum.mjs) off the statement by which the dump's own 'gosem.cut.vars' lays the variable. In a bare row this is a premise. The card (YtbdoipfmafbhoaaGreatDoorCards.lean) ties it to the program's text. -/
def laid_kitbag_lexer_signs {H : Type} : DataW H := .agg [.lit (.int .u8 40), .lit (.int .u8 41), .lit (.int .u8 44), .lit (.int .u8 59), .lit (.int .u8 58), .lit (.int .u8 61), .lit (.int .u8 60), .lit (.int .u8 43), .lit (.int .u8 45), .lit (.int .u8 42), .lit (.int .u8 47), .lit (.int .u8 123), .lit (.int .u8 125)]

/-- 'kitbaglaw28.ParcelTells': WHATEVER THE INPUT: true; the input reads as it did. -/
def parcelTellsSpec : ChangeSpec := { name := "parcelTells", fn := fun _ => fun
  | [d1, d2] => { results := [.lit (.bool true)], args := [d1, d2] }
  | _ => none }
def parcelTellsRow : OpenClaim := { program := "ytbdoipfmafbhoaagreatdoor", sum := "8e1f69e261cf20a59df06f415dcf25ccccd9bb5f41023c23d5cd19dbfa9cd737", func := "kitbag/kitbaglaw28.ParcelTells", spec := "parcelTells", inPlace := ["internal/abi.NoEscape"], unfollowed := true, recurses := true, named := ["kitbag/lexer.signs"], loops := true, plainKeys := false, apart := false, laid := [("kitbag/lexer.signs", laid_kitbag_lexer_signs)] }
def ParcelTellsSaid : Prop := parcelTellsRow.holds Tryz.pinned (OpenSpec.ofChange parcelTellsSpec)

/-- ITS FALSE NEIGHBOUR: 'it returns false'. Refute it at one input. -/
def parcelTellsWrong : ChangeSpec := { name := "parcelTells", fn := fun _ => fun
  | [d1, d2] => { results := [.lit (.bool false)], args := [d1, d2] }
  | _ => none }
def ParcelTellsWrongFalsely : Prop := parcelTellsRow.holds Tryz.pinned (OpenSpec.ofChange parcelTellsWrong)

/-- 'kitbaglaw28.ParcelOnce': WHATEVER THE INPUT: true; the input reads as it did. -/
def parcelOnceSpec : ChangeSpec := { name := "parcelOnce", fn := fun _ => fun
  | [d1, d2] => { results := [.lit (.bool true)], args := [d1, d2] }
  | _ => none }
def parcelOnceRow : OpenClaim := { program := "ytbdoipfmafbhoaagreatdoor", sum := "8e1f69e261cf20a59df06f415dcf25ccccd9bb5f41023c23d5cd19dbfa9cd737", func := "kitbag/kitbaglaw28.ParcelOnce", spec := "parcelOnce", inPlace := ["internal/abi.NoEscape"], unfollowed := true, recurses := true, named := ["kitbag/lexer.signs"], loops := true, plainKeys := false, apart := false, laid := [("kitbag/lexer.signs", laid_kitbag_lexer_signs)] }
def ParcelOnceSaid : Prop := parcelOnceRow.holds Tryz.pinned (OpenSpec.ofChange parcelOnceSpec)

/-- ITS FALSE NEIGHBOUR: 'it returns false'. Refute it at one input. -/
def parcelOnceWrong : ChangeSpec := { name := "parcelOnce", fn := fun _ => fun
  | [d1, d2] => { results := [.lit (.bool false)], args := [d1, d2] }
  | _ => none }
def ParcelOnceWrongFalsely : Prop := parcelOnceRow.holds Tryz.pinned (OpenSpec.ofChange parcelOnceWrong)

/-- 'kitbaglaw28.ParcelLess': WHATEVER THE INPUT: true; the input reads as it did. -/
def parcelLessSpec : ChangeSpec := { name := "parcelLess", fn := fun _ => fun
  | [d1, d2, d3] => { results := [.lit (.bool true)], args := [d1, d2, d3] }
  | _ => none }
def parcelLessRow : OpenClaim := { program := "ytbdoipfmafbhoaagreatdoor", sum := "8e1f69e261cf20a59df06f415dcf25ccccd9bb5f41023c23d5cd19dbfa9cd737", func := "kitbag/kitbaglaw28.ParcelLess", spec := "parcelLess", inPlace := ["internal/abi.NoEscape"], unfollowed := true, recurses := true, named := ["kitbag/lexer.signs"], loops := true, plainKeys := false, apart := false, laid := [("kitbag/lexer.signs", laid_kitbag_lexer_signs)] }
def ParcelLessSaid : Prop := parcelLessRow.holds Tryz.pinned (OpenSpec.ofChange parcelLessSpec)

/-- ITS FALSE NEIGHBOUR: 'it returns false'. Refute it at one input. -/
def parcelLessWrong : ChangeSpec := { name := "parcelLess", fn := fun _ => fun
  | [d1, d2, d3] => { results := [.lit (.bool false)], args := [d1, d2, d3] }
  | _ => none }
def ParcelLessWrongFalsely : Prop := parcelLessRow.holds Tryz.pinned (OpenSpec.ofChange parcelLessWrong)

/-- 'kitbaglaw28.ParcelBlame': WHATEVER THE INPUT: true; the input reads as it did. -/
def parcelBlameSpec : ChangeSpec := { name := "parcelBlame", fn := fun _ => fun
  | [d1, d2] => { results := [.lit (.bool true)], args := [d1, d2] }
  | _ => none }
def parcelBlameRow : OpenClaim := { program := "ytbdoipfmafbhoaagreatdoor", sum := "8e1f69e261cf20a59df06f415dcf25ccccd9bb5f41023c23d5cd19dbfa9cd737", func := "kitbag/kitbaglaw28.ParcelBlame", spec := "parcelBlame", inPlace := ["internal/abi.NoEscape"], unfollowed := true, recurses := true, named := ["kitbag/lexer.signs"], loops := true, plainKeys := false, apart := false, laid := [("kitbag/lexer.signs", laid_kitbag_lexer_signs)] }
def ParcelBlameSaid : Prop := parcelBlameRow.holds Tryz.pinned (OpenSpec.ofChange parcelBlameSpec)

/-- ITS FALSE NEIGHBOUR: 'it returns false'. Refute it at one input. -/
def parcelBlameWrong : ChangeSpec := { name := "parcelBlame", fn := fun _ => fun
  | [d1, d2] => { results := [.lit (.bool false)], args := [d1, d2] }
  | _ => none }
def ParcelBlameWrongFalsely : Prop := parcelBlameRow.holds Tryz.pinned (OpenSpec.ofChange parcelBlameWrong)

/-- 'kitbaglaw28.ParcelOther': WHATEVER THE INPUT: true; the input reads as it did. -/
def parcelOtherSpec : ChangeSpec := { name := "parcelOther", fn := fun _ => fun
  | [d1, d2] => { results := [.lit (.bool true)], args := [d1, d2] }
  | _ => none }
def parcelOtherRow : OpenClaim := { program := "ytbdoipfmafbhoaagreatdoor", sum := "8e1f69e261cf20a59df06f415dcf25ccccd9bb5f41023c23d5cd19dbfa9cd737", func := "kitbag/kitbaglaw28.ParcelOther", spec := "parcelOther", inPlace := ["internal/abi.NoEscape"], unfollowed := true, recurses := true, named := ["kitbag/lexer.signs"], loops := true, plainKeys := false, apart := false, laid := [("kitbag/lexer.signs", laid_kitbag_lexer_signs)] }
def ParcelOtherSaid : Prop := parcelOtherRow.holds Tryz.pinned (OpenSpec.ofChange parcelOtherSpec)

/-- ITS FALSE NEIGHBOUR: 'it returns false'. Refute it at one input. -/
def parcelOtherWrong : ChangeSpec := { name := "parcelOther", fn := fun _ => fun
  | [d1, d2] => { results := [.lit (.bool false)], args := [d1, d2] }
  | _ => none }
def ParcelOtherWrongFalsely : Prop := parcelOtherRow.holds Tryz.pinned (OpenSpec.ofChange parcelOtherWrong)

/- THE SECOND FORM. 'bulk': how many values and letters a reading holds, each counted each time it is reached (what is shared counts as often as it is met; a slice's spare places count too). A statement '..UptoSaid' is the law's where the arguments, and the package variables that the reading takes, are together of bulk at most 1048576: NARROWER than '..Said'. Prove '..Said' where nothing that the law and all that it calls make is longer than what came in: it says more and counts as full. Else prove '..UptoSaid'. A law counts once. -/
mutual
def uptoBulk {H : Type} : DataW H → Nat
  | .lit (.string bytes) => bytes.length + 1
  | .lit _ => 1
  | .nil => 1
  | .ptr d => uptoBulk d + 1
  | .slice elems spare => uptoBulkAll elems + uptoBulkAll spare + 1
  | .agg parts => uptoBulkAll parts + 1
  | .iface _ d => uptoBulk d + 1
  | .map entries => uptoBulkEntries entries + 1
  | .held _ => 1
def uptoBulkAll {H : Type} : List (DataW H) → Nat
  | [] => 0
  | d :: r => uptoBulk d + uptoBulkAll r
def uptoBulkEntries {H : Type} : List (Lit × DataW H) → Nat
  | [] => 0
  | x :: r => uptoBulkEntry x + uptoBulkEntries r
def uptoBulkEntry {H : Type} : Lit × DataW H → Nat
  | (.string bytes, d) => bytes.length + uptoBulk d + 1
  | (_, d) => uptoBulk d + 1
 end
def uptoSmall : (H : Type) → List (DataW H) → Bool := fun _ ds => decide (uptoBulkAll ds ≤ 1048576)
def OpenSpec.upto (s : _root_.Go.ChangeSpec) : _root_.Go.OpenSpec := { _root_.Go.OpenSpec.ofChange s with cond := some uptoSmall }

/-- 'kitbaglaw28.ParcelTells', WHERE WHAT IT READS IS OF BULK AT MOST 1048576: true; the input reads as it did. -/
def parcelTellsUptoRow : OpenClaim := { program := "ytbdoipfmafbhoaagreatdoor", sum := "8e1f69e261cf20a59df06f415dcf25ccccd9bb5f41023c23d5cd19dbfa9cd737", func := "kitbag/kitbaglaw28.ParcelTells", spec := "parcelTells", inPlace := ["internal/abi.NoEscape"], unfollowed := true, recurses := true, named := ["kitbag/lexer.signs"], loops := true, plainKeys := false, apart := false, laid := [("kitbag/lexer.signs", laid_kitbag_lexer_signs)], narrowed := true }
def ParcelTellsUptoSaid : Prop := parcelTellsUptoRow.holds Tryz.pinned (OpenSpec.upto parcelTellsSpec)

/-- 'kitbaglaw28.ParcelOnce', WHERE WHAT IT READS IS OF BULK AT MOST 1048576: true; the input reads as it did. -/
def parcelOnceUptoRow : OpenClaim := { program := "ytbdoipfmafbhoaagreatdoor", sum := "8e1f69e261cf20a59df06f415dcf25ccccd9bb5f41023c23d5cd19dbfa9cd737", func := "kitbag/kitbaglaw28.ParcelOnce", spec := "parcelOnce", inPlace := ["internal/abi.NoEscape"], unfollowed := true, recurses := true, named := ["kitbag/lexer.signs"], loops := true, plainKeys := false, apart := false, laid := [("kitbag/lexer.signs", laid_kitbag_lexer_signs)], narrowed := true }
def ParcelOnceUptoSaid : Prop := parcelOnceUptoRow.holds Tryz.pinned (OpenSpec.upto parcelOnceSpec)

/-- 'kitbaglaw28.ParcelLess', WHERE WHAT IT READS IS OF BULK AT MOST 1048576: true; the input reads as it did. -/
def parcelLessUptoRow : OpenClaim := { program := "ytbdoipfmafbhoaagreatdoor", sum := "8e1f69e261cf20a59df06f415dcf25ccccd9bb5f41023c23d5cd19dbfa9cd737", func := "kitbag/kitbaglaw28.ParcelLess", spec := "parcelLess", inPlace := ["internal/abi.NoEscape"], unfollowed := true, recurses := true, named := ["kitbag/lexer.signs"], loops := true, plainKeys := false, apart := false, laid := [("kitbag/lexer.signs", laid_kitbag_lexer_signs)], narrowed := true }
def ParcelLessUptoSaid : Prop := parcelLessUptoRow.holds Tryz.pinned (OpenSpec.upto parcelLessSpec)

/-- 'kitbaglaw28.ParcelBlame', WHERE WHAT IT READS IS OF BULK AT MOST 1048576: true; the input reads as it did. -/
def parcelBlameUptoRow : OpenClaim := { program := "ytbdoipfmafbhoaagreatdoor", sum := "8e1f69e261cf20a59df06f415dcf25ccccd9bb5f41023c23d5cd19dbfa9cd737", func := "kitbag/kitbaglaw28.ParcelBlame", spec := "parcelBlame", inPlace := ["internal/abi.NoEscape"], unfollowed := true, recurses := true, named := ["kitbag/lexer.signs"], loops := true, plainKeys := false, apart := false, laid := [("kitbag/lexer.signs", laid_kitbag_lexer_signs)], narrowed := true }
def ParcelBlameUptoSaid : Prop := parcelBlameUptoRow.holds Tryz.pinned (OpenSpec.upto parcelBlameSpec)

/-- 'kitbaglaw28.ParcelOther', WHERE WHAT IT READS IS OF BULK AT MOST 1048576: true; the input reads as it did. -/
def parcelOtherUptoRow : OpenClaim := { program := "ytbdoipfmafbhoaagreatdoor", sum := "8e1f69e261cf20a59df06f415dcf25ccccd9bb5f41023c23d5cd19dbfa9cd737", func := "kitbag/kitbaglaw28.ParcelOther", spec := "parcelOther", inPlace := ["internal/abi.NoEscape"], unfollowed := true, recurses := true, named := ["kitbag/lexer.signs"], loops := true, plainKeys := false, apart := false, laid := [("kitbag/lexer.signs", laid_kitbag_lexer_signs)], narrowed := true }
def ParcelOtherUptoSaid : Prop := parcelOtherUptoRow.holds Tryz.pinned (OpenSpec.upto parcelOtherSpec)

end Rows
end Go.Proofs.YtbdoipfmafbhoaaGreatDoor
