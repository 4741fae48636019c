/-
  No cell of these rows narrows 'for every input' (looked for: loops, veiled, ifaces, maps, wideKeys, modest, calm, conditions, laid).
  DERIVED. THE GIVEN ROWS OF THIS SEAT. 4 by the template 'for every input the law returns true; each argument reads behind the call as it read before'; 0 by the template 'total and deterministic' (their statements: YtieohkidmjglgaaTotals.lean).
  GIVEN WITH THE SEED: the statements are not yours to turn. If you find one false, say at which input.
  Laid BY PROGRAM, IN A SANDBOX (cutbox-rows.mjs): the forced cells as the released guide's own fill.sh prints them over the translation 8d84c66c86ae7d69… (all of the seat's roots in one cut). By AI agents, Wed Nov 11 2026. No macro, syntax, notation, axiom, sorry.
-/
import Derived.Test.YtieohkidmjglgaaChecked
import GoSem.Claim
import GoSem.ClaimJoined
import GoSem.ClaimMapViews
import Derived.JoinedTies
import Derived.KernelRfl
namespace Go.Proofs.Ytieohkidmjglgaa
/- THE CELL 'sum', in the pinned program and in every row, IS THE sha256 OF THE DUMP (.gsa) THAT YtieohkidmjglgaaProg.lean LOADS. Nothing in Lean hashes anything: it is a label: what it is worth is what the hold of that sum in a sandbox is worth. -/
noncomputable def Try.pinned : Pinned := { name := "ytieohkidmjglgaa", sum := "8d84c66c86ae7d692b442ccb2fa45b450e34310ddb9db87cef5bee475d905e55", checked := Try.checked }
namespace Rows
def none {H : Type} : Left H := { results := [], args := [] }

/-- 'kitbaglaw46.BackFloors': WHATEVER THE INPUT: true; the input reads as it did. -/
def backFloorsSpec : ChangeSpec := { name := "backFloors", fn := fun _ => fun
  | [d1, d2, d3, d4] => { results := [.lit (.bool true)], args := [d1, d2, d3, d4] }
  | _ => none }
def backFloorsRow : OpenClaim := { program := "ytieohkidmjglgaa", sum := "8d84c66c86ae7d692b442ccb2fa45b450e34310ddb9db87cef5bee475d905e55", func := "kitbag/kitbaglaw46.BackFloors", spec := "backFloors", unfollowed := true, recurses := true, apart := false }
def BackFloorsSaid : Prop := backFloorsRow.holds Try.pinned (OpenSpec.ofChange backFloorsSpec)

/-- ITS FALSE NEIGHBOUR: 'it returns false'. Refute it at one input. -/
def backFloorsWrong : ChangeSpec := { name := "backFloors", fn := fun _ => fun
  | [d1, d2, d3, d4] => { results := [.lit (.bool false)], args := [d1, d2, d3, d4] }
  | _ => none }
def BackFloorsWrongFalsely : Prop := backFloorsRow.holds Try.pinned (OpenSpec.ofChange backFloorsWrong)

/-- 'kitbaglaw46.BackNarrow': WHATEVER THE INPUT: true; the input reads as it did. -/
def backNarrowSpec : ChangeSpec := { name := "backNarrow", fn := fun _ => fun
  | [d1, d2, d3, d4] => { results := [.lit (.bool true)], args := [d1, d2, d3, d4] }
  | _ => none }
def backNarrowRow : OpenClaim := { program := "ytieohkidmjglgaa", sum := "8d84c66c86ae7d692b442ccb2fa45b450e34310ddb9db87cef5bee475d905e55", func := "kitbag/kitbaglaw46.BackNarrow", spec := "backNarrow", unfollowed := true, recurses := true, apart := false }
def BackNarrowSaid : Prop := backNarrowRow.holds Try.pinned (OpenSpec.ofChange backNarrowSpec)

/-- ITS FALSE NEIGHBOUR: 'it returns false'. Refute it at one input. -/
def backNarrowWrong : ChangeSpec := { name := "backNarrow", fn := fun _ => fun
  | [d1, d2, d3, d4] => { results := [.lit (.bool false)], args := [d1, d2, d3, d4] }
  | _ => none }
def BackNarrowWrongFalsely : Prop := backNarrowRow.holds Try.pinned (OpenSpec.ofChange backNarrowWrong)

/-- 'kitbaglaw46.BackBounds': WHATEVER THE INPUT: true; the input reads as it did. -/
def backBoundsSpec : ChangeSpec := { name := "backBounds", fn := fun _ => fun
  | [d1, d2, d3] => { results := [.lit (.bool true)], args := [d1, d2, d3] }
  | _ => none }
def backBoundsRow : OpenClaim := { program := "ytieohkidmjglgaa", sum := "8d84c66c86ae7d692b442ccb2fa45b450e34310ddb9db87cef5bee475d905e55", func := "kitbag/kitbaglaw46.BackBounds", spec := "backBounds", unfollowed := true, recurses := true, apart := false }
def BackBoundsSaid : Prop := backBoundsRow.holds Try.pinned (OpenSpec.ofChange backBoundsSpec)

/-- ITS FALSE NEIGHBOUR: 'it returns false'. Refute it at one input. -/
def backBoundsWrong : ChangeSpec := { name := "backBounds", fn := fun _ => fun
  | [d1, d2, d3] => { results := [.lit (.bool false)], args := [d1, d2, d3] }
  | _ => none }
def BackBoundsWrongFalsely : Prop := backBoundsRow.holds Try.pinned (OpenSpec.ofChange backBoundsWrong)

/-- 'kitbaglaw46.BackSums': WHATEVER THE INPUT: true; the input reads as it did. -/
def backSumsSpec : ChangeSpec := { name := "backSums", fn := fun _ => fun
  | [d1, d2, d3, d4] => { results := [.lit (.bool true)], args := [d1, d2, d3, d4] }
  | _ => none }
def backSumsRow : OpenClaim := { program := "ytieohkidmjglgaa", sum := "8d84c66c86ae7d692b442ccb2fa45b450e34310ddb9db87cef5bee475d905e55", func := "kitbag/kitbaglaw46.BackSums", spec := "backSums", unfollowed := true, recurses := true, apart := false }
def BackSumsSaid : Prop := backSumsRow.holds Try.pinned (OpenSpec.ofChange backSumsSpec)

/-- ITS FALSE NEIGHBOUR: 'it returns false'. Refute it at one input. -/
def backSumsWrong : ChangeSpec := { name := "backSums", fn := fun _ => fun
  | [d1, d2, d3, d4] => { results := [.lit (.bool false)], args := [d1, d2, d3, d4] }
  | _ => none }
def BackSumsWrongFalsely : Prop := backSumsRow.holds Try.pinned (OpenSpec.ofChange backSumsWrong)

/- THE SECOND FORM. 'bulk': how many values and letters a reading holds, each counted each time it is reached (what is shared counts as often as it is met; a slice's spare places count too). A statement '..UptoSaid' is the law's where the arguments, and the package variables that the reading takes, are together of bulk at most 1048576: NARROWER than '..Said'. Prove '..Said' where nothing that the law and all that it calls make is longer than what came in: it says more and counts as full. Else prove '..UptoSaid'. A law counts once. -/
mutual
def uptoBulk {H : Type} : DataW H → Nat
  | .lit (.string bytes) => bytes.length + 1
  | .lit _ => 1
  | .nil => 1
  | .ptr d => uptoBulk d + 1
  | .slice elems spare => uptoBulkAll elems + uptoBulkAll spare + 1
  | .agg parts => uptoBulkAll parts + 1
  | .iface _ d => uptoBulk d + 1
  | .map entries => uptoBulkEntries entries + 1
  | .held _ => 1
def uptoBulkAll {H : Type} : List (DataW H) → Nat
  | [] => 0
  | d :: r => uptoBulk d + uptoBulkAll r
def uptoBulkEntries {H : Type} : List (Lit × DataW H) → Nat
  | [] => 0
  | x :: r => uptoBulkEntry x + uptoBulkEntries r
def uptoBulkEntry {H : Type} : Lit × DataW H → Nat
  | (.string bytes, d) => bytes.length + uptoBulk d + 1
  | (_, d) => uptoBulk d + 1
 end
def uptoSmall : (H : Type) → List (DataW H) → Bool := fun _ ds => decide (uptoBulkAll ds ≤ 1048576)
def OpenSpec.upto (s : _root_.Go.ChangeSpec) : _root_.Go.OpenSpec := { _root_.Go.OpenSpec.ofChange s with cond := some uptoSmall }

/-- 'kitbaglaw46.BackFloors', WHERE WHAT IT READS IS OF BULK AT MOST 1048576: true; the input reads as it did. -/
def backFloorsUptoRow : OpenClaim := { program := "ytieohkidmjglgaa", sum := "8d84c66c86ae7d692b442ccb2fa45b450e34310ddb9db87cef5bee475d905e55", func := "kitbag/kitbaglaw46.BackFloors", spec := "backFloors", unfollowed := true, recurses := true, apart := false, narrowed := true }
def BackFloorsUptoSaid : Prop := backFloorsUptoRow.holds Try.pinned (OpenSpec.upto backFloorsSpec)

/-- 'kitbaglaw46.BackNarrow', WHERE WHAT IT READS IS OF BULK AT MOST 1048576: true; the input reads as it did. -/
def backNarrowUptoRow : OpenClaim := { program := "ytieohkidmjglgaa", sum := "8d84c66c86ae7d692b442ccb2fa45b450e34310ddb9db87cef5bee475d905e55", func := "kitbag/kitbaglaw46.BackNarrow", spec := "backNarrow", unfollowed := true, recurses := true, apart := false, narrowed := true }
def BackNarrowUptoSaid : Prop := backNarrowUptoRow.holds Try.pinned (OpenSpec.upto backNarrowSpec)

/-- 'kitbaglaw46.BackBounds', WHERE WHAT IT READS IS OF BULK AT MOST 1048576: true; the input reads as it did. -/
def backBoundsUptoRow : OpenClaim := { program := "ytieohkidmjglgaa", sum := "8d84c66c86ae7d692b442ccb2fa45b450e34310ddb9db87cef5bee475d905e55", func := "kitbag/kitbaglaw46.BackBounds", spec := "backBounds", unfollowed := true, recurses := true, apart := false, narrowed := true }
def BackBoundsUptoSaid : Prop := backBoundsUptoRow.holds Try.pinned (OpenSpec.upto backBoundsSpec)

/-- 'kitbaglaw46.BackSums', WHERE WHAT IT READS IS OF BULK AT MOST 1048576: true; the input reads as it did. -/
def backSumsUptoRow : OpenClaim := { program := "ytieohkidmjglgaa", sum := "8d84c66c86ae7d692b442ccb2fa45b450e34310ddb9db87cef5bee475d905e55", func := "kitbag/kitbaglaw46.BackSums", spec := "backSums", unfollowed := true, recurses := true, apart := false, narrowed := true }
def BackSumsUptoSaid : Prop := backSumsUptoRow.holds Try.pinned (OpenSpec.upto backSumsSpec)

end Rows
end Go.Proofs.Ytieohkidmjglgaa
