/-
  NARROWER THAN 'FOR EVERY INPUT', by the rows' own cells (each row's printed sentence says how): HullTells: loops · HullInside: loops · HullTyped: loops · HullHas: loops · HullPoints: loops · HullEnds: loops.
  DERIVED. THE GIVEN ROWS OF THIS SEAT. 6 by the template 'for every input the law returns true; each argument reads behind the call as it read before'; 0 by the template 'total and deterministic' (their statements: YtmegdbbbllffkaaGreatTotals.lean).
  GIVEN WITH THE SEED: the statements are not yours to turn. If you find one false, say at which input.
  Laid BY PROGRAM, IN A SANDBOX (cutbox-rows.mjs): the forced cells as the released guide's own fill.sh prints them over the translation c551c1bd741f9ec6… (all of the seat's roots in one cut). By AI agents, Wed Nov 11 2026. No macro, syntax, notation, axiom, sorry.
-/
import Derived.Test.YtmegdbbbllffkaaGreatChecked
import GoSem.Claim
import GoSem.ClaimJoined
import GoSem.ClaimMapViews
import Derived.JoinedTies
import Derived.KernelRfl
namespace Go.Proofs.YtmegdbbbllffkaaGreat
/- THE CELL 'sum', in the pinned program and in every row, IS THE sha256 OF THE DUMP (.gsa) THAT YtmegdbbbllffkaaGreatProg.lean LOADS. Nothing in Lean hashes anything: it is a label: what it is worth is what the hold of that sum in a sandbox is worth. -/
noncomputable def Tryz.pinned : Pinned := { name := "ytmegdbbbllffkaagreat", sum := "c551c1bd741f9ec66a310ac1b326d68dbd355a325762b7b95f3ed65a8160deba", checked := Tryz.checked }
namespace Rows
def none {H : Type} : Left H := { results := [], args := [] }

/-- 'kitbaglaw17.HullTells': WHATEVER THE INPUT: true; the input reads as it did. -/
def hullTellsSpec : ChangeSpec := { name := "hullTells", fn := fun _ => fun
  | [d1, d2, d3] => { results := [.lit (.bool true)], args := [d1, d2, d3] }
  | _ => none }
def hullTellsRow : OpenClaim := { program := "ytmegdbbbllffkaagreat", sum := "c551c1bd741f9ec66a310ac1b326d68dbd355a325762b7b95f3ed65a8160deba", func := "kitbag/kitbaglaw17.HullTells", spec := "hullTells", inPlace := ["internal/abi.NoEscape"], unfollowed := true, recurses := true, loops := true, apart := false }
def HullTellsSaid : Prop := hullTellsRow.holds Tryz.pinned (OpenSpec.ofChange hullTellsSpec)

/-- ITS FALSE NEIGHBOUR: 'it returns false'. Refute it at one input. -/
def hullTellsWrong : ChangeSpec := { name := "hullTells", fn := fun _ => fun
  | [d1, d2, d3] => { results := [.lit (.bool false)], args := [d1, d2, d3] }
  | _ => none }
def HullTellsWrongFalsely : Prop := hullTellsRow.holds Tryz.pinned (OpenSpec.ofChange hullTellsWrong)

/-- 'kitbaglaw17.HullInside': WHATEVER THE INPUT: true; the input reads as it did. -/
def hullInsideSpec : ChangeSpec := { name := "hullInside", fn := fun _ => fun
  | [d1, d2, d3, d4] => { results := [.lit (.bool true)], args := [d1, d2, d3, d4] }
  | _ => none }
def hullInsideRow : OpenClaim := { program := "ytmegdbbbllffkaagreat", sum := "c551c1bd741f9ec66a310ac1b326d68dbd355a325762b7b95f3ed65a8160deba", func := "kitbag/kitbaglaw17.HullInside", spec := "hullInside", inPlace := ["internal/abi.NoEscape"], unfollowed := true, recurses := true, loops := true, apart := false }
def HullInsideSaid : Prop := hullInsideRow.holds Tryz.pinned (OpenSpec.ofChange hullInsideSpec)

/-- ITS FALSE NEIGHBOUR: 'it returns false'. Refute it at one input. -/
def hullInsideWrong : ChangeSpec := { name := "hullInside", fn := fun _ => fun
  | [d1, d2, d3, d4] => { results := [.lit (.bool false)], args := [d1, d2, d3, d4] }
  | _ => none }
def HullInsideWrongFalsely : Prop := hullInsideRow.holds Tryz.pinned (OpenSpec.ofChange hullInsideWrong)

/-- 'kitbaglaw17.HullTyped': WHATEVER THE INPUT: true; the input reads as it did. -/
def hullTypedSpec : ChangeSpec := { name := "hullTyped", fn := fun _ => fun
  | [d1, d2, d3, d4] => { results := [.lit (.bool true)], args := [d1, d2, d3, d4] }
  | _ => none }
def hullTypedRow : OpenClaim := { program := "ytmegdbbbllffkaagreat", sum := "c551c1bd741f9ec66a310ac1b326d68dbd355a325762b7b95f3ed65a8160deba", func := "kitbag/kitbaglaw17.HullTyped", spec := "hullTyped", inPlace := ["internal/abi.NoEscape"], unfollowed := true, recurses := true, loops := true, apart := false }
def HullTypedSaid : Prop := hullTypedRow.holds Tryz.pinned (OpenSpec.ofChange hullTypedSpec)

/-- ITS FALSE NEIGHBOUR: 'it returns false'. Refute it at one input. -/
def hullTypedWrong : ChangeSpec := { name := "hullTyped", fn := fun _ => fun
  | [d1, d2, d3, d4] => { results := [.lit (.bool false)], args := [d1, d2, d3, d4] }
  | _ => none }
def HullTypedWrongFalsely : Prop := hullTypedRow.holds Tryz.pinned (OpenSpec.ofChange hullTypedWrong)

/-- 'kitbaglaw17.HullHas': WHATEVER THE INPUT: true; the input reads as it did. -/
def hullHasSpec : ChangeSpec := { name := "hullHas", fn := fun _ => fun
  | [d1, d2, d3, d4] => { results := [.lit (.bool true)], args := [d1, d2, d3, d4] }
  | _ => none }
def hullHasRow : OpenClaim := { program := "ytmegdbbbllffkaagreat", sum := "c551c1bd741f9ec66a310ac1b326d68dbd355a325762b7b95f3ed65a8160deba", func := "kitbag/kitbaglaw17.HullHas", spec := "hullHas", inPlace := ["internal/abi.NoEscape"], unfollowed := true, recurses := true, loops := true, apart := false }
def HullHasSaid : Prop := hullHasRow.holds Tryz.pinned (OpenSpec.ofChange hullHasSpec)

/-- ITS FALSE NEIGHBOUR: 'it returns false'. Refute it at one input. -/
def hullHasWrong : ChangeSpec := { name := "hullHas", fn := fun _ => fun
  | [d1, d2, d3, d4] => { results := [.lit (.bool false)], args := [d1, d2, d3, d4] }
  | _ => none }
def HullHasWrongFalsely : Prop := hullHasRow.holds Tryz.pinned (OpenSpec.ofChange hullHasWrong)

/-- 'kitbaglaw17.HullPoints': WHATEVER THE INPUT: true; the input reads as it did. -/
def hullPointsSpec : ChangeSpec := { name := "hullPoints", fn := fun _ => fun
  | [d1, d2, d3] => { results := [.lit (.bool true)], args := [d1, d2, d3] }
  | _ => none }
def hullPointsRow : OpenClaim := { program := "ytmegdbbbllffkaagreat", sum := "c551c1bd741f9ec66a310ac1b326d68dbd355a325762b7b95f3ed65a8160deba", func := "kitbag/kitbaglaw17.HullPoints", spec := "hullPoints", inPlace := ["internal/abi.NoEscape"], unfollowed := true, recurses := true, loops := true, apart := false }
def HullPointsSaid : Prop := hullPointsRow.holds Tryz.pinned (OpenSpec.ofChange hullPointsSpec)

/-- ITS FALSE NEIGHBOUR: 'it returns false'. Refute it at one input. -/
def hullPointsWrong : ChangeSpec := { name := "hullPoints", fn := fun _ => fun
  | [d1, d2, d3] => { results := [.lit (.bool false)], args := [d1, d2, d3] }
  | _ => none }
def HullPointsWrongFalsely : Prop := hullPointsRow.holds Tryz.pinned (OpenSpec.ofChange hullPointsWrong)

/-- 'kitbaglaw17.HullEnds': WHATEVER THE INPUT: true; the input reads as it did. -/
def hullEndsSpec : ChangeSpec := { name := "hullEnds", fn := fun _ => fun
  | [d1, d2] => { results := [.lit (.bool true)], args := [d1, d2] }
  | _ => none }
def hullEndsRow : OpenClaim := { program := "ytmegdbbbllffkaagreat", sum := "c551c1bd741f9ec66a310ac1b326d68dbd355a325762b7b95f3ed65a8160deba", func := "kitbag/kitbaglaw17.HullEnds", spec := "hullEnds", inPlace := ["internal/abi.NoEscape"], unfollowed := true, recurses := true, loops := true, apart := false }
def HullEndsSaid : Prop := hullEndsRow.holds Tryz.pinned (OpenSpec.ofChange hullEndsSpec)

/-- ITS FALSE NEIGHBOUR: 'it returns false'. Refute it at one input. -/
def hullEndsWrong : ChangeSpec := { name := "hullEnds", fn := fun _ => fun
  | [d1, d2] => { results := [.lit (.bool false)], args := [d1, d2] }
  | _ => none }
def HullEndsWrongFalsely : Prop := hullEndsRow.holds Tryz.pinned (OpenSpec.ofChange hullEndsWrong)

/- THE SECOND FORM. 'bulk': how many values and letters a reading holds, each counted each time it is reached (what is shared counts as often as it is met; a slice's spare places count too). A statement '..UptoSaid' is the law's where the arguments, and the package variables that the reading takes, are together of bulk at most 1048576: NARROWER than '..Said'. Prove '..Said' where nothing that the law and all that it calls make is longer than what came in: it says more and counts as full. Else prove '..UptoSaid'. A law counts once. -/
mutual
def uptoBulk {H : Type} : DataW H → Nat
  | .lit (.string bytes) => bytes.length + 1
  | .lit _ => 1
  | .nil => 1
  | .ptr d => uptoBulk d + 1
  | .slice elems spare => uptoBulkAll elems + uptoBulkAll spare + 1
  | .agg parts => uptoBulkAll parts + 1
  | .iface _ d => uptoBulk d + 1
  | .map entries => uptoBulkEntries entries + 1
  | .held _ => 1
def uptoBulkAll {H : Type} : List (DataW H) → Nat
  | [] => 0
  | d :: r => uptoBulk d + uptoBulkAll r
def uptoBulkEntries {H : Type} : List (Lit × DataW H) → Nat
  | [] => 0
  | x :: r => uptoBulkEntry x + uptoBulkEntries r
def uptoBulkEntry {H : Type} : Lit × DataW H → Nat
  | (.string bytes, d) => bytes.length + uptoBulk d + 1
  | (_, d) => uptoBulk d + 1
 end
def uptoSmall : (H : Type) → List (DataW H) → Bool := fun _ ds => decide (uptoBulkAll ds ≤ 1048576)
def OpenSpec.upto (s : _root_.Go.ChangeSpec) : _root_.Go.OpenSpec := { _root_.Go.OpenSpec.ofChange s with cond := some uptoSmall }

/-- 'kitbaglaw17.HullTells', WHERE WHAT IT READS IS OF BULK AT MOST 1048576: true; the input reads as it did. -/
def hullTellsUptoRow : OpenClaim := { program := "ytmegdbbbllffkaagreat", sum := "c551c1bd741f9ec66a310ac1b326d68dbd355a325762b7b95f3ed65a8160deba", func := "kitbag/kitbaglaw17.HullTells", spec := "hullTells", inPlace := ["internal/abi.NoEscape"], unfollowed := true, recurses := true, loops := true, apart := false, narrowed := true }
def HullTellsUptoSaid : Prop := hullTellsUptoRow.holds Tryz.pinned (OpenSpec.upto hullTellsSpec)

/-- 'kitbaglaw17.HullInside', WHERE WHAT IT READS IS OF BULK AT MOST 1048576: true; the input reads as it did. -/
def hullInsideUptoRow : OpenClaim := { program := "ytmegdbbbllffkaagreat", sum := "c551c1bd741f9ec66a310ac1b326d68dbd355a325762b7b95f3ed65a8160deba", func := "kitbag/kitbaglaw17.HullInside", spec := "hullInside", inPlace := ["internal/abi.NoEscape"], unfollowed := true, recurses := true, loops := true, apart := false, narrowed := true }
def HullInsideUptoSaid : Prop := hullInsideUptoRow.holds Tryz.pinned (OpenSpec.upto hullInsideSpec)

/-- 'kitbaglaw17.HullTyped', WHERE WHAT IT READS IS OF BULK AT MOST 1048576: true; the input reads as it did. -/
def hullTypedUptoRow : OpenClaim := { program := "ytmegdbbbllffkaagreat", sum := "c551c1bd741f9ec66a310ac1b326d68dbd355a325762b7b95f3ed65a8160deba", func := "kitbag/kitbaglaw17.HullTyped", spec := "hullTyped", inPlace := ["internal/abi.NoEscape"], unfollowed := true, recurses := true, loops := true, apart := false, narrowed := true }
def HullTypedUptoSaid : Prop := hullTypedUptoRow.holds Tryz.pinned (OpenSpec.upto hullTypedSpec)

/-- 'kitbaglaw17.HullHas', WHERE WHAT IT READS IS OF BULK AT MOST 1048576: true; the input reads as it did. -/
def hullHasUptoRow : OpenClaim := { program := "ytmegdbbbllffkaagreat", sum := "c551c1bd741f9ec66a310ac1b326d68dbd355a325762b7b95f3ed65a8160deba", func := "kitbag/kitbaglaw17.HullHas", spec := "hullHas", inPlace := ["internal/abi.NoEscape"], unfollowed := true, recurses := true, loops := true, apart := false, narrowed := true }
def HullHasUptoSaid : Prop := hullHasUptoRow.holds Tryz.pinned (OpenSpec.upto hullHasSpec)

/-- 'kitbaglaw17.HullPoints', WHERE WHAT IT READS IS OF BULK AT MOST 1048576: true; the input reads as it did. -/
def hullPointsUptoRow : OpenClaim := { program := "ytmegdbbbllffkaagreat", sum := "c551c1bd741f9ec66a310ac1b326d68dbd355a325762b7b95f3ed65a8160deba", func := "kitbag/kitbaglaw17.HullPoints", spec := "hullPoints", inPlace := ["internal/abi.NoEscape"], unfollowed := true, recurses := true, loops := true, apart := false, narrowed := true }
def HullPointsUptoSaid : Prop := hullPointsUptoRow.holds Tryz.pinned (OpenSpec.upto hullPointsSpec)

/-- 'kitbaglaw17.HullEnds', WHERE WHAT IT READS IS OF BULK AT MOST 1048576: true; the input reads as it did. -/
def hullEndsUptoRow : OpenClaim := { program := "ytmegdbbbllffkaagreat", sum := "c551c1bd741f9ec66a310ac1b326d68dbd355a325762b7b95f3ed65a8160deba", func := "kitbag/kitbaglaw17.HullEnds", spec := "hullEnds", inPlace := ["internal/abi.NoEscape"], unfollowed := true, recurses := true, loops := true, apart := false, narrowed := true }
def HullEndsUptoSaid : Prop := hullEndsUptoRow.holds Tryz.pinned (OpenSpec.upto hullEndsSpec)

end Rows
end Go.Proofs.YtmegdbbbllffkaaGreat
