/- Contract: kitbaglaw28.with. -/
import Derived.Test.YtbdoipfmafbhoaaGreatDoorZ33
import Derived.Test.YtbdoipfmafbhoaaGreatDoorZ34
/- Contract: kitbaglaw28.with. -/
namespace Go.Hp.T
open Go Go.RowKit Go.Slot Go.Hp Go.Slot.T
open Go.Proofs.Tryz (prog)
attribute [local irreducible] hide RH
set_option maxRecDepth 10000
set_option maxHeartbeats 8000000
variable {Γ : List (Nat × List Cell)}
def withS (s : Sht) (r : Nat) (l : List Stp) : Sht := { s with recipes := s.recipes.set r ⟨(s.recipes.getD r default).kind, l⟩ }
theorem cWith (s : Sht) (r : Int) (l : List Stp) (h0 : 0 ≤ r) (h1 : r < s.recipes.length) (hrl : s.recipes.length ≤ 1073741824) : CallsD Γ prog 18 [.agg (shtC s), .one (cI r), .one (.sl 6 (l.map Stp.C))] (.agg (shtC (withS s r.toNat l))) := by
  refine CallsD.run [] Go.Proofs.Tryz.func18 rfl rfl rfl ?_; simp only [Go.Proofs.Tryz.f18]; refine hgR ?_
  repeat' ((first | refine hfk ?_ ?_ <;> intros | refine hik ?_) <;> refine hgS ?_)
  all_goals try (exfalso; omega)
  refine RLe.ofEq ?_
  unfold withS
  simp only [shtC, List.map_set]
  rfl
end Go.Hp.T
