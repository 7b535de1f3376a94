/- Plain law of AstSames: of every two lists of nodes. -/
import Derived.Test.YtabhhfpfdndidaaGreatDoorPrint9
import Derived.Test.YtabhhfpfdndidaaGreatDoorEndsPure
namespace Go.Proofs.YtabhhfpfdndidaaGreatDoor.Sames
open Go.RowKit Go.Proofs.YtabhhfpfdndidaaGreatDoorW.PrintWords Go.Proofs.YtabhhfpfdndidaaGreatDoor.Print
theorem nodeSame_refl (x : S35) : nodeSame x x = true := by unfold nodeSame; simp
theorem nodesSame_refl : ∀ l : List S35, nodesSame l l = true
  | [] => rfl
  | x :: l => by rw [nodesSame, nodeSame_refl, nodesSame_refl l]; rfl
theorem law (a b : List S35) : ∃ k, weirlaw13_AstSames.f k a b = some true := by
  refine ⟨40, ?_⟩
  unfold weirlaw13_AstSames.f ast_Same.f weirtree_Same.f
  rw [Ends.live_true 40 (Nat.le_refl _)]
  simp [nodesSame_refl]
end Go.Proofs.YtabhhfpfdndidaaGreatDoor.Sames
