/- ShrinkFolds: the row holds. -/
import Derived.Test.YtcpmiplofbfmfaaGreatDoorA46
import Derived.Test.YtcpmiplofbfmfaaGreatDoorA47
set_option linter.all false
namespace Go.Proofs.YtcpmiplofbfmfaaGreatDoor
open Go.Proofs.Tryz
open Go.RowKit Go.ChangeShapes Go.WideShapes Go.ChangeAt
theorem sY:Rows.shrinkFoldsRow.holds Tryz.pinned (OpenSpec.ofChange Rows.shrinkFoldsSpec):=
 OpenClaim.holds_of_wide 3 Tryz.f3 rfl rfl rfl rfl rfl rfl rfl ⟨rfl,rfl,rfl,rfl,rfl⟩ rfl rfl rfl rfl rfl (by kernel_rfl) func3 sX
  (Zq (by kernel_rfl)) (by unfold Func.isWrapper;first|(rw [zh (by decide+kernel)];kernel_rfl)|(rw [ze (by decide+kernel)];exact⟨rfl,rfl⟩))
  (fun os td H enc _=>rH os td H enc)
end Go.Proofs.YtcpmiplofbfmfaaGreatDoor
