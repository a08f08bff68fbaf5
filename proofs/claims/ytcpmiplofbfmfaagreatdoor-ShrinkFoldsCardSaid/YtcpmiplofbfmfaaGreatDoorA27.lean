/- facts b -/
import Derived.Test.YtcpmiplofbfmfaaGreatDoorRows
import Derived.ProofKit
import Derived.WalkKit
import Derived.Test.YtcpmiplofbfmfaaGreatDoorAl
set_option linter.all false
namespace Go.Proofs.YtcpmiplofbfmfaaGreatDoor
open Go.RowKit Go
theorem acV:(Rows.shrinkFoldsRow.unfollowed==Tryz.pinned.checked.prog.unfollowed 3)=true:=by kernel_rfl
end Go.Proofs.YtcpmiplofbfmfaaGreatDoor
