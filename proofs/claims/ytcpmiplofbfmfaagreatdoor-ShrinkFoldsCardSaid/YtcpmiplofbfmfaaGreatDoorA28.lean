/- facts c -/
import Derived.Test.YtcpmiplofbfmfaaGreatDoorRows
import Derived.ProofKit
import Derived.WalkKit
import Derived.Test.YtcpmiplofbfmfaaGreatDoorAl
set_option linter.all false
namespace Go.Proofs.YtcpmiplofbfmfaaGreatDoor
open Go.RowKit Go
theorem acW:(Rows.shrinkFoldsRow.recurses==Tryz.pinned.checked.prog.recurses 3)=true:=by kernel_rfl
end Go.Proofs.YtcpmiplofbfmfaaGreatDoor
