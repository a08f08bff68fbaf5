/- facts a -/
import Derived.Test.YtcpmiplofbfmfaaGreatDoorRows
import Derived.ProofKit
import Derived.WalkKit
import Derived.Test.YtcpmiplofbfmfaaGreatDoorAl
set_option linter.all false
namespace Go.Proofs.YtcpmiplofbfmfaaGreatDoor
open Go.RowKit Go
theorem GH:(Rows.shrinkFoldsRow.inPlace==Tryz.pinned.checked.prog.inPlace 3)=true:=by kernel_rfl
end Go.Proofs.YtcpmiplofbfmfaaGreatDoor
