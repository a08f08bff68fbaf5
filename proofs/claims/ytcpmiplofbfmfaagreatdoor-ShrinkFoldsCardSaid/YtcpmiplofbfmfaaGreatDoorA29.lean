/- facts d -/
import Derived.Test.YtcpmiplofbfmfaaGreatDoorRows
import Derived.ProofKit
import Derived.WalkKit
import Derived.Test.YtcpmiplofbfmfaaGreatDoorAl
set_option linter.all false
namespace Go.Proofs.YtcpmiplofbfmfaaGreatDoor
open Go.RowKit Go
theorem Yn:(Rows.shrinkFoldsRow.named==Tryz.pinned.checked.prog.varsNamed 3)=true:=by kernel_rfl
end Go.Proofs.YtcpmiplofbfmfaaGreatDoor
