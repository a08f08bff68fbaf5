/- facts e -/
import Derived.Test.YtcpmiplofbfmfaaGreatDoorRows
import GoSem.ClaimSeven
import Derived.ProofKit
import Derived.Test.YtcpmiplofbfmfaaGreatDoorAl
set_option linter.all false
namespace Go.Proofs.YtcpmiplofbfmfaaGreatDoor
open Go.RowKit Go
theorem Yo:false=Rows.shrinkFoldsRow.goesBy Tryz.pinned.checked.prog:=by kernel_rfl
end Go.Proofs.YtcpmiplofbfmfaaGreatDoor
