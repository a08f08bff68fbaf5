/- facts e -/
import Derived.Test.YtjhdlnllhjffkaaGreatDoorRows
import GoSem.ClaimSeven
import Derived.ProofKit
namespace Go.Proofs.YtjhdlnllhjffkaaGreatDoor
open Go.RowKit Go
theorem lc_goes : false = Rows.closeChecksUptoRow.goesBy Tryz.pinned.checked.prog := by kernel_rfl
end Go.Proofs.YtjhdlnllhjffkaaGreatDoor
