/- facts d -/
import Derived.Test.YtjhdlnllhjffkaaGreatDoorRows
import Derived.JoinedOf
import Derived.ProofKit
import Derived.WalkKit
namespace Go.Proofs.YtjhdlnllhjffkaaGreatDoor
open Go.RowKit Go
theorem lc_vars : (Rows.closeChecksUptoRow.named == Tryz.pinned.checked.prog.varsNamed 3) = true := by kernel_rfl
end Go.Proofs.YtjhdlnllhjffkaaGreatDoor
