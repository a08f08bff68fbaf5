/- facts a -/
import Derived.Test.YtjhdlnllhjffkaaGreatDoorRows
import Derived.JoinedOf
import Derived.ProofKit
import Derived.WalkKit
namespace Go.Proofs.YtjhdlnllhjffkaaGreatDoor
open Go.RowKit Go
theorem lc_inPlace : (Rows.closeChecksUptoRow.inPlace == Tryz.pinned.checked.prog.inPlace 3) = true := by kernel_rfl
end Go.Proofs.YtjhdlnllhjffkaaGreatDoor
