/- facts b -/
import Derived.Test.YtjhdlnllhjffkaaGreatDoorRows
import Derived.JoinedOf
import Derived.ProofKit
import Derived.WalkKit
namespace Go.Proofs.YtjhdlnllhjffkaaGreatDoor
open Go.RowKit Go
theorem lc_unf : (Rows.closeChecksUptoRow.unfollowed == Tryz.pinned.checked.prog.unfollowed 3) = true := by kernel_rfl
end Go.Proofs.YtjhdlnllhjffkaaGreatDoor
