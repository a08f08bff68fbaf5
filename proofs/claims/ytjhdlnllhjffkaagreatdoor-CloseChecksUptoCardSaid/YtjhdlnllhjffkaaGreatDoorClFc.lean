/- facts c -/
import Derived.Test.YtjhdlnllhjffkaaGreatDoorRows
import Derived.JoinedOf
import Derived.ProofKit
import Derived.WalkKit
namespace Go.Proofs.YtjhdlnllhjffkaaGreatDoor
open Go.RowKit Go
theorem lc_rec : (Rows.closeChecksUptoRow.recurses == Tryz.pinned.checked.prog.recurses 3) = true := by kernel_rfl
end Go.Proofs.YtjhdlnllhjffkaaGreatDoor
