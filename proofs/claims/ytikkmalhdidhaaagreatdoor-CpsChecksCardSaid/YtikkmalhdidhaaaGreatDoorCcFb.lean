/- facts b -/
import Derived.Test.YtikkmalhdidhaaaGreatDoorRows
import Derived.JoinedOf
import Derived.ProofKit
import Derived.WalkKit
namespace Go.Proofs.YtikkmalhdidhaaaGreatDoor
open Go.RowKit Go
theorem lc_unf : (Rows.cpsChecksRow.unfollowed == Tryz.pinned.checked.prog.unfollowed 3) = true := by kernel_rfl
end Go.Proofs.YtikkmalhdidhaaaGreatDoor
