/- facts c -/
import Derived.Test.YtikkmalhdidhaaaGreatDoorRows
import Derived.JoinedOf
import Derived.ProofKit
import Derived.WalkKit
namespace Go.Proofs.YtikkmalhdidhaaaGreatDoor
open Go.RowKit Go
theorem lc_rec : (Rows.cpsChecksRow.recurses == Tryz.pinned.checked.prog.recurses 3) = true := by kernel_rfl
end Go.Proofs.YtikkmalhdidhaaaGreatDoor
