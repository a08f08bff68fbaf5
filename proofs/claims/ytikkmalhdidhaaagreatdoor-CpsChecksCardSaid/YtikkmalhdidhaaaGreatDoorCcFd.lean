/- facts d -/
import Derived.Test.YtikkmalhdidhaaaGreatDoorRows
import Derived.JoinedOf
import Derived.ProofKit
import Derived.WalkKit
namespace Go.Proofs.YtikkmalhdidhaaaGreatDoor
open Go.RowKit Go
theorem lc_vars : (Rows.cpsChecksRow.named == Tryz.pinned.checked.prog.varsNamed 3) = true := by kernel_rfl
end Go.Proofs.YtikkmalhdidhaaaGreatDoor
