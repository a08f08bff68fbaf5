/- facts e -/
import Derived.Test.YtikkmalhdidhaaaGreatDoorRows
import GoSem.ClaimSeven
import Derived.ProofKit
namespace Go.Proofs.YtikkmalhdidhaaaGreatDoor
open Go.RowKit Go
theorem lc_goes : false = Rows.cpsChecksRow.goesBy Tryz.pinned.checked.prog := by kernel_rfl
end Go.Proofs.YtikkmalhdidhaaaGreatDoor
