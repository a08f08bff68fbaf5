/- facts e -/
import Derived.Test.YtmedfpejfpdpdaaGreatDoorRows
import GoSem.ClaimSeven
import Derived.ProofKit
namespace Go.Proofs.YtmedfpejfpdpdaaGreatDoor
open Go.RowKit Go
theorem lc_goes : false = Rows.lambdaChecksRow.goesBy Tryz.pinned.checked.prog := by kernel_rfl
end Go.Proofs.YtmedfpejfpdpdaaGreatDoor
