/- facts c -/
import Derived.Test.YtmedfpejfpdpdaaGreatDoorRows
import Derived.JoinedOf
import Derived.ProofKit
import Derived.WalkKit
namespace Go.Proofs.YtmedfpejfpdpdaaGreatDoor
open Go.RowKit Go
theorem lc_rec : (Rows.lambdaChecksRow.recurses == Tryz.pinned.checked.prog.recurses 3) = true := by kernel_rfl
end Go.Proofs.YtmedfpejfpdpdaaGreatDoor
