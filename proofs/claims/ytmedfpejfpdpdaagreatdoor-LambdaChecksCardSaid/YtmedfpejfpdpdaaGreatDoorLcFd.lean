/- facts d -/
import Derived.Test.YtmedfpejfpdpdaaGreatDoorRows
import Derived.JoinedOf
import Derived.ProofKit
import Derived.WalkKit
namespace Go.Proofs.YtmedfpejfpdpdaaGreatDoor
open Go.RowKit Go
theorem lc_vars : (Rows.lambdaChecksRow.named == Tryz.pinned.checked.prog.varsNamed 3) = true := by kernel_rfl
end Go.Proofs.YtmedfpejfpdpdaaGreatDoor
