/- facts b -/
import Derived.Test.YtmedfpejfpdpdaaGreatDoorRows
import Derived.JoinedOf
import Derived.ProofKit
import Derived.WalkKit
namespace Go.Proofs.YtmedfpejfpdpdaaGreatDoor
open Go.RowKit Go
theorem lc_unf : (Rows.lambdaChecksRow.unfollowed == Tryz.pinned.checked.prog.unfollowed 3) = true := by kernel_rfl
end Go.Proofs.YtmedfpejfpdpdaaGreatDoor
