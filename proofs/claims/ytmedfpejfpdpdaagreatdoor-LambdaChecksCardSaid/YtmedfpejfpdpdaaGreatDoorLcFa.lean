/- facts a -/
import Derived.Test.YtmedfpejfpdpdaaGreatDoorRows
import Derived.JoinedOf
import Derived.ProofKit
import Derived.WalkKit
namespace Go.Proofs.YtmedfpejfpdpdaaGreatDoor
open Go.RowKit Go
theorem lc_inPlace : (Rows.lambdaChecksRow.inPlace == Tryz.pinned.checked.prog.inPlace 3) = true := by kernel_rfl
end Go.Proofs.YtmedfpejfpdpdaaGreatDoor
