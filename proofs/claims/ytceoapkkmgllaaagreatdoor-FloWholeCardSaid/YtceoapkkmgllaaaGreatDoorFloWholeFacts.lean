/- The closed facts of the row of FloWhole: a text of its own (the kernel's memory). -/
import Derived.Test.YtceoapkkmgllaaaGreatDoorRows
import Derived.JoinedOf
import Derived.ProofKit
import Derived.WalkKit
namespace Go.Proofs.YtceoapkkmgllaaaGreatDoor
open Go.RowKit Go
theorem floWhole_facts : joinedFacts Tryz.pinned.checked.prog 13 Tryz.f13 Rows.floWholeSpec Rows.floWholeRow = true := by kernel_rfl
end Go.Proofs.YtceoapkkmgllaaaGreatDoor
