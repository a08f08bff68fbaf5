/- The closed facts of the row of FloNear: a text of its own (the kernel's memory). -/
import Derived.Test.YtceoapkkmgllaaaGreatDoorRows
import Derived.JoinedOf
import Derived.ProofKit
import Derived.WalkKit
namespace Go.Proofs.YtceoapkkmgllaaaGreatDoor
open Go.RowKit Go
theorem floNear_facts : joinedFacts Tryz.pinned.checked.prog 15 Tryz.f15 Rows.floNearSpec Rows.floNearRow = true := by kernel_rfl
end Go.Proofs.YtceoapkkmgllaaaGreatDoor
