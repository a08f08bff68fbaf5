/- The closed facts of the row of FloInts: a text of its own (the kernel's memory). -/
import Derived.Test.YtceoapkkmgllaaaGreatDoorRows
import Derived.JoinedOf
import Derived.ProofKit
import Derived.WalkKit
namespace Go.Proofs.YtceoapkkmgllaaaGreatDoor
open Go.RowKit Go
theorem floInts_facts : joinedFacts Tryz.pinned.checked.prog 6 Tryz.f6 Rows.floIntsSpec Rows.floIntsRow = true := by kernel_rfl
end Go.Proofs.YtceoapkkmgllaaaGreatDoor
