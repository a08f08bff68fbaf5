/- The closed facts of the row of FloCompares: a text of its own (the kernel's memory). -/
import Derived.Test.YtceoapkkmgllaaaGreatDoorRows
import Derived.JoinedOf
import Derived.ProofKit
import Derived.WalkKit
namespace Go.Proofs.YtceoapkkmgllaaaGreatDoor
open Go.RowKit Go
theorem floCompares_facts : joinedFacts Tryz.pinned.checked.prog 10 Tryz.f10 Rows.floComparesSpec Rows.floComparesRow = true := by kernel_rfl
end Go.Proofs.YtceoapkkmgllaaaGreatDoor
