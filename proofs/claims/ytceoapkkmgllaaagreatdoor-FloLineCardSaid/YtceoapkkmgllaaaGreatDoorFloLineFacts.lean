/- The closed facts of the row of FloLine: a text of its own (the kernel's memory). -/
import Derived.Test.YtceoapkkmgllaaaGreatDoorRows
import Derived.JoinedOf
import Derived.ProofKit
import Derived.WalkKit
namespace Go.Proofs.YtceoapkkmgllaaaGreatDoor
open Go.RowKit Go
theorem floLine_facts : joinedFacts Tryz.pinned.checked.prog 11 Tryz.f11 Rows.floLineSpec Rows.floLineRow = true := by kernel_rfl
end Go.Proofs.YtceoapkkmgllaaaGreatDoor
