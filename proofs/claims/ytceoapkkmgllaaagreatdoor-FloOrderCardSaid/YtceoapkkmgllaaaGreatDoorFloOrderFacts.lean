/- The closed facts of the row of FloOrder: a text of its own (the kernel's memory). -/
import Derived.Test.YtceoapkkmgllaaaGreatDoorRows
import Derived.JoinedOf
import Derived.ProofKit
import Derived.WalkKit
namespace Go.Proofs.YtceoapkkmgllaaaGreatDoor
open Go.RowKit Go
theorem floOrder_facts : joinedFacts Tryz.pinned.checked.prog 9 Tryz.f9 Rows.floOrderSpec Rows.floOrderRow = true := by kernel_rfl
end Go.Proofs.YtceoapkkmgllaaaGreatDoor
