/- The closed facts of the row of FloSums: a text of its own (the kernel's memory). -/
import Derived.Test.YtceoapkkmgllaaaGreatDoorRows
import Derived.JoinedOf
import Derived.ProofKit
import Derived.WalkKit
namespace Go.Proofs.YtceoapkkmgllaaaGreatDoor
open Go.RowKit Go
theorem floSums_facts : joinedFacts Tryz.pinned.checked.prog 5 Tryz.f5 Rows.floSumsSpec Rows.floSumsRow = true := by kernel_rfl
end Go.Proofs.YtceoapkkmgllaaaGreatDoor
