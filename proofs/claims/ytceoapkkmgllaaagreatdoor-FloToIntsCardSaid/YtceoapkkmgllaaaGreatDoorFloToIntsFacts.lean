/- The closed facts of the row of FloToInts: a text of its own (the kernel's memory). -/
import Derived.Test.YtceoapkkmgllaaaGreatDoorRows
import Derived.JoinedOf
import Derived.ProofKit
import Derived.WalkKit
namespace Go.Proofs.YtceoapkkmgllaaaGreatDoor
open Go.RowKit Go
theorem floToInts_facts : joinedFacts Tryz.pinned.checked.prog 14 Tryz.f14 Rows.floToIntsSpec Rows.floToIntsRow = true := by kernel_rfl
end Go.Proofs.YtceoapkkmgllaaaGreatDoor
