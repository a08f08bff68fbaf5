/- The closed facts of the row of FloSigns: a text of its own (the kernel's memory). -/
import Derived.Test.YtceoapkkmgllaaaGreatDoorRows
import Derived.JoinedOf
import Derived.ProofKit
import Derived.WalkKit
namespace Go.Proofs.YtceoapkkmgllaaaGreatDoor
open Go.RowKit Go
theorem floSigns_facts : joinedFacts Tryz.pinned.checked.prog 8 Tryz.f8 Rows.floSignsSpec Rows.floSignsRow = true := by kernel_rfl
end Go.Proofs.YtceoapkkmgllaaaGreatDoor
