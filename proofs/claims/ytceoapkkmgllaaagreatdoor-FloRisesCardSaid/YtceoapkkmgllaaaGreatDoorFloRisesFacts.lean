/- The closed facts of the row of FloRises: a text of its own (the kernel's memory). -/
import Derived.Test.YtceoapkkmgllaaaGreatDoorRows
import Derived.JoinedOf
import Derived.ProofKit
import Derived.WalkKit
namespace Go.Proofs.YtceoapkkmgllaaaGreatDoor
open Go.RowKit Go
theorem floRises_facts : joinedFacts Tryz.pinned.checked.prog 12 Tryz.f12 Rows.floRisesSpec Rows.floRisesRow = true := by kernel_rfl
end Go.Proofs.YtceoapkkmgllaaaGreatDoor
