/- The closed facts of the row of FloBits: a text of its own (the kernel's memory). -/
import Derived.Test.YtceoapkkmgllaaaGreatDoorRows
import Derived.JoinedOf
import Derived.ProofKit
import Derived.WalkKit
namespace Go.Proofs.YtceoapkkmgllaaaGreatDoor
open Go.RowKit Go
theorem floBits_facts : joinedFacts Tryz.pinned.checked.prog 3 Tryz.f3 Rows.floBitsSpec Rows.floBitsRow = true := by kernel_rfl
end Go.Proofs.YtceoapkkmgllaaaGreatDoor
