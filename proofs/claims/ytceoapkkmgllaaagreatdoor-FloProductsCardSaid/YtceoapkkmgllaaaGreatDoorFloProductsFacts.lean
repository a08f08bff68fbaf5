/- The closed facts of the row of FloProducts: a text of its own (the kernel's memory). -/
import Derived.Test.YtceoapkkmgllaaaGreatDoorRows
import Derived.JoinedOf
import Derived.ProofKit
import Derived.WalkKit
namespace Go.Proofs.YtceoapkkmgllaaaGreatDoor
open Go.RowKit Go
theorem floProducts_facts : joinedFacts Tryz.pinned.checked.prog 7 Tryz.f7 Rows.floProductsSpec Rows.floProductsRow = true := by kernel_rfl
end Go.Proofs.YtceoapkkmgllaaaGreatDoor
