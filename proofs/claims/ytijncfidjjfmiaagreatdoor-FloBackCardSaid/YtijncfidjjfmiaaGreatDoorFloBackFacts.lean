/- The closed facts of the row of FloBack: a text of its own (the kernel's memory). -/
import Derived.Test.YtijncfidjjfmiaaGreatDoorRows
import Derived.JoinedOf
import Derived.ProofKit
import Derived.WalkKit
namespace Go.Proofs.YtijncfidjjfmiaaGreatDoor
open Go.RowKit Go
theorem floBack_facts : joinedFacts Tryz.pinned.checked.prog 5 Tryz.f5 Rows.floBackSpec Rows.floBackRow = true := by kernel_rfl
end Go.Proofs.YtijncfidjjfmiaaGreatDoor
