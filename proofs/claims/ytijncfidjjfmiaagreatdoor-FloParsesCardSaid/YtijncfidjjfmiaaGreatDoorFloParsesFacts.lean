/- The closed facts of the row of FloParses: a text of its own (the kernel's memory). -/
import Derived.Test.YtijncfidjjfmiaaGreatDoorRows
import Derived.JoinedOf
import Derived.ProofKit
import Derived.WalkKit
namespace Go.Proofs.YtijncfidjjfmiaaGreatDoor
open Go.RowKit Go
theorem floParses_facts : joinedFacts Tryz.pinned.checked.prog 4 Tryz.f4 Rows.floParsesSpec Rows.floParsesRow = true := by kernel_rfl
end Go.Proofs.YtijncfidjjfmiaaGreatDoor
