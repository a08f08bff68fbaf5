/- The closed facts of the row of FloTexts: a text of its own (the kernel's memory). -/
import Derived.Test.YtijncfidjjfmiaaGreatDoorRows
import Derived.JoinedOf
import Derived.ProofKit
import Derived.WalkKit
namespace Go.Proofs.YtijncfidjjfmiaaGreatDoor
open Go.RowKit Go
theorem floTexts_facts : joinedFacts Tryz.pinned.checked.prog 3 Tryz.f3 Rows.floTextsSpec Rows.floTextsRow = true := by kernel_rfl
end Go.Proofs.YtijncfidjjfmiaaGreatDoor
