/- The closed facts of the row of CloseChecks, put together. -/
import Derived.Test.YtjhdlnllhjffkaaGreatDoorClFa
import Derived.Test.YtjhdlnllhjffkaaGreatDoorClFb
import Derived.Test.YtjhdlnllhjffkaaGreatDoorClFc
import Derived.Test.YtjhdlnllhjffkaaGreatDoorClFd
namespace Go.Proofs.YtjhdlnllhjffkaaGreatDoor
open Go.RowKit Go
theorem and_two {a b : Bool} (ha : a = true) (hb : b = true) : (a && b) = true := by rw [ha, hb]; rfl
set_option maxRecDepth 100000 in
theorem closeChecks_facts : joinedFacts Tryz.pinned.checked.prog 3 Tryz.f3 (Rows.OpenSpec.upto Rows.closeChecksSpec).bare Rows.closeChecksUptoRow = true := by
  unfold joinedFacts
  exact and_two (and_two (and_two (and_two (and_two (and_two (and_two (and_two (and_two (and_two (and_two (and_two (and_two (and_two (and_two (and_two (and_two (and_two (and_two (and_two (and_two (and_two (and_two (and_two (and_two (and_two (and_two (and_two (and_two (and_two (and_two (by kernel_rfl) (by kernel_rfl)) (by kernel_rfl)) (by kernel_rfl)) (by kernel_rfl)) (by kernel_rfl)) (by kernel_rfl)) (by kernel_rfl)) (by kernel_rfl)) lc_inPlace) lc_unf) lc_rec) lc_vars) (by kernel_rfl)) (by kernel_rfl)) (by kernel_rfl)) (by kernel_rfl)) (by kernel_rfl)) (by kernel_rfl)) (by kernel_rfl)) (by kernel_rfl)) (by kernel_rfl)) (by kernel_rfl)) (by kernel_rfl)) (by kernel_rfl)) (by kernel_rfl)) (by kernel_rfl)) (by kernel_rfl)) (by kernel_rfl)) (by kernel_rfl)) (by kernel_rfl)) (by kernel_rfl)
end Go.Proofs.YtjhdlnllhjffkaaGreatDoor
