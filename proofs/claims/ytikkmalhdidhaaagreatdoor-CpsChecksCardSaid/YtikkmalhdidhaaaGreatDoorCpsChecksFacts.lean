/- The closed facts of the row of CpsChecks, put together. -/
import Derived.Test.YtikkmalhdidhaaaGreatDoorCcFa
import Derived.Test.YtikkmalhdidhaaaGreatDoorCcFb
import Derived.Test.YtikkmalhdidhaaaGreatDoorCcFc
import Derived.Test.YtikkmalhdidhaaaGreatDoorCcFd
namespace Go.Proofs.YtikkmalhdidhaaaGreatDoor
open Go.RowKit Go
theorem and_two {a b : Bool} (ha : a = true) (hb : b = true) : (a && b) = true := by rw [ha, hb]; rfl
set_option maxRecDepth 100000 in
theorem cpsChecks_facts : joinedFacts Tryz.pinned.checked.prog 3 Tryz.f3 Rows.cpsChecksSpec Rows.cpsChecksRow = true := by
  unfold joinedFacts
  exact and_two (and_two (and_two (and_two (and_two (and_two (and_two (and_two (and_two (and_two (and_two (and_two (and_two (and_two (and_two (and_two (and_two (and_two (and_two (and_two (and_two (and_two (and_two (and_two (and_two (and_two (and_two (and_two (and_two (and_two (and_two (by kernel_rfl) (by kernel_rfl)) (by kernel_rfl)) (by kernel_rfl)) (by kernel_rfl)) (by kernel_rfl)) (by kernel_rfl)) (by kernel_rfl)) (by kernel_rfl)) lc_inPlace) lc_unf) lc_rec) lc_vars) (by kernel_rfl)) (by kernel_rfl)) (by kernel_rfl)) (by kernel_rfl)) (by kernel_rfl)) (by kernel_rfl)) (by kernel_rfl)) (by kernel_rfl)) (by kernel_rfl)) (by kernel_rfl)) (by kernel_rfl)) (by kernel_rfl)) (by kernel_rfl)) (by kernel_rfl)) (by kernel_rfl)) (by kernel_rfl)) (by kernel_rfl)) (by kernel_rfl)) (by kernel_rfl)
end Go.Proofs.YtikkmalhdidhaaaGreatDoor
