/- The closed facts of the row of LambdaChecks, put together. -/
import Derived.Test.YtmedfpejfpdpdaaGreatDoorLcFa
import Derived.Test.YtmedfpejfpdpdaaGreatDoorLcFb
import Derived.Test.YtmedfpejfpdpdaaGreatDoorLcFc
import Derived.Test.YtmedfpejfpdpdaaGreatDoorLcFd
namespace Go.Proofs.YtmedfpejfpdpdaaGreatDoor
open Go.RowKit Go
theorem and_two {a b : Bool} (ha : a = true) (hb : b = true) : (a && b) = true := by rw [ha, hb]; rfl
set_option maxRecDepth 100000 in
theorem lambdaChecks_facts : joinedFacts Tryz.pinned.checked.prog 3 Tryz.f3 Rows.lambdaChecksSpec Rows.lambdaChecksRow = true := by
  unfold joinedFacts
  exact and_two (and_two (and_two (and_two (and_two (and_two (and_two (and_two (and_two (and_two (and_two (and_two (and_two (and_two (and_two (and_two (and_two (and_two (and_two (and_two (and_two (and_two (and_two (and_two (and_two (and_two (and_two (and_two (and_two (and_two (and_two (by kernel_rfl) (by kernel_rfl)) (by kernel_rfl)) (by kernel_rfl)) (by kernel_rfl)) (by kernel_rfl)) (by kernel_rfl)) (by kernel_rfl)) (by kernel_rfl)) lc_inPlace) lc_unf) lc_rec) lc_vars) (by kernel_rfl)) (by kernel_rfl)) (by kernel_rfl)) (by kernel_rfl)) (by kernel_rfl)) (by kernel_rfl)) (by kernel_rfl)) (by kernel_rfl)) (by kernel_rfl)) (by kernel_rfl)) (by kernel_rfl)) (by kernel_rfl)) (by kernel_rfl)) (by kernel_rfl)) (by kernel_rfl)) (by kernel_rfl)) (by kernel_rfl)) (by kernel_rfl)) (by kernel_rfl)
end Go.Proofs.YtmedfpejfpdpdaaGreatDoor
