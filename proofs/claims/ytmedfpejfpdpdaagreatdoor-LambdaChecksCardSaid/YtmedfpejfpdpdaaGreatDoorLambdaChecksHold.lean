/- LambdaChecks: the row holds. -/
import Derived.Test.YtmedfpejfpdpdaaGreatDoorLambdaChecksLift
import Derived.Test.YtmedfpejfpdpdaaGreatDoorLambdaChecksFacts
namespace Go.Proofs.YtmedfpejfpdpdaaGreatDoor
open Go.RowKit Go.ChangeShapes Go.WideShapes Go.ChangeAt

theorem lambdaChecks_holds : Rows.lambdaChecksRow.holds Tryz.pinned (OpenSpec.ofChange Rows.lambdaChecksSpec) :=
  OpenClaim.holds_of_wide 3 Tryz.f3 rfl rfl rfl rfl rfl rfl rfl ⟨rfl, rfl, rfl, rfl, rfl⟩ rfl rfl rfl rfl rfl (by kernel_rfl) Tryz.func3 lambdaChecks_facts
    (of_decide_eq_true (by kernel_rfl)) (by unfold Func.isWrapper; first | (rw [if_pos (by decide +kernel)]; kernel_rfl) | (rw [if_neg (by decide +kernel)]; exact ⟨rfl, rfl⟩))
    (fun os started H enc _ => lambdaChecks_lifted os started H enc)

end Go.Proofs.YtmedfpejfpdpdaaGreatDoor
