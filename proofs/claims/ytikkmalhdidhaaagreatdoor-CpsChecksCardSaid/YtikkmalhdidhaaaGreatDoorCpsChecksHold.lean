/- CpsChecks: the row holds. -/
import Derived.Test.YtikkmalhdidhaaaGreatDoorCpsChecksLift
import Derived.Test.YtikkmalhdidhaaaGreatDoorCpsChecksFacts
namespace Go.Proofs.YtikkmalhdidhaaaGreatDoor
open Go.RowKit Go.ChangeShapes Go.WideShapes Go.ChangeAt

theorem cpsChecks_holds : Rows.cpsChecksRow.holds Tryz.pinned (OpenSpec.ofChange Rows.cpsChecksSpec) :=
  OpenClaim.holds_of_wide 3 Tryz.f3 rfl rfl rfl rfl rfl rfl rfl ⟨rfl, rfl, rfl, rfl, rfl⟩ rfl rfl rfl rfl rfl (by kernel_rfl) Tryz.func3 cpsChecks_facts
    (of_decide_eq_true (by kernel_rfl)) (by unfold Func.isWrapper; first | (rw [if_pos (by decide +kernel)]; kernel_rfl) | (rw [if_neg (by decide +kernel)]; exact ⟨rfl, rfl⟩))
    (fun os started H enc _ => cpsChecks_lifted os started H enc)

end Go.Proofs.YtikkmalhdidhaaaGreatDoor
