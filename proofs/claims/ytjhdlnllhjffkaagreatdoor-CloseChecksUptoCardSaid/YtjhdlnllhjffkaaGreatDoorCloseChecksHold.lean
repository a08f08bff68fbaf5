/- CloseChecks: the row of the second form holds. -/
import Derived.Test.YtjhdlnllhjffkaaGreatDoorCloseChecksLift
import Derived.Test.YtjhdlnllhjffkaaGreatDoorCloseChecksFacts
namespace Go.Proofs.YtjhdlnllhjffkaaGreatDoor
open Go.RowKit Go.ChangeShapes Go.WideShapes Go.ChangeAt

theorem closeChecks_holds : Rows.closeChecksUptoRow.holds Tryz.pinned (Rows.OpenSpec.upto Rows.closeChecksSpec) :=
  OpenClaim.holds_of_cond 3 Tryz.f3 rfl rfl rfl rfl rfl rfl rfl ⟨rfl, rfl, rfl, rfl, rfl⟩ rfl rfl rfl rfl rfl (by kernel_rfl) Tryz.func3 closeChecks_facts
    (of_decide_eq_true (by kernel_rfl)) (by unfold Func.isWrapper; first | (rw [if_pos (by decide +kernel)]; kernel_rfl) | (rw [if_neg (by decide +kernel)]; exact ⟨rfl, rfl⟩))
    (fun os started H enc _ F => by rw [OpenClaim.pre_eq_preRow]; exact closeChecks_lifted os started H enc F)

end Go.Proofs.YtjhdlnllhjffkaaGreatDoor
