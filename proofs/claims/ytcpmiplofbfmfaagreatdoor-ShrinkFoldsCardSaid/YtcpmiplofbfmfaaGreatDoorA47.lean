/- The closed facts of the row of ShrinkFolds, put together. -/
import Derived.Test.YtcpmiplofbfmfaaGreatDoorA26
import Derived.Test.YtcpmiplofbfmfaaGreatDoorA27
import Derived.Test.YtcpmiplofbfmfaaGreatDoorA28
import Derived.Test.YtcpmiplofbfmfaaGreatDoorA29
set_option linter.all false
set_option maxRecDepth 100000
namespace Go.Proofs.YtcpmiplofbfmfaaGreatDoor
open Go.RowKit Go
theorem bL{a b:Bool}(ha:a=true)(hb:b=true):(a&&b)=true:=by rw [ha,hb];rfl
theorem sX:joinedFacts Tryz.pinned.checked.prog 3 Tryz.f3 Rows.shrinkFoldsSpec Rows.shrinkFoldsRow=true:=by
 unfold joinedFacts;exact bL (bL (bL (bL (bL (bL (bL (bL (bL (bL (bL (bL (bL (bL (bL (bL (bL (bL (bL (bL (bL (bL (bL (bL (bL (bL (bL (bL (bL (bL (bL (by kernel_rfl) (by kernel_rfl)) (by kernel_rfl)) (by kernel_rfl)) (by kernel_rfl)) (by kernel_rfl)) (by kernel_rfl)) (by kernel_rfl)) (by kernel_rfl)) GH) acV) acW) Yn) (by kernel_rfl)) (by kernel_rfl)) (by kernel_rfl)) (by kernel_rfl)) (by kernel_rfl)) (by kernel_rfl)) (by kernel_rfl)) (by kernel_rfl)) (by kernel_rfl)) (by kernel_rfl)) (by kernel_rfl)) (by kernel_rfl)) (by kernel_rfl)) (by kernel_rfl)) (by kernel_rfl)) (by kernel_rfl)) (by kernel_rfl)) (by kernel_rfl)) (by kernel_rfl)
end Go.Proofs.YtcpmiplofbfmfaaGreatDoor
