/- For every list of nodes and every root, 'lambda' and the document agree on which are programs and which variables are free: the tied card of LambdaChecks. Its conditions: the row's listed variables alone. -/
import Derived.Test.YtmedfpejfpdpdaaGreatDoorLambdaChecksHold
import Derived.Test.YtmedfpejfpdpdaaGreatDoorLcFe
import Derived.Test.YtmedfpejfpdpdaaGreatDoorCards
import Derived.Test.YtmedfpejfpdpdaaGreatDoorTie
import Derived.SevenTiedAt
namespace Go.Proofs.YtmedfpejfpdpdaaGreatDoor
open Go.RowKit Go.ChangeShapes Go.WideShapes Go.ChangeAt

theorem lambdaChecks_card : Rows.LambdaChecksCardSaid :=
  Claim7.holds_tied_plain_at .later [] [.data, .data, .widerDeep, .widerDeep, .data, .data, .data, .data, .data, .data, .sentinel, .sentinel, .pinned, .pinned, .pinned] true (true, "8afe008e6108919727eabe75ccbeb36d459d37d98023b7b25a323b0d2a2ebb78") true lambdaChecks_holds (fun _ h => by cases h) (by kernel_rfl) (fun _ h => by cases h) lambdaChecks_row_tie rfl ⟨rfl, rfl⟩ (by kernel_rfl) rfl
    (fun f fn hf hfn => by
      obtain rfl : f = 3 := Option.some.inj ((show Tryz.prog.funcNamed "kiln/kilnlaw11.LambdaChecks" = some 3 by kernel_rfl).symm.trans hf) |>.symm
      obtain rfl : fn = Tryz.f3 := (Option.some.inj (Tryz.func3.symm.trans hfn)).symm
      exact ⟨by kernel_rfl, fun j t ht => by
        rw [Tryz.params3] at ht
        have hm : t ∈ [24] := by simpa using Array.mem_of_getElem? ht
        have hall : ([24].all fun u => !Tryz.prog.wantsStandIn u) = true := by kernel_rfl
        exact (show Tryz.prog.wantsStandIn t = false by simpa using List.all_eq_true.1 hall t hm)⟩)
    lc_goes
end Go.Proofs.YtmedfpejfpdpdaaGreatDoor
