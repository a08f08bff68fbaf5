/- For every flat program whose values and letters are at most 1048576, 'close' and the document agree on whether it is one: the tied card of CloseChecks in its second form. Its conditions: the row's listed variables and the bound of the bulk. -/
import Derived.Test.YtjhdlnllhjffkaaGreatDoorCloseChecksHold
import Derived.Test.YtjhdlnllhjffkaaGreatDoorClFe
import Derived.Test.YtjhdlnllhjffkaaGreatDoorCards
import Derived.Test.YtjhdlnllhjffkaaGreatDoorTie
import Derived.SevenTiedAt
namespace Go.Proofs.YtjhdlnllhjffkaaGreatDoor
open Go.RowKit Go.ChangeShapes Go.WideShapes Go.ChangeAt

theorem closeChecks_card : Rows.CloseChecksUptoCardSaid :=
  Claim7.holds_tied_plain_at .later [] [.data, .data, .widerDeep, .widerDeep, .data, .data, .data, .data, .data, .data, .sentinel, .sentinel, .pinned, .pinned, .pinned] true (true, "2bef3b920a4250c1fadd822932c3243cb2291d4b5f8f18c2f9f1c655d726ab99") true closeChecks_holds (fun _ h => by cases h) (by kernel_rfl) (fun _ h => by cases h) closeChecksUpto_row_tie rfl ⟨rfl, rfl⟩ (by kernel_rfl) rfl
    (fun f fn hf hfn => by
      obtain rfl : f = 3 := Option.some.inj ((show Tryz.prog.funcNamed "kiln/kilnlaw15.CloseChecks" = some 3 by kernel_rfl).symm.trans hf) |>.symm
      obtain rfl : fn = Tryz.f3 := (Option.some.inj (Tryz.func3.symm.trans hfn)).symm
      exact ⟨by kernel_rfl, fun j t ht => by
        rw [Tryz.params3] at ht
        have hm : t ∈ [25] := by simpa using Array.mem_of_getElem? ht
        have hall : ([25].all fun u => !Tryz.prog.wantsStandIn u) = true := by kernel_rfl
        exact (show Tryz.prog.wantsStandIn t = false by simpa using List.all_eq_true.1 hall t hm)⟩)
    lc_goes
end Go.Proofs.YtjhdlnllhjffkaaGreatDoor
