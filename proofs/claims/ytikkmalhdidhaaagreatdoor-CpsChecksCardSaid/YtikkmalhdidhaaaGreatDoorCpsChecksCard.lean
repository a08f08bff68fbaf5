/- For every list of nodes and every root, 'cps' and the document agree on which are programs and which variables are free: the tied card of CpsChecks. Its conditions: the row's listed variables alone. -/
import Derived.Test.YtikkmalhdidhaaaGreatDoorCpsChecksHold
import Derived.Test.YtikkmalhdidhaaaGreatDoorCcFe
import Derived.Test.YtikkmalhdidhaaaGreatDoorCards
import Derived.Test.YtikkmalhdidhaaaGreatDoorTie
import Derived.SevenTiedAt
namespace Go.Proofs.YtikkmalhdidhaaaGreatDoor
open Go.RowKit Go.ChangeShapes Go.WideShapes Go.ChangeAt

theorem cpsChecks_card : Rows.CpsChecksCardSaid :=
  Claim7.holds_tied_plain_at .later [] [.data, .data, .widerDeep, .widerDeep, .data, .data, .data, .data, .data, .data, .sentinel, .sentinel, .pinned, .pinned, .pinned] true (true, "d44bfeaa61075387e719d7f4ec8ebde0bc5cb393dbc0bd371e05b59f86ea8a4e") true cpsChecks_holds (fun _ h => by cases h) (by kernel_rfl) (fun _ h => by cases h) cpsChecks_row_tie rfl ⟨rfl, rfl⟩ (by kernel_rfl) rfl
    (fun f fn hf hfn => by
      obtain rfl : f = 3 := Option.some.inj ((show Tryz.prog.funcNamed "kiln/kilnlaw13.CpsChecks" = some 3 by kernel_rfl).symm.trans hf) |>.symm
      obtain rfl : fn = Tryz.f3 := (Option.some.inj (Tryz.func3.symm.trans hfn)).symm
      exact ⟨by kernel_rfl, fun j t ht => by
        rw [Tryz.params3] at ht
        have hm : t ∈ [24] := by simpa using Array.mem_of_getElem? ht
        have hall : ([24].all fun u => !Tryz.prog.wantsStandIn u) = true := by kernel_rfl
        exact (show Tryz.prog.wantsStandIn t = false by simpa using List.all_eq_true.1 hall t hm)⟩)
    lc_goes
end Go.Proofs.YtikkmalhdidhaaaGreatDoor
