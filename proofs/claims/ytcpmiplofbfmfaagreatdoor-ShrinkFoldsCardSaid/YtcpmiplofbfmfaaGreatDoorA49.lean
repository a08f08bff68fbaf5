/- For every number of a primitive and every list of nodes, 'shrink' and the document agree on what the primitive of these constants is: the tied card of ShrinkFolds. Its conditions: the row's listed variables alone. -/
import Derived.Test.YtcpmiplofbfmfaaGreatDoorA48
import Derived.Test.YtcpmiplofbfmfaaGreatDoorA30
import Derived.Test.YtcpmiplofbfmfaaGreatDoorCards
import Derived.Test.YtcpmiplofbfmfaaGreatDoorTie
import Derived.SevenTiedAt
set_option linter.all false
namespace Go.Proofs.YtcpmiplofbfmfaaGreatDoor
open Go.Proofs.Tryz
open Go.RowKit Go.ChangeShapes Go.WideShapes Go.ChangeAt
theorem shrinkFolds_card:Rows.ShrinkFoldsCardSaid:=
 Claim7.holds_tied_plain_at .later [] [.data, .data, .data, .data, .data, .sentinel, .sentinel, .pinned, .pinned, .pinned] true (true, "509c564bf0a4f8354155bf583fb21e1f3e6fac3f155f683cd8fb9ec286683c3b") true sY (fun _ h=>by cases h) (by kernel_rfl) (fun _ h=>by cases h) shrinkFolds_row_tie rfl ⟨rfl,rfl⟩ (by kernel_rfl) rfl
  (fun f fn hf Cr=>by
   obtain rfl:f=3:=zz ((show prog.funcNamed "kiln/kilnlaw14.ShrinkFolds" =some 3 by kernel_rfl).symm.trans hf)|>.symm
   obtain rfl:fn=Tryz.f3:=(zz (func3.symm.trans Cr)).symm
   exact⟨by kernel_rfl,fun j t ht=>by
    rw [params3]at ht;have hm:t∈[3,22]:=by simpa using Array.mem_of_getElem? ht
    have amH:([3,22].all fun u=> !prog.wantsStandIn u)=true:=by kernel_rfl
    exact(show prog.wantsStandIn t=false by simpa using List.all_eq_true.1 amH t hm)⟩)
  Yo
end Go.Proofs.YtcpmiplofbfmfaaGreatDoor
