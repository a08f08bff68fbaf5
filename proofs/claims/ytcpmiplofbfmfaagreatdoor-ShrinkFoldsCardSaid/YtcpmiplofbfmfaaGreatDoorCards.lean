/-
  DERIVED. GIVEN WITH THE SEED: THE CARDS: each row of YtcpmiplofbfmfaaGreatDoorRows.lean that lists a variable, with what it lists TIED to the program's text (the seventh form; the later family's looks); each row that meets fmt, with fmt's text TOLD by the authors' own Lean function (tested against real Go, not proved from fmt's source: count such statements apart). THE CARD IS WHAT COUNTS. Prove the row's statement (the work); the ties are given (YtcpmiplofbfmfaaGreatDoorTie.lean); close each card by the builder's one call (the guide's Derived/Test/ToyasCard.lean, 'card_holds'). Laid BY PROGRAM, IN A SANDBOX (cutbox-door.mjs). By AI agents, Wed Nov 11 2026. No macro, syntax, notation, axiom, sorry.
-/
import Derived.Test.YtcpmiplofbfmfaaGreatDoorRows
import GoSem.ClaimSeven
namespace Go.Proofs.YtcpmiplofbfmfaaGreatDoor
namespace Rows

/-- THE TIED CARD OF 'kilnlaw14.ShrinkFolds'. -/
def shrinkFoldsCard : Claim7 := { stood := { row := shrinkFoldsRow, standIns := [], harness := (true, "509c564bf0a4f8354155bf583fb21e1f3e6fac3f155f683cd8fb9ec286683c3b"), looks := true }, kinds := [], alts := [], laidByText := true, laidKinds := [.data, .data, .data, .data, .data, .sentinel, .sentinel, .pinned, .pinned, .pinned], laidTests := true, laidLooks := .later }
def ShrinkFoldsCardSaid : Prop := Claim7.holds Tryz.pinned (.plain (OpenSpec.ofChange shrinkFoldsSpec)) shrinkFoldsCard

/-- THE SECOND FORM's CARD OF 'kilnlaw14.ShrinkFolds'. -/
def shrinkFoldsUptoCard : Claim7 := { stood := { row := shrinkFoldsUptoRow, standIns := [], harness := (true, "509c564bf0a4f8354155bf583fb21e1f3e6fac3f155f683cd8fb9ec286683c3b"), looks := true }, kinds := [], alts := [], laidByText := true, laidKinds := [.data, .data, .data, .data, .data, .sentinel, .sentinel, .pinned, .pinned, .pinned], laidTests := true, laidLooks := .later }
def ShrinkFoldsUptoCardSaid : Prop := Claim7.holds Tryz.pinned (.plain (OpenSpec.upto shrinkFoldsSpec)) shrinkFoldsUptoCard
end Rows
end Go.Proofs.YtcpmiplofbfmfaaGreatDoor
