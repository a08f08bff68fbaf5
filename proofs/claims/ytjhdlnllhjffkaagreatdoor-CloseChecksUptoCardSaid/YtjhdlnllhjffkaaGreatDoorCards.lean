/-
  DERIVED. GIVEN WITH THE SEED: THE CARDS: each row of YtjhdlnllhjffkaaGreatDoorRows.lean that lists a variable, with what it lists TIED to the program's text (the seventh form; the later family's looks); each row that meets fmt, with fmt's text TOLD by the authors' own Lean function (tested against real Go, not proved from fmt's source: count such statements apart). THE CARD IS WHAT COUNTS. Prove the row's statement (the work); the ties are given (YtjhdlnllhjffkaaGreatDoorTie.lean); close each card by the builder's one call (the guide's Derived/Test/ToyasCard.lean, 'card_holds'). Laid BY PROGRAM, IN A SANDBOX (cutbox-door.mjs). By AI agents, Wed Nov 11 2026. No macro, syntax, notation, axiom, sorry.
-/
import Derived.Test.YtjhdlnllhjffkaaGreatDoorRows
import GoSem.ClaimSeven
namespace Go.Proofs.YtjhdlnllhjffkaaGreatDoor
namespace Rows

/-- THE TIED CARD OF 'kilnlaw15.CloseChecks'. -/
def closeChecksCard : Claim7 := { stood := { row := closeChecksRow, standIns := [], harness := (true, "2bef3b920a4250c1fadd822932c3243cb2291d4b5f8f18c2f9f1c655d726ab99"), looks := true }, kinds := [], alts := [], laidByText := true, laidKinds := [.data, .data, .widerDeep, .widerDeep, .data, .data, .data, .data, .data, .data, .sentinel, .sentinel, .pinned, .pinned, .pinned], laidTests := true, laidLooks := .later }
def CloseChecksCardSaid : Prop := Claim7.holds Tryz.pinned (.plain (OpenSpec.ofChange closeChecksSpec)) closeChecksCard

/-- THE SECOND FORM's CARD OF 'kilnlaw15.CloseChecks'. -/
def closeChecksUptoCard : Claim7 := { stood := { row := closeChecksUptoRow, standIns := [], harness := (true, "2bef3b920a4250c1fadd822932c3243cb2291d4b5f8f18c2f9f1c655d726ab99"), looks := true }, kinds := [], alts := [], laidByText := true, laidKinds := [.data, .data, .widerDeep, .widerDeep, .data, .data, .data, .data, .data, .data, .sentinel, .sentinel, .pinned, .pinned, .pinned], laidTests := true, laidLooks := .later }
def CloseChecksUptoCardSaid : Prop := Claim7.holds Tryz.pinned (.plain (OpenSpec.upto closeChecksSpec)) closeChecksUptoCard
end Rows
end Go.Proofs.YtjhdlnllhjffkaaGreatDoor
