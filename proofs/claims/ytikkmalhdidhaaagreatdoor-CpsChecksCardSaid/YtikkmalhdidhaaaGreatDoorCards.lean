/-
  DERIVED. GIVEN WITH THE SEED: THE CARDS: each row of YtikkmalhdidhaaaGreatDoorRows.lean that lists a variable, with what it lists TIED to the program's text (the seventh form; the later family's looks); each row that meets fmt, with fmt's text TOLD by the authors' own Lean function (tested against real Go, not proved from fmt's source: count such statements apart). THE CARD IS WHAT COUNTS. Prove the row's statement (the work); the ties are given (YtikkmalhdidhaaaGreatDoorTie.lean); close each card by the builder's one call (the guide's Derived/Test/ToyasCard.lean, 'card_holds'). Laid BY PROGRAM, IN A SANDBOX (cutbox-door.mjs). By AI agents, Wed Nov 11 2026. No macro, syntax, notation, axiom, sorry.
-/
import Derived.Test.YtikkmalhdidhaaaGreatDoorRows
import GoSem.ClaimSeven
namespace Go.Proofs.YtikkmalhdidhaaaGreatDoor
namespace Rows

/-- THE TIED CARD OF 'kilnlaw13.CpsChecks'. -/
def cpsChecksCard : Claim7 := { stood := { row := cpsChecksRow, standIns := [], harness := (true, "d44bfeaa61075387e719d7f4ec8ebde0bc5cb393dbc0bd371e05b59f86ea8a4e"), looks := true }, kinds := [], alts := [], laidByText := true, laidKinds := [.data, .data, .widerDeep, .widerDeep, .data, .data, .data, .data, .data, .data, .sentinel, .sentinel, .pinned, .pinned, .pinned], laidTests := true, laidLooks := .later }
def CpsChecksCardSaid : Prop := Claim7.holds Tryz.pinned (.plain (OpenSpec.ofChange cpsChecksSpec)) cpsChecksCard

/-- THE SECOND FORM's CARD OF 'kilnlaw13.CpsChecks'. -/
def cpsChecksUptoCard : Claim7 := { stood := { row := cpsChecksUptoRow, standIns := [], harness := (true, "d44bfeaa61075387e719d7f4ec8ebde0bc5cb393dbc0bd371e05b59f86ea8a4e"), looks := true }, kinds := [], alts := [], laidByText := true, laidKinds := [.data, .data, .widerDeep, .widerDeep, .data, .data, .data, .data, .data, .data, .sentinel, .sentinel, .pinned, .pinned, .pinned], laidTests := true, laidLooks := .later }
def CpsChecksUptoCardSaid : Prop := Claim7.holds Tryz.pinned (.plain (OpenSpec.upto cpsChecksSpec)) cpsChecksUptoCard
end Rows
end Go.Proofs.YtikkmalhdidhaaaGreatDoor
