/-
  DERIVED. GIVEN WITH THE SEED: THE CARDS: each row of YtijncfidjjfmiaaGreatDoorRows.lean that lists a variable, with what it lists TIED to the program's text (the seventh form; the later family's looks); each row that meets fmt, with fmt's text TOLD by the authors' own Lean function (tested against real Go, not proved from fmt's source: count such statements apart). THE CARD IS WHAT COUNTS. Prove the row's statement (the work); the ties are given (YtijncfidjjfmiaaGreatDoorTie.lean); close each card by the builder's one call (the guide's Derived/Test/ToyasCard.lean, 'card_holds'). Laid BY PROGRAM, IN A SANDBOX (cutbox-door.mjs). By AI agents, Wed Nov 11 2026. No macro, syntax, notation, axiom, sorry.
-/
import Derived.Test.YtijncfidjjfmiaaGreatDoorRows
import GoSem.ClaimSeven
namespace Go.Proofs.YtijncfidjjfmiaaGreatDoor
namespace Rows

/-- THE TIED CARD OF 'kilnlaw02.FloTexts'. -/
def floTextsCard : Claim7 := { stood := { row := floTextsRow, standIns := [], harness := (true, "8c1f4f895cb96a5da563d6168d83f9813ea3ff58a754989af978e656920fd5cf"), looks := true }, kinds := [], alts := [], laidByText := true, laidKinds := [.data, .data, .data, .data, .data, .sentinel, .sentinel, .pinned, .pinned, .pinned], laidTests := true, laidLooks := .later }
def FloTextsCardSaid : Prop := Claim7.holds Tryz.pinned (.plain (OpenSpec.ofChange floTextsSpec)) floTextsCard

/-- THE TIED CARD OF 'kilnlaw02.FloParses'. -/
def floParsesCard : Claim7 := { stood := { row := floParsesRow, standIns := [], harness := (true, "8c1f4f895cb96a5da563d6168d83f9813ea3ff58a754989af978e656920fd5cf"), looks := true }, kinds := [], alts := [], laidByText := true, laidKinds := [.data, .data, .widerDeep, .widerDeep, .data, .data, .data, .data, .data, .data, .sentinel, .sentinel, .pinned, .pinned, .pinned], laidTests := true, laidLooks := .later }
def FloParsesCardSaid : Prop := Claim7.holds Tryz.pinned (.plain (OpenSpec.ofChange floParsesSpec)) floParsesCard

/-- THE TIED CARD OF 'kilnlaw02.FloBack'. -/
def floBackCard : Claim7 := { stood := { row := floBackRow, standIns := [], harness := (true, "8c1f4f895cb96a5da563d6168d83f9813ea3ff58a754989af978e656920fd5cf"), looks := true }, kinds := [], alts := [], laidByText := true, laidKinds := [.data, .data, .widerDeep, .widerDeep, .data, .data, .data, .data, .data, .data, .sentinel, .sentinel, .pinned, .pinned, .pinned], laidTests := true, laidLooks := .later }
def FloBackCardSaid : Prop := Claim7.holds Tryz.pinned (.plain (OpenSpec.ofChange floBackSpec)) floBackCard

/-- THE SECOND FORM's CARD OF 'kilnlaw02.FloTexts'. -/
def floTextsUptoCard : Claim7 := { stood := { row := floTextsUptoRow, standIns := [], harness := (true, "8c1f4f895cb96a5da563d6168d83f9813ea3ff58a754989af978e656920fd5cf"), looks := true }, kinds := [], alts := [], laidByText := true, laidKinds := [.data, .data, .data, .data, .data, .sentinel, .sentinel, .pinned, .pinned, .pinned], laidTests := true, laidLooks := .later }
def FloTextsUptoCardSaid : Prop := Claim7.holds Tryz.pinned (.plain (OpenSpec.upto floTextsSpec)) floTextsUptoCard

/-- THE SECOND FORM's CARD OF 'kilnlaw02.FloParses'. -/
def floParsesUptoCard : Claim7 := { stood := { row := floParsesUptoRow, standIns := [], harness := (true, "8c1f4f895cb96a5da563d6168d83f9813ea3ff58a754989af978e656920fd5cf"), looks := true }, kinds := [], alts := [], laidByText := true, laidKinds := [.data, .data, .widerDeep, .widerDeep, .data, .data, .data, .data, .data, .data, .sentinel, .sentinel, .pinned, .pinned, .pinned], laidTests := true, laidLooks := .later }
def FloParsesUptoCardSaid : Prop := Claim7.holds Tryz.pinned (.plain (OpenSpec.upto floParsesSpec)) floParsesUptoCard

/-- THE SECOND FORM's CARD OF 'kilnlaw02.FloBack'. -/
def floBackUptoCard : Claim7 := { stood := { row := floBackUptoRow, standIns := [], harness := (true, "8c1f4f895cb96a5da563d6168d83f9813ea3ff58a754989af978e656920fd5cf"), looks := true }, kinds := [], alts := [], laidByText := true, laidKinds := [.data, .data, .widerDeep, .widerDeep, .data, .data, .data, .data, .data, .data, .sentinel, .sentinel, .pinned, .pinned, .pinned], laidTests := true, laidLooks := .later }
def FloBackUptoCardSaid : Prop := Claim7.holds Tryz.pinned (.plain (OpenSpec.upto floBackSpec)) floBackUptoCard
end Rows
end Go.Proofs.YtijncfidjjfmiaaGreatDoor
