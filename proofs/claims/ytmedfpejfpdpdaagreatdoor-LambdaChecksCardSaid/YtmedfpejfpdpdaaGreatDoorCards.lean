/-
  DERIVED. GIVEN WITH THE SEED: THE CARDS: each row of YtmedfpejfpdpdaaGreatDoorRows.lean that lists a variable, with what it lists TIED to the program's text (the seventh form; the later family's looks); each row that meets fmt, with fmt's text TOLD by the authors' own Lean function (tested against real Go, not proved from fmt's source: count such statements apart). THE CARD IS WHAT COUNTS. Prove the row's statement (the work); the ties are given (YtmedfpejfpdpdaaGreatDoorTie.lean); close each card by the builder's one call (the guide's Derived/Test/ToyasCard.lean, 'card_holds'). Laid BY PROGRAM, IN A SANDBOX (cutbox-door.mjs). By AI agents, Wed Nov 11 2026. No macro, syntax, notation, axiom, sorry.
-/
import Derived.Test.YtmedfpejfpdpdaaGreatDoorRows
import GoSem.ClaimSeven
namespace Go.Proofs.YtmedfpejfpdpdaaGreatDoor
namespace Rows

/-- THE TIED CARD OF 'kilnlaw11.LambdaChecks'. -/
def lambdaChecksCard : Claim7 := { stood := { row := lambdaChecksRow, standIns := [], harness := (true, "8afe008e6108919727eabe75ccbeb36d459d37d98023b7b25a323b0d2a2ebb78"), looks := true }, kinds := [], alts := [], laidByText := true, laidKinds := [.data, .data, .widerDeep, .widerDeep, .data, .data, .data, .data, .data, .data, .sentinel, .sentinel, .pinned, .pinned, .pinned], laidTests := true, laidLooks := .later }
def LambdaChecksCardSaid : Prop := Claim7.holds Tryz.pinned (.plain (OpenSpec.ofChange lambdaChecksSpec)) lambdaChecksCard

/-- THE SECOND FORM's CARD OF 'kilnlaw11.LambdaChecks'. -/
def lambdaChecksUptoCard : Claim7 := { stood := { row := lambdaChecksUptoRow, standIns := [], harness := (true, "8afe008e6108919727eabe75ccbeb36d459d37d98023b7b25a323b0d2a2ebb78"), looks := true }, kinds := [], alts := [], laidByText := true, laidKinds := [.data, .data, .widerDeep, .widerDeep, .data, .data, .data, .data, .data, .data, .sentinel, .sentinel, .pinned, .pinned, .pinned], laidTests := true, laidLooks := .later }
def LambdaChecksUptoCardSaid : Prop := Claim7.holds Tryz.pinned (.plain (OpenSpec.upto lambdaChecksSpec)) lambdaChecksUptoCard
end Rows
end Go.Proofs.YtmedfpejfpdpdaaGreatDoor
