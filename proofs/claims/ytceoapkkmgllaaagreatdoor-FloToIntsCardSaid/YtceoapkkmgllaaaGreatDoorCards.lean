/-
  DERIVED. GIVEN WITH THE SEED: THE CARDS: each row of YtceoapkkmgllaaaGreatDoorRows.lean that lists a variable, with what it lists TIED to the program's text (the seventh form; the later family's looks); each row that meets fmt, with fmt's text TOLD by the authors' own Lean function (tested against real Go, not proved from fmt's source: count such statements apart). THE CARD IS WHAT COUNTS. Prove the row's statement (the work); the ties are given (YtceoapkkmgllaaaGreatDoorTie.lean); close each card by the builder's one call (the guide's Derived/Test/ToyasCard.lean, 'card_holds'). Laid BY PROGRAM, IN A SANDBOX (cutbox-door.mjs). By AI agents, Wed Nov 11 2026. No macro, syntax, notation, axiom, sorry.
-/
import Derived.Test.YtceoapkkmgllaaaGreatDoorRows
import GoSem.ClaimSeven
namespace Go.Proofs.YtceoapkkmgllaaaGreatDoor
namespace Rows

/-- THE TIED CARD OF 'kilnlaw02.FloBits'. -/
def floBitsCard : Claim7 := { stood := { row := floBitsRow, standIns := [], harness := (true, "dc8958e55f2993e2815745515016fec2e2900258d86819b7a46dd8fbd1b44ecd"), looks := true }, kinds := [], alts := [], laidByText := true, laidKinds := [.data, .data, .data, .data, .data, .sentinel, .sentinel, .pinned, .pinned, .pinned], laidTests := true, laidLooks := .later }
def FloBitsCardSaid : Prop := Claim7.holds Tryz.pinned (.plain (OpenSpec.ofChange floBitsSpec)) floBitsCard

/-- THE TIED CARD OF 'kilnlaw02.FloTexts'. -/
def floTextsCard : Claim7 := { stood := { row := floTextsRow, standIns := [], harness := (true, "dc8958e55f2993e2815745515016fec2e2900258d86819b7a46dd8fbd1b44ecd"), looks := true }, kinds := [], alts := [], laidByText := true, laidKinds := [.data, .data, .data, .data, .data, .sentinel, .sentinel, .pinned, .pinned, .pinned], laidTests := true, laidLooks := .later }
def FloTextsCardSaid : Prop := Claim7.holds Tryz.pinned (.plain (OpenSpec.ofChange floTextsSpec)) floTextsCard

/-- THE TIED CARD OF 'kilnlaw02.FloSums'. -/
def floSumsCard : Claim7 := { stood := { row := floSumsRow, standIns := [], harness := (true, "dc8958e55f2993e2815745515016fec2e2900258d86819b7a46dd8fbd1b44ecd"), looks := true }, kinds := [], alts := [], laidByText := true, laidKinds := [.data, .data, .data, .data, .data, .sentinel, .sentinel, .pinned, .pinned, .pinned], laidTests := true, laidLooks := .later }
def FloSumsCardSaid : Prop := Claim7.holds Tryz.pinned (.plain (OpenSpec.ofChange floSumsSpec)) floSumsCard

/-- THE TIED CARD OF 'kilnlaw02.FloInts'. -/
def floIntsCard : Claim7 := { stood := { row := floIntsRow, standIns := [], harness := (true, "dc8958e55f2993e2815745515016fec2e2900258d86819b7a46dd8fbd1b44ecd"), looks := true }, kinds := [], alts := [], laidByText := true, laidKinds := [.data, .data, .data, .data, .data, .sentinel, .sentinel, .pinned, .pinned, .pinned], laidTests := true, laidLooks := .later }
def FloIntsCardSaid : Prop := Claim7.holds Tryz.pinned (.plain (OpenSpec.ofChange floIntsSpec)) floIntsCard

/-- THE TIED CARD OF 'kilnlaw02.FloProducts'. -/
def floProductsCard : Claim7 := { stood := { row := floProductsRow, standIns := [], harness := (true, "dc8958e55f2993e2815745515016fec2e2900258d86819b7a46dd8fbd1b44ecd"), looks := true }, kinds := [], alts := [], laidByText := true, laidKinds := [.data, .data, .data, .data, .data, .sentinel, .sentinel, .pinned, .pinned, .pinned], laidTests := true, laidLooks := .later }
def FloProductsCardSaid : Prop := Claim7.holds Tryz.pinned (.plain (OpenSpec.ofChange floProductsSpec)) floProductsCard

/-- THE TIED CARD OF 'kilnlaw02.FloSigns'. -/
def floSignsCard : Claim7 := { stood := { row := floSignsRow, standIns := [], harness := (true, "dc8958e55f2993e2815745515016fec2e2900258d86819b7a46dd8fbd1b44ecd"), looks := true }, kinds := [], alts := [], laidByText := true, laidKinds := [.data, .data, .data, .data, .data, .sentinel, .sentinel, .pinned, .pinned, .pinned], laidTests := true, laidLooks := .later }
def FloSignsCardSaid : Prop := Claim7.holds Tryz.pinned (.plain (OpenSpec.ofChange floSignsSpec)) floSignsCard

/-- THE TIED CARD OF 'kilnlaw02.FloOrder'. -/
def floOrderCard : Claim7 := { stood := { row := floOrderRow, standIns := [], harness := (true, "dc8958e55f2993e2815745515016fec2e2900258d86819b7a46dd8fbd1b44ecd"), looks := true }, kinds := [], alts := [], laidByText := true, laidKinds := [.data, .data, .data, .data, .data, .sentinel, .sentinel, .pinned, .pinned, .pinned], laidTests := true, laidLooks := .later }
def FloOrderCardSaid : Prop := Claim7.holds Tryz.pinned (.plain (OpenSpec.ofChange floOrderSpec)) floOrderCard

/-- THE TIED CARD OF 'kilnlaw02.FloCompares'. -/
def floComparesCard : Claim7 := { stood := { row := floComparesRow, standIns := [], harness := (true, "dc8958e55f2993e2815745515016fec2e2900258d86819b7a46dd8fbd1b44ecd"), looks := true }, kinds := [], alts := [], laidByText := true, laidKinds := [.data, .data, .data, .data, .data, .sentinel, .sentinel, .pinned, .pinned, .pinned], laidTests := true, laidLooks := .later }
def FloComparesCardSaid : Prop := Claim7.holds Tryz.pinned (.plain (OpenSpec.ofChange floComparesSpec)) floComparesCard

/-- THE TIED CARD OF 'kilnlaw02.FloLine'. -/
def floLineCard : Claim7 := { stood := { row := floLineRow, standIns := [], harness := (true, "dc8958e55f2993e2815745515016fec2e2900258d86819b7a46dd8fbd1b44ecd"), looks := true }, kinds := [], alts := [], laidByText := true, laidKinds := [.data, .data, .data, .data, .data, .sentinel, .sentinel, .pinned, .pinned, .pinned], laidTests := true, laidLooks := .later }
def FloLineCardSaid : Prop := Claim7.holds Tryz.pinned (.plain (OpenSpec.ofChange floLineSpec)) floLineCard

/-- THE TIED CARD OF 'kilnlaw02.FloRises'. -/
def floRisesCard : Claim7 := { stood := { row := floRisesRow, standIns := [], harness := (true, "dc8958e55f2993e2815745515016fec2e2900258d86819b7a46dd8fbd1b44ecd"), looks := true }, kinds := [], alts := [], laidByText := true, laidKinds := [.data, .data, .data, .data, .data, .sentinel, .sentinel, .pinned, .pinned, .pinned], laidTests := true, laidLooks := .later }
def FloRisesCardSaid : Prop := Claim7.holds Tryz.pinned (.plain (OpenSpec.ofChange floRisesSpec)) floRisesCard

/-- THE TIED CARD OF 'kilnlaw02.FloWhole'. -/
def floWholeCard : Claim7 := { stood := { row := floWholeRow, standIns := [], harness := (true, "dc8958e55f2993e2815745515016fec2e2900258d86819b7a46dd8fbd1b44ecd"), looks := true }, kinds := [], alts := [], laidByText := true, laidKinds := [.data, .data, .data, .data, .data, .sentinel, .sentinel, .pinned, .pinned, .pinned], laidTests := true, laidLooks := .later }
def FloWholeCardSaid : Prop := Claim7.holds Tryz.pinned (.plain (OpenSpec.ofChange floWholeSpec)) floWholeCard

/-- THE TIED CARD OF 'kilnlaw02.FloToInts'. -/
def floToIntsCard : Claim7 := { stood := { row := floToIntsRow, standIns := [], harness := (true, "dc8958e55f2993e2815745515016fec2e2900258d86819b7a46dd8fbd1b44ecd"), looks := true }, kinds := [], alts := [], laidByText := true, laidKinds := [.data, .data, .data, .data, .data, .sentinel, .sentinel, .pinned, .pinned, .pinned], laidTests := true, laidLooks := .later }
def FloToIntsCardSaid : Prop := Claim7.holds Tryz.pinned (.plain (OpenSpec.ofChange floToIntsSpec)) floToIntsCard

/-- THE TIED CARD OF 'kilnlaw02.FloNear'. -/
def floNearCard : Claim7 := { stood := { row := floNearRow, standIns := [], harness := (true, "dc8958e55f2993e2815745515016fec2e2900258d86819b7a46dd8fbd1b44ecd"), looks := true }, kinds := [], alts := [], laidByText := true, laidKinds := [.data, .data, .data, .data, .data, .sentinel, .sentinel, .pinned, .pinned, .pinned], laidTests := true, laidLooks := .later }
def FloNearCardSaid : Prop := Claim7.holds Tryz.pinned (.plain (OpenSpec.ofChange floNearSpec)) floNearCard

/-- THE TIED CARD OF 'kilnlaw02.FloParses'. -/
def floParsesCard : Claim7 := { stood := { row := floParsesRow, standIns := [], harness := (true, "dc8958e55f2993e2815745515016fec2e2900258d86819b7a46dd8fbd1b44ecd"), looks := true }, kinds := [], alts := [], laidByText := true, laidKinds := [.data, .data, .widerDeep, .widerDeep, .data, .data, .data, .data, .data, .data, .sentinel, .sentinel, .pinned, .pinned, .pinned], laidTests := true, laidLooks := .later }
def FloParsesCardSaid : Prop := Claim7.holds Tryz.pinned (.plain (OpenSpec.ofChange floParsesSpec)) floParsesCard

/-- THE TIED CARD OF 'kilnlaw02.FloBack'. -/
def floBackCard : Claim7 := { stood := { row := floBackRow, standIns := [], harness := (true, "dc8958e55f2993e2815745515016fec2e2900258d86819b7a46dd8fbd1b44ecd"), looks := true }, kinds := [], alts := [], laidByText := true, laidKinds := [.data, .data, .widerDeep, .widerDeep, .data, .data, .data, .data, .data, .data, .sentinel, .sentinel, .pinned, .pinned, .pinned], laidTests := true, laidLooks := .later }
def FloBackCardSaid : Prop := Claim7.holds Tryz.pinned (.plain (OpenSpec.ofChange floBackSpec)) floBackCard

/-- THE SECOND FORM's CARD OF 'kilnlaw02.FloBits'. -/
def floBitsUptoCard : Claim7 := { stood := { row := floBitsUptoRow, standIns := [], harness := (true, "dc8958e55f2993e2815745515016fec2e2900258d86819b7a46dd8fbd1b44ecd"), looks := true }, kinds := [], alts := [], laidByText := true, laidKinds := [.data, .data, .data, .data, .data, .sentinel, .sentinel, .pinned, .pinned, .pinned], laidTests := true, laidLooks := .later }
def FloBitsUptoCardSaid : Prop := Claim7.holds Tryz.pinned (.plain (OpenSpec.upto floBitsSpec)) floBitsUptoCard

/-- THE SECOND FORM's CARD OF 'kilnlaw02.FloTexts'. -/
def floTextsUptoCard : Claim7 := { stood := { row := floTextsUptoRow, standIns := [], harness := (true, "dc8958e55f2993e2815745515016fec2e2900258d86819b7a46dd8fbd1b44ecd"), looks := true }, kinds := [], alts := [], laidByText := true, laidKinds := [.data, .data, .data, .data, .data, .sentinel, .sentinel, .pinned, .pinned, .pinned], laidTests := true, laidLooks := .later }
def FloTextsUptoCardSaid : Prop := Claim7.holds Tryz.pinned (.plain (OpenSpec.upto floTextsSpec)) floTextsUptoCard

/-- THE SECOND FORM's CARD OF 'kilnlaw02.FloSums'. -/
def floSumsUptoCard : Claim7 := { stood := { row := floSumsUptoRow, standIns := [], harness := (true, "dc8958e55f2993e2815745515016fec2e2900258d86819b7a46dd8fbd1b44ecd"), looks := true }, kinds := [], alts := [], laidByText := true, laidKinds := [.data, .data, .data, .data, .data, .sentinel, .sentinel, .pinned, .pinned, .pinned], laidTests := true, laidLooks := .later }
def FloSumsUptoCardSaid : Prop := Claim7.holds Tryz.pinned (.plain (OpenSpec.upto floSumsSpec)) floSumsUptoCard

/-- THE SECOND FORM's CARD OF 'kilnlaw02.FloInts'. -/
def floIntsUptoCard : Claim7 := { stood := { row := floIntsUptoRow, standIns := [], harness := (true, "dc8958e55f2993e2815745515016fec2e2900258d86819b7a46dd8fbd1b44ecd"), looks := true }, kinds := [], alts := [], laidByText := true, laidKinds := [.data, .data, .data, .data, .data, .sentinel, .sentinel, .pinned, .pinned, .pinned], laidTests := true, laidLooks := .later }
def FloIntsUptoCardSaid : Prop := Claim7.holds Tryz.pinned (.plain (OpenSpec.upto floIntsSpec)) floIntsUptoCard

/-- THE SECOND FORM's CARD OF 'kilnlaw02.FloProducts'. -/
def floProductsUptoCard : Claim7 := { stood := { row := floProductsUptoRow, standIns := [], harness := (true, "dc8958e55f2993e2815745515016fec2e2900258d86819b7a46dd8fbd1b44ecd"), looks := true }, kinds := [], alts := [], laidByText := true, laidKinds := [.data, .data, .data, .data, .data, .sentinel, .sentinel, .pinned, .pinned, .pinned], laidTests := true, laidLooks := .later }
def FloProductsUptoCardSaid : Prop := Claim7.holds Tryz.pinned (.plain (OpenSpec.upto floProductsSpec)) floProductsUptoCard

/-- THE SECOND FORM's CARD OF 'kilnlaw02.FloSigns'. -/
def floSignsUptoCard : Claim7 := { stood := { row := floSignsUptoRow, standIns := [], harness := (true, "dc8958e55f2993e2815745515016fec2e2900258d86819b7a46dd8fbd1b44ecd"), looks := true }, kinds := [], alts := [], laidByText := true, laidKinds := [.data, .data, .data, .data, .data, .sentinel, .sentinel, .pinned, .pinned, .pinned], laidTests := true, laidLooks := .later }
def FloSignsUptoCardSaid : Prop := Claim7.holds Tryz.pinned (.plain (OpenSpec.upto floSignsSpec)) floSignsUptoCard

/-- THE SECOND FORM's CARD OF 'kilnlaw02.FloOrder'. -/
def floOrderUptoCard : Claim7 := { stood := { row := floOrderUptoRow, standIns := [], harness := (true, "dc8958e55f2993e2815745515016fec2e2900258d86819b7a46dd8fbd1b44ecd"), looks := true }, kinds := [], alts := [], laidByText := true, laidKinds := [.data, .data, .data, .data, .data, .sentinel, .sentinel, .pinned, .pinned, .pinned], laidTests := true, laidLooks := .later }
def FloOrderUptoCardSaid : Prop := Claim7.holds Tryz.pinned (.plain (OpenSpec.upto floOrderSpec)) floOrderUptoCard

/-- THE SECOND FORM's CARD OF 'kilnlaw02.FloCompares'. -/
def floComparesUptoCard : Claim7 := { stood := { row := floComparesUptoRow, standIns := [], harness := (true, "dc8958e55f2993e2815745515016fec2e2900258d86819b7a46dd8fbd1b44ecd"), looks := true }, kinds := [], alts := [], laidByText := true, laidKinds := [.data, .data, .data, .data, .data, .sentinel, .sentinel, .pinned, .pinned, .pinned], laidTests := true, laidLooks := .later }
def FloComparesUptoCardSaid : Prop := Claim7.holds Tryz.pinned (.plain (OpenSpec.upto floComparesSpec)) floComparesUptoCard

/-- THE SECOND FORM's CARD OF 'kilnlaw02.FloLine'. -/
def floLineUptoCard : Claim7 := { stood := { row := floLineUptoRow, standIns := [], harness := (true, "dc8958e55f2993e2815745515016fec2e2900258d86819b7a46dd8fbd1b44ecd"), looks := true }, kinds := [], alts := [], laidByText := true, laidKinds := [.data, .data, .data, .data, .data, .sentinel, .sentinel, .pinned, .pinned, .pinned], laidTests := true, laidLooks := .later }
def FloLineUptoCardSaid : Prop := Claim7.holds Tryz.pinned (.plain (OpenSpec.upto floLineSpec)) floLineUptoCard

/-- THE SECOND FORM's CARD OF 'kilnlaw02.FloRises'. -/
def floRisesUptoCard : Claim7 := { stood := { row := floRisesUptoRow, standIns := [], harness := (true, "dc8958e55f2993e2815745515016fec2e2900258d86819b7a46dd8fbd1b44ecd"), looks := true }, kinds := [], alts := [], laidByText := true, laidKinds := [.data, .data, .data, .data, .data, .sentinel, .sentinel, .pinned, .pinned, .pinned], laidTests := true, laidLooks := .later }
def FloRisesUptoCardSaid : Prop := Claim7.holds Tryz.pinned (.plain (OpenSpec.upto floRisesSpec)) floRisesUptoCard

/-- THE SECOND FORM's CARD OF 'kilnlaw02.FloWhole'. -/
def floWholeUptoCard : Claim7 := { stood := { row := floWholeUptoRow, standIns := [], harness := (true, "dc8958e55f2993e2815745515016fec2e2900258d86819b7a46dd8fbd1b44ecd"), looks := true }, kinds := [], alts := [], laidByText := true, laidKinds := [.data, .data, .data, .data, .data, .sentinel, .sentinel, .pinned, .pinned, .pinned], laidTests := true, laidLooks := .later }
def FloWholeUptoCardSaid : Prop := Claim7.holds Tryz.pinned (.plain (OpenSpec.upto floWholeSpec)) floWholeUptoCard

/-- THE SECOND FORM's CARD OF 'kilnlaw02.FloToInts'. -/
def floToIntsUptoCard : Claim7 := { stood := { row := floToIntsUptoRow, standIns := [], harness := (true, "dc8958e55f2993e2815745515016fec2e2900258d86819b7a46dd8fbd1b44ecd"), looks := true }, kinds := [], alts := [], laidByText := true, laidKinds := [.data, .data, .data, .data, .data, .sentinel, .sentinel, .pinned, .pinned, .pinned], laidTests := true, laidLooks := .later }
def FloToIntsUptoCardSaid : Prop := Claim7.holds Tryz.pinned (.plain (OpenSpec.upto floToIntsSpec)) floToIntsUptoCard

/-- THE SECOND FORM's CARD OF 'kilnlaw02.FloNear'. -/
def floNearUptoCard : Claim7 := { stood := { row := floNearUptoRow, standIns := [], harness := (true, "dc8958e55f2993e2815745515016fec2e2900258d86819b7a46dd8fbd1b44ecd"), looks := true }, kinds := [], alts := [], laidByText := true, laidKinds := [.data, .data, .data, .data, .data, .sentinel, .sentinel, .pinned, .pinned, .pinned], laidTests := true, laidLooks := .later }
def FloNearUptoCardSaid : Prop := Claim7.holds Tryz.pinned (.plain (OpenSpec.upto floNearSpec)) floNearUptoCard

/-- THE SECOND FORM's CARD OF 'kilnlaw02.FloParses'. -/
def floParsesUptoCard : Claim7 := { stood := { row := floParsesUptoRow, standIns := [], harness := (true, "dc8958e55f2993e2815745515016fec2e2900258d86819b7a46dd8fbd1b44ecd"), looks := true }, kinds := [], alts := [], laidByText := true, laidKinds := [.data, .data, .widerDeep, .widerDeep, .data, .data, .data, .data, .data, .data, .sentinel, .sentinel, .pinned, .pinned, .pinned], laidTests := true, laidLooks := .later }
def FloParsesUptoCardSaid : Prop := Claim7.holds Tryz.pinned (.plain (OpenSpec.upto floParsesSpec)) floParsesUptoCard

/-- THE SECOND FORM's CARD OF 'kilnlaw02.FloBack'. -/
def floBackUptoCard : Claim7 := { stood := { row := floBackUptoRow, standIns := [], harness := (true, "dc8958e55f2993e2815745515016fec2e2900258d86819b7a46dd8fbd1b44ecd"), looks := true }, kinds := [], alts := [], laidByText := true, laidKinds := [.data, .data, .widerDeep, .widerDeep, .data, .data, .data, .data, .data, .data, .sentinel, .sentinel, .pinned, .pinned, .pinned], laidTests := true, laidLooks := .later }
def FloBackUptoCardSaid : Prop := Claim7.holds Tryz.pinned (.plain (OpenSpec.upto floBackSpec)) floBackUptoCard
end Rows
end Go.Proofs.YtceoapkkmgllaaaGreatDoor
