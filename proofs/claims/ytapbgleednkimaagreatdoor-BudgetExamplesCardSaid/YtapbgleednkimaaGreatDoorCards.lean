/-
  DERIVED. GIVEN WITH THE SEED: THE CARDS: each row of YtapbgleednkimaaGreatDoorRows.lean that lists a variable, with what it lists TIED to the program's text (the seventh form; the later family's looks); each row that meets fmt, with fmt's text TOLD by the authors' own Lean function (tested against real Go, not proved from fmt's source: count such statements apart). THE CARD IS WHAT COUNTS. Prove the row's statement (the work); the ties are given (YtapbgleednkimaaGreatDoorTie.lean); close each card by the builder's one call (the guide's Derived/Test/ToyasCard.lean, 'card_holds'). Laid BY PROGRAM, IN A SANDBOX (cutbox-door.mjs). By AI agents, Wed Nov 11 2026. No macro, syntax, notation, axiom, sorry.
-/
import Derived.Test.YtapbgleednkimaaGreatDoorRows
import GoSem.ClaimSeven
namespace Go.Proofs.YtapbgleednkimaaGreatDoor
namespace Rows

/-- THE TIED CARD OF 'sentinellaw42.BudgetMatches'. -/
def budgetMatchesCard : Claim7 := { stood := { row := budgetMatchesRow, standIns := [], harness := (true, "0137b628aa86d612a358cfe5ff37f0b27116895c6b54020c3e3b9ba80f4bc2b1"), looks := true }, kinds := [], alts := [], laidByText := true, laidKinds := [.data, .data, .data, .data, .sentinel, .sentinel, .pinned], laidTests := true, laidLooks := .later }
def BudgetMatchesCardSaid : Prop := Claim7.holds Tryz.pinned (.plain (OpenSpec.ofChange budgetMatchesSpec)) budgetMatchesCard

/-- THE TIED CARD OF 'sentinellaw42.BudgetLoads'. -/
def budgetLoadsCard : Claim7 := { stood := { row := budgetLoadsRow, standIns := [], harness := (true, "0137b628aa86d612a358cfe5ff37f0b27116895c6b54020c3e3b9ba80f4bc2b1"), looks := true }, kinds := [], alts := [], laidByText := true, laidKinds := [.data, .data, .data, .data, .sentinel, .sentinel, .pinned], laidTests := true, laidLooks := .later }
def BudgetLoadsCardSaid : Prop := Claim7.holds Tryz.pinned (.plain (OpenSpec.ofChange budgetLoadsSpec)) budgetLoadsCard

/-- THE TIED CARD OF 'sentinellaw42.BudgetExamples'. -/
def budgetExamplesCard : Claim7 := { stood := { row := budgetExamplesRow, standIns := [], harness := (true, "0137b628aa86d612a358cfe5ff37f0b27116895c6b54020c3e3b9ba80f4bc2b1"), looks := true }, kinds := [], alts := [], laidByText := true, laidKinds := [.data, .data, .data, .data, .sentinel, .sentinel, .pinned], laidTests := true, laidLooks := .later }
def BudgetExamplesCardSaid : Prop := Claim7.holds Tryz.pinned (.plain (OpenSpec.ofChange budgetExamplesSpec)) budgetExamplesCard

/-- THE TIED CARD OF 'sentinellaw42.BudgetDivided'. -/
def budgetDividedCard : Claim7 := { stood := { row := budgetDividedRow, standIns := [], harness := (true, "0137b628aa86d612a358cfe5ff37f0b27116895c6b54020c3e3b9ba80f4bc2b1"), looks := true }, kinds := [], alts := [], laidByText := true, laidKinds := [.data, .data, .data, .data, .sentinel, .sentinel, .pinned], laidTests := true, laidLooks := .later }
def BudgetDividedCardSaid : Prop := Claim7.holds Tryz.pinned (.plain (OpenSpec.ofChange budgetDividedSpec)) budgetDividedCard

/-- THE TIED CARD OF 'sentinellaw42.BudgetGrows'. -/
def budgetGrowsCard : Claim7 := { stood := { row := budgetGrowsRow, standIns := [], harness := (true, "0137b628aa86d612a358cfe5ff37f0b27116895c6b54020c3e3b9ba80f4bc2b1"), looks := true }, kinds := [], alts := [], laidByText := true, laidKinds := [.data, .data, .data, .data, .sentinel, .sentinel, .pinned], laidTests := true, laidLooks := .later }
def BudgetGrowsCardSaid : Prop := Claim7.holds Tryz.pinned (.plain (OpenSpec.ofChange budgetGrowsSpec)) budgetGrowsCard

/-- THE TIED CARD OF 'sentinellaw42.BudgetTexts'. -/
def budgetTextsCard : Claim7 := { stood := { row := budgetTextsRow, standIns := [], harness := (true, "0137b628aa86d612a358cfe5ff37f0b27116895c6b54020c3e3b9ba80f4bc2b1"), looks := true }, kinds := [], alts := [], laidByText := true, laidKinds := [.data, .data, .data, .data, .sentinel, .sentinel, .pinned], laidTests := true, laidLooks := .later }
def BudgetTextsCardSaid : Prop := Claim7.holds Tryz.pinned (.plain (OpenSpec.ofChange budgetTextsSpec)) budgetTextsCard

/-- THE TIED CARD OF 'sentinellaw42.BudgetFinishes'. -/
def budgetFinishesCard : Claim7 := { stood := { row := budgetFinishesRow, standIns := [], harness := (true, "0137b628aa86d612a358cfe5ff37f0b27116895c6b54020c3e3b9ba80f4bc2b1"), looks := true }, kinds := [], alts := [], laidByText := true, laidKinds := [.data, .data, .data, .data, .sentinel, .sentinel, .pinned], laidTests := true, laidLooks := .later }
def BudgetFinishesCardSaid : Prop := Claim7.holds Tryz.pinned (.plain (OpenSpec.ofChange budgetFinishesSpec)) budgetFinishesCard

/-- THE SECOND FORM's CARD OF 'sentinellaw42.BudgetMatches'. -/
def budgetMatchesUptoCard : Claim7 := { stood := { row := budgetMatchesUptoRow, standIns := [], harness := (true, "0137b628aa86d612a358cfe5ff37f0b27116895c6b54020c3e3b9ba80f4bc2b1"), looks := true }, kinds := [], alts := [], laidByText := true, laidKinds := [.data, .data, .data, .data, .sentinel, .sentinel, .pinned], laidTests := true, laidLooks := .later }
def BudgetMatchesUptoCardSaid : Prop := Claim7.holds Tryz.pinned (.plain (OpenSpec.upto budgetMatchesSpec)) budgetMatchesUptoCard

/-- THE SECOND FORM's CARD OF 'sentinellaw42.BudgetLoads'. -/
def budgetLoadsUptoCard : Claim7 := { stood := { row := budgetLoadsUptoRow, standIns := [], harness := (true, "0137b628aa86d612a358cfe5ff37f0b27116895c6b54020c3e3b9ba80f4bc2b1"), looks := true }, kinds := [], alts := [], laidByText := true, laidKinds := [.data, .data, .data, .data, .sentinel, .sentinel, .pinned], laidTests := true, laidLooks := .later }
def BudgetLoadsUptoCardSaid : Prop := Claim7.holds Tryz.pinned (.plain (OpenSpec.upto budgetLoadsSpec)) budgetLoadsUptoCard

/-- THE SECOND FORM's CARD OF 'sentinellaw42.BudgetExamples'. -/
def budgetExamplesUptoCard : Claim7 := { stood := { row := budgetExamplesUptoRow, standIns := [], harness := (true, "0137b628aa86d612a358cfe5ff37f0b27116895c6b54020c3e3b9ba80f4bc2b1"), looks := true }, kinds := [], alts := [], laidByText := true, laidKinds := [.data, .data, .data, .data, .sentinel, .sentinel, .pinned], laidTests := true, laidLooks := .later }
def BudgetExamplesUptoCardSaid : Prop := Claim7.holds Tryz.pinned (.plain (OpenSpec.upto budgetExamplesSpec)) budgetExamplesUptoCard

/-- THE SECOND FORM's CARD OF 'sentinellaw42.BudgetDivided'. -/
def budgetDividedUptoCard : Claim7 := { stood := { row := budgetDividedUptoRow, standIns := [], harness := (true, "0137b628aa86d612a358cfe5ff37f0b27116895c6b54020c3e3b9ba80f4bc2b1"), looks := true }, kinds := [], alts := [], laidByText := true, laidKinds := [.data, .data, .data, .data, .sentinel, .sentinel, .pinned], laidTests := true, laidLooks := .later }
def BudgetDividedUptoCardSaid : Prop := Claim7.holds Tryz.pinned (.plain (OpenSpec.upto budgetDividedSpec)) budgetDividedUptoCard

/-- THE SECOND FORM's CARD OF 'sentinellaw42.BudgetGrows'. -/
def budgetGrowsUptoCard : Claim7 := { stood := { row := budgetGrowsUptoRow, standIns := [], harness := (true, "0137b628aa86d612a358cfe5ff37f0b27116895c6b54020c3e3b9ba80f4bc2b1"), looks := true }, kinds := [], alts := [], laidByText := true, laidKinds := [.data, .data, .data, .data, .sentinel, .sentinel, .pinned], laidTests := true, laidLooks := .later }
def BudgetGrowsUptoCardSaid : Prop := Claim7.holds Tryz.pinned (.plain (OpenSpec.upto budgetGrowsSpec)) budgetGrowsUptoCard

/-- THE SECOND FORM's CARD OF 'sentinellaw42.BudgetTexts'. -/
def budgetTextsUptoCard : Claim7 := { stood := { row := budgetTextsUptoRow, standIns := [], harness := (true, "0137b628aa86d612a358cfe5ff37f0b27116895c6b54020c3e3b9ba80f4bc2b1"), looks := true }, kinds := [], alts := [], laidByText := true, laidKinds := [.data, .data, .data, .data, .sentinel, .sentinel, .pinned], laidTests := true, laidLooks := .later }
def BudgetTextsUptoCardSaid : Prop := Claim7.holds Tryz.pinned (.plain (OpenSpec.upto budgetTextsSpec)) budgetTextsUptoCard

/-- THE SECOND FORM's CARD OF 'sentinellaw42.BudgetFinishes'. -/
def budgetFinishesUptoCard : Claim7 := { stood := { row := budgetFinishesUptoRow, standIns := [], harness := (true, "0137b628aa86d612a358cfe5ff37f0b27116895c6b54020c3e3b9ba80f4bc2b1"), looks := true }, kinds := [], alts := [], laidByText := true, laidKinds := [.data, .data, .data, .data, .sentinel, .sentinel, .pinned], laidTests := true, laidLooks := .later }
def BudgetFinishesUptoCardSaid : Prop := Claim7.holds Tryz.pinned (.plain (OpenSpec.upto budgetFinishesSpec)) budgetFinishesUptoCard
end Rows
end Go.Proofs.YtapbgleednkimaaGreatDoor
