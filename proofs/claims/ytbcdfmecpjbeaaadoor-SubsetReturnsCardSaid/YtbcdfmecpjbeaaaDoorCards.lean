/-
  DERIVED. GIVEN WITH THE SEED: THE CARDS: each row of YtbcdfmecpjbeaaaDoorRows.lean that lists a variable, with what it lists TIED to the program's text (the seventh form; the later family's looks); each row that meets fmt, with fmt's text TOLD by the authors' own Lean function (tested against real Go, not proved from fmt's source: count such statements apart). THE CARD IS WHAT COUNTS. Prove the row's statement (the work); the ties are given (YtbcdfmecpjbeaaaDoorTie.lean); close each card by the builder's one call (the guide's Derived/Test/ToyasCard.lean, 'card_holds'). Laid BY PROGRAM, IN A SANDBOX (cutbox-door.mjs). By AI agents, Wed Nov 11 2026. No macro, syntax, notation, axiom, sorry.
-/
import Derived.Test.YtbcdfmecpjbeaaaDoorRows
import GoSem.ClaimSeven
namespace Go.Proofs.YtbcdfmecpjbeaaaDoor
namespace Rows

/-- THE TIED CARD OF 'sentinellaw07.SubsetMatches'. -/
def subsetMatchesCard : Claim7 := { stood := { row := subsetMatchesRow, standIns := [], harness := (true, "ab7c33b2f60790b3b55b036a80be96e66cd236564e034e5de6f39e429f85cf44"), looks := false }, kinds := [], alts := [], laidByText := true, laidKinds := [.data, .data, .data], laidTests := true, laidLooks := .later }
def SubsetMatchesCardSaid : Prop := Claim7.holds Tryd.pinned (.plain (OpenSpec.ofChange subsetMatchesSpec)) subsetMatchesCard

/-- THE TIED CARD OF 'sentinellaw07.SubsetDeterminizes'. -/
def subsetDeterminizesCard : Claim7 := { stood := { row := subsetDeterminizesRow, standIns := [], harness := (true, "ab7c33b2f60790b3b55b036a80be96e66cd236564e034e5de6f39e429f85cf44"), looks := false }, kinds := [], alts := [], laidByText := true, laidKinds := [.data, .data, .data], laidTests := true, laidLooks := .later }
def SubsetDeterminizesCardSaid : Prop := Claim7.holds Tryd.pinned (.plain (OpenSpec.ofChange subsetDeterminizesSpec)) subsetDeterminizesCard

/-- THE TIED CARD OF 'sentinellaw07.SubsetSteps'. -/
def subsetStepsCard : Claim7 := { stood := { row := subsetStepsRow, standIns := [], harness := (true, "ab7c33b2f60790b3b55b036a80be96e66cd236564e034e5de6f39e429f85cf44"), looks := false }, kinds := [], alts := [], laidByText := true, laidKinds := [.data, .data, .data], laidTests := true, laidLooks := .later }
def SubsetStepsCardSaid : Prop := Claim7.holds Tryd.pinned (.plain (OpenSpec.ofChange subsetStepsSpec)) subsetStepsCard

/-- THE TIED CARD OF 'sentinellaw07.SubsetBudgets'. -/
def subsetBudgetsCard : Claim7 := { stood := { row := subsetBudgetsRow, standIns := [], harness := (true, "ab7c33b2f60790b3b55b036a80be96e66cd236564e034e5de6f39e429f85cf44"), looks := false }, kinds := [], alts := [], laidByText := true, laidKinds := [.data, .data, .data], laidTests := true, laidLooks := .later }
def SubsetBudgetsCardSaid : Prop := Claim7.holds Tryd.pinned (.plain (OpenSpec.ofChange subsetBudgetsSpec)) subsetBudgetsCard

/-- THE TIED CARD OF 'sentinellaw07.SubsetSameWords'. -/
def subsetSameWordsCard : Claim7 := { stood := { row := subsetSameWordsRow, standIns := [], harness := (true, "ab7c33b2f60790b3b55b036a80be96e66cd236564e034e5de6f39e429f85cf44"), looks := false }, kinds := [], alts := [], laidByText := true, laidKinds := [.data, .data, .data], laidTests := true, laidLooks := .later }
def SubsetSameWordsCardSaid : Prop := Claim7.holds Tryd.pinned (.plain (OpenSpec.ofChange subsetSameWordsSpec)) subsetSameWordsCard

/-- THE TIED CARD OF 'sentinellaw07.SubsetRenumbers'. -/
def subsetRenumbersCard : Claim7 := { stood := { row := subsetRenumbersRow, standIns := [], harness := (true, "ab7c33b2f60790b3b55b036a80be96e66cd236564e034e5de6f39e429f85cf44"), looks := false }, kinds := [], alts := [], laidByText := true, laidKinds := [.data, .data, .data], laidTests := true, laidLooks := .later }
def SubsetRenumbersCardSaid : Prop := Claim7.holds Tryd.pinned (.plain (OpenSpec.ofChange subsetRenumbersSpec)) subsetRenumbersCard

/-- THE TIED CARD OF 'sentinellaw07.SubsetConverts'. -/
def subsetConvertsCard : Claim7 := { stood := { row := subsetConvertsRow, standIns := [], harness := (true, "ab7c33b2f60790b3b55b036a80be96e66cd236564e034e5de6f39e429f85cf44"), looks := false }, kinds := [], alts := [], laidByText := true, laidKinds := [.data, .data, .data], laidTests := true, laidLooks := .later }
def SubsetConvertsCardSaid : Prop := Claim7.holds Tryd.pinned (.plain (OpenSpec.ofChange subsetConvertsSpec)) subsetConvertsCard

/-- THE TIED CARD OF 'sentinellaw07.SubsetExamples'. -/
def subsetExamplesCard : Claim7 := { stood := { row := subsetExamplesRow, standIns := [], harness := (true, "ab7c33b2f60790b3b55b036a80be96e66cd236564e034e5de6f39e429f85cf44"), looks := false }, kinds := [], alts := [], laidByText := true, laidKinds := [.data, .data, .data], laidTests := true, laidLooks := .later }
def SubsetExamplesCardSaid : Prop := Claim7.holds Tryd.pinned (.plain (OpenSpec.ofChange subsetExamplesSpec)) subsetExamplesCard

/-- THE TIED CARD OF 'sentinellaw07.SubsetReturns'. -/
def subsetReturnsCard : Claim7 := { stood := { row := subsetReturnsRow, standIns := [], harness := (true, "ab7c33b2f60790b3b55b036a80be96e66cd236564e034e5de6f39e429f85cf44"), looks := false }, kinds := [], alts := [], laidByText := true, laidKinds := [.data, .data, .data], laidTests := true, laidLooks := .later }
def SubsetReturnsCardSaid : Prop := Claim7.holds Tryd.pinned (.plain (OpenSpec.ofChange subsetReturnsSpec)) subsetReturnsCard

/-- THE SECOND FORM's CARD OF 'sentinellaw07.SubsetMatches'. -/
def subsetMatchesUptoCard : Claim7 := { stood := { row := subsetMatchesUptoRow, standIns := [], harness := (true, "ab7c33b2f60790b3b55b036a80be96e66cd236564e034e5de6f39e429f85cf44"), looks := false }, kinds := [], alts := [], laidByText := true, laidKinds := [.data, .data, .data], laidTests := true, laidLooks := .later }
def SubsetMatchesUptoCardSaid : Prop := Claim7.holds Tryd.pinned (.plain (OpenSpec.upto subsetMatchesSpec)) subsetMatchesUptoCard

/-- THE SECOND FORM's CARD OF 'sentinellaw07.SubsetDeterminizes'. -/
def subsetDeterminizesUptoCard : Claim7 := { stood := { row := subsetDeterminizesUptoRow, standIns := [], harness := (true, "ab7c33b2f60790b3b55b036a80be96e66cd236564e034e5de6f39e429f85cf44"), looks := false }, kinds := [], alts := [], laidByText := true, laidKinds := [.data, .data, .data], laidTests := true, laidLooks := .later }
def SubsetDeterminizesUptoCardSaid : Prop := Claim7.holds Tryd.pinned (.plain (OpenSpec.upto subsetDeterminizesSpec)) subsetDeterminizesUptoCard

/-- THE SECOND FORM's CARD OF 'sentinellaw07.SubsetSteps'. -/
def subsetStepsUptoCard : Claim7 := { stood := { row := subsetStepsUptoRow, standIns := [], harness := (true, "ab7c33b2f60790b3b55b036a80be96e66cd236564e034e5de6f39e429f85cf44"), looks := false }, kinds := [], alts := [], laidByText := true, laidKinds := [.data, .data, .data], laidTests := true, laidLooks := .later }
def SubsetStepsUptoCardSaid : Prop := Claim7.holds Tryd.pinned (.plain (OpenSpec.upto subsetStepsSpec)) subsetStepsUptoCard

/-- THE SECOND FORM's CARD OF 'sentinellaw07.SubsetBudgets'. -/
def subsetBudgetsUptoCard : Claim7 := { stood := { row := subsetBudgetsUptoRow, standIns := [], harness := (true, "ab7c33b2f60790b3b55b036a80be96e66cd236564e034e5de6f39e429f85cf44"), looks := false }, kinds := [], alts := [], laidByText := true, laidKinds := [.data, .data, .data], laidTests := true, laidLooks := .later }
def SubsetBudgetsUptoCardSaid : Prop := Claim7.holds Tryd.pinned (.plain (OpenSpec.upto subsetBudgetsSpec)) subsetBudgetsUptoCard

/-- THE SECOND FORM's CARD OF 'sentinellaw07.SubsetSameWords'. -/
def subsetSameWordsUptoCard : Claim7 := { stood := { row := subsetSameWordsUptoRow, standIns := [], harness := (true, "ab7c33b2f60790b3b55b036a80be96e66cd236564e034e5de6f39e429f85cf44"), looks := false }, kinds := [], alts := [], laidByText := true, laidKinds := [.data, .data, .data], laidTests := true, laidLooks := .later }
def SubsetSameWordsUptoCardSaid : Prop := Claim7.holds Tryd.pinned (.plain (OpenSpec.upto subsetSameWordsSpec)) subsetSameWordsUptoCard

/-- THE SECOND FORM's CARD OF 'sentinellaw07.SubsetRenumbers'. -/
def subsetRenumbersUptoCard : Claim7 := { stood := { row := subsetRenumbersUptoRow, standIns := [], harness := (true, "ab7c33b2f60790b3b55b036a80be96e66cd236564e034e5de6f39e429f85cf44"), looks := false }, kinds := [], alts := [], laidByText := true, laidKinds := [.data, .data, .data], laidTests := true, laidLooks := .later }
def SubsetRenumbersUptoCardSaid : Prop := Claim7.holds Tryd.pinned (.plain (OpenSpec.upto subsetRenumbersSpec)) subsetRenumbersUptoCard

/-- THE SECOND FORM's CARD OF 'sentinellaw07.SubsetConverts'. -/
def subsetConvertsUptoCard : Claim7 := { stood := { row := subsetConvertsUptoRow, standIns := [], harness := (true, "ab7c33b2f60790b3b55b036a80be96e66cd236564e034e5de6f39e429f85cf44"), looks := false }, kinds := [], alts := [], laidByText := true, laidKinds := [.data, .data, .data], laidTests := true, laidLooks := .later }
def SubsetConvertsUptoCardSaid : Prop := Claim7.holds Tryd.pinned (.plain (OpenSpec.upto subsetConvertsSpec)) subsetConvertsUptoCard

/-- THE SECOND FORM's CARD OF 'sentinellaw07.SubsetExamples'. -/
def subsetExamplesUptoCard : Claim7 := { stood := { row := subsetExamplesUptoRow, standIns := [], harness := (true, "ab7c33b2f60790b3b55b036a80be96e66cd236564e034e5de6f39e429f85cf44"), looks := false }, kinds := [], alts := [], laidByText := true, laidKinds := [.data, .data, .data], laidTests := true, laidLooks := .later }
def SubsetExamplesUptoCardSaid : Prop := Claim7.holds Tryd.pinned (.plain (OpenSpec.upto subsetExamplesSpec)) subsetExamplesUptoCard

/-- THE SECOND FORM's CARD OF 'sentinellaw07.SubsetReturns'. -/
def subsetReturnsUptoCard : Claim7 := { stood := { row := subsetReturnsUptoRow, standIns := [], harness := (true, "ab7c33b2f60790b3b55b036a80be96e66cd236564e034e5de6f39e429f85cf44"), looks := false }, kinds := [], alts := [], laidByText := true, laidKinds := [.data, .data, .data], laidTests := true, laidLooks := .later }
def SubsetReturnsUptoCardSaid : Prop := Claim7.holds Tryd.pinned (.plain (OpenSpec.upto subsetReturnsSpec)) subsetReturnsUptoCard
end Rows
end Go.Proofs.YtbcdfmecpjbeaaaDoor
