/-
  NARROWER THAN 'FOR EVERY INPUT', by the rows' own cells (each row's printed sentence says how): SubsetMatches: laid · SubsetDeterminizes: laid · SubsetSteps: laid · SubsetBudgets: laid · SubsetSameWords: laid · SubsetRenumbers: laid · SubsetConverts: laid · SubsetExamples: laid · SubsetReturns: laid.
  DERIVED. THE GIVEN ROWS OF THIS SEAT. 9 by the template 'for every input the law returns true; each argument reads behind the call as it read before'; 0 by the template 'total and deterministic' (their statements: YtbcdfmecpjbeaaaDoorTotals.lean).
  GIVEN WITH THE SEED: the statements are not yours to turn. If you find one false, say at which input.
  Laid BY PROGRAM, IN A SANDBOX (cutbox-rows.mjs): the forced cells as the released guide's own fill.sh prints them over the translation fa7e323352e76f90… (all of the seat's roots in one cut). By AI agents, Wed Nov 11 2026. No macro, syntax, notation, axiom, sorry.
-/
import Derived.Test.YtbcdfmecpjbeaaaDoorChecked
import GoSem.Claim
import GoSem.ClaimJoined
import GoSem.ClaimMapViews
import Derived.JoinedTies
import Derived.KernelRfl
namespace Go.Proofs.YtbcdfmecpjbeaaaDoor
/- THE CELL 'sum', in the pinned program and in every row, IS THE sha256 OF THE DUMP (.gsa) THAT YtbcdfmecpjbeaaaDoorProg.lean LOADS. Nothing in Lean hashes anything: it is a label: what it is worth is what the hold of that sum in a sandbox is worth. -/
noncomputable def Tryd.pinned : Pinned := { name := "ytbcdfmecpjbeaaadoor", sum := "fa7e323352e76f9045214380d30f614d76f0946318d3dede4b8a70bda14d9df6", checked := Tryd.checked }
namespace Rows
def none {H : Type} : Left H := { results := [], args := [] }

/- WHAT THE LISTED PACKAGE-LEVEL VARIABLES READ AS WHEN THE CALL BEGINS. Each datum BY PROGRAM (the guide's laid-datum.mjs) off the statement by which the dump's own 'gosem.cut.vars' lays the variable. In a bare row this is a premise. The card (YtbcdfmecpjbeaaaDoorCards.lean) ties it to the program's text. -/
def laid_math_bits_deBruijn32tab {H : Type} : DataW H := .agg [.lit (.int .u8 0), .lit (.int .u8 1), .lit (.int .u8 28), .lit (.int .u8 2), .lit (.int .u8 29), .lit (.int .u8 14), .lit (.int .u8 24), .lit (.int .u8 3), .lit (.int .u8 30), .lit (.int .u8 22), .lit (.int .u8 20), .lit (.int .u8 15), .lit (.int .u8 25), .lit (.int .u8 17), .lit (.int .u8 4), .lit (.int .u8 8), .lit (.int .u8 31), .lit (.int .u8 27), .lit (.int .u8 13), .lit (.int .u8 23), .lit (.int .u8 21), .lit (.int .u8 19), .lit (.int .u8 16), .lit (.int .u8 7), .lit (.int .u8 26), .lit (.int .u8 12), .lit (.int .u8 18), .lit (.int .u8 6), .lit (.int .u8 11), .lit (.int .u8 5), .lit (.int .u8 10), .lit (.int .u8 9)]
def laid_math_bits_deBruijn64tab {H : Type} : DataW H := .agg [.lit (.int .u8 0), .lit (.int .u8 1), .lit (.int .u8 56), .lit (.int .u8 2), .lit (.int .u8 57), .lit (.int .u8 49), .lit (.int .u8 28), .lit (.int .u8 3), .lit (.int .u8 61), .lit (.int .u8 58), .lit (.int .u8 42), .lit (.int .u8 50), .lit (.int .u8 38), .lit (.int .u8 29), .lit (.int .u8 17), .lit (.int .u8 4), .lit (.int .u8 62), .lit (.int .u8 47), .lit (.int .u8 59), .lit (.int .u8 36), .lit (.int .u8 45), .lit (.int .u8 43), .lit (.int .u8 51), .lit (.int .u8 22), .lit (.int .u8 53), .lit (.int .u8 39), .lit (.int .u8 33), .lit (.int .u8 30), .lit (.int .u8 24), .lit (.int .u8 18), .lit (.int .u8 12), .lit (.int .u8 5), .lit (.int .u8 63), .lit (.int .u8 55), .lit (.int .u8 48), .lit (.int .u8 27), .lit (.int .u8 60), .lit (.int .u8 41), .lit (.int .u8 37), .lit (.int .u8 16), .lit (.int .u8 46), .lit (.int .u8 35), .lit (.int .u8 44), .lit (.int .u8 21), .lit (.int .u8 52), .lit (.int .u8 32), .lit (.int .u8 23), .lit (.int .u8 11), .lit (.int .u8 54), .lit (.int .u8 26), .lit (.int .u8 40), .lit (.int .u8 15), .lit (.int .u8 34), .lit (.int .u8 20), .lit (.int .u8 31), .lit (.int .u8 10), .lit (.int .u8 25), .lit (.int .u8 14), .lit (.int .u8 19), .lit (.int .u8 9), .lit (.int .u8 13), .lit (.int .u8 8), .lit (.int .u8 7), .lit (.int .u8 6)]
def laid_internal_strconv_uint64pow10 {H : Type} : DataW H := .agg [.lit (.int .u64 1), .lit (.int .u64 10), .lit (.int .u64 100), .lit (.int .u64 1000), .lit (.int .u64 10000), .lit (.int .u64 100000), .lit (.int .u64 1000000), .lit (.int .u64 10000000), .lit (.int .u64 100000000), .lit (.int .u64 1000000000), .lit (.int .u64 10000000000), .lit (.int .u64 100000000000), .lit (.int .u64 1000000000000), .lit (.int .u64 10000000000000), .lit (.int .u64 100000000000000), .lit (.int .u64 1000000000000000), .lit (.int .u64 10000000000000000), .lit (.int .u64 100000000000000000), .lit (.int .u64 1000000000000000000), .lit (.int .u64 10000000000000000000)]

/-- 'sentinellaw07.SubsetMatches': WHATEVER THE INPUT: true; the input reads as it did. -/
def subsetMatchesSpec : ChangeSpec := { name := "subsetMatches", fn := fun _ => fun
  | [d1, d2] => { results := [.lit (.bool true)], args := [d1, d2] }
  | _ => none }
def subsetMatchesRow : OpenClaim := { program := "ytbcdfmecpjbeaaadoor", sum := "fa7e323352e76f9045214380d30f614d76f0946318d3dede4b8a70bda14d9df6", func := "sentinel/sentinellaw07.SubsetMatches", spec := "subsetMatches", unfollowed := true, recurses := true, named := ["internal/strconv.uint64pow10", "math/bits.deBruijn32tab", "math/bits.deBruijn64tab"], apart := false, laid := [("math/bits.deBruijn32tab", laid_math_bits_deBruijn32tab), ("math/bits.deBruijn64tab", laid_math_bits_deBruijn64tab), ("internal/strconv.uint64pow10", laid_internal_strconv_uint64pow10)] }
def SubsetMatchesSaid : Prop := subsetMatchesRow.holds Tryd.pinned (OpenSpec.ofChange subsetMatchesSpec)

/-- ITS FALSE NEIGHBOUR: 'it returns false'. Refute it at one input. -/
def subsetMatchesWrong : ChangeSpec := { name := "subsetMatches", fn := fun _ => fun
  | [d1, d2] => { results := [.lit (.bool false)], args := [d1, d2] }
  | _ => none }
def SubsetMatchesWrongFalsely : Prop := subsetMatchesRow.holds Tryd.pinned (OpenSpec.ofChange subsetMatchesWrong)

/-- 'sentinellaw07.SubsetDeterminizes': WHATEVER THE INPUT: true; the input reads as it did. -/
def subsetDeterminizesSpec : ChangeSpec := { name := "subsetDeterminizes", fn := fun _ => fun
  | [d1, d2] => { results := [.lit (.bool true)], args := [d1, d2] }
  | _ => none }
def subsetDeterminizesRow : OpenClaim := { program := "ytbcdfmecpjbeaaadoor", sum := "fa7e323352e76f9045214380d30f614d76f0946318d3dede4b8a70bda14d9df6", func := "sentinel/sentinellaw07.SubsetDeterminizes", spec := "subsetDeterminizes", unfollowed := true, recurses := true, named := ["internal/strconv.uint64pow10", "math/bits.deBruijn32tab", "math/bits.deBruijn64tab"], apart := false, laid := [("math/bits.deBruijn32tab", laid_math_bits_deBruijn32tab), ("math/bits.deBruijn64tab", laid_math_bits_deBruijn64tab), ("internal/strconv.uint64pow10", laid_internal_strconv_uint64pow10)] }
def SubsetDeterminizesSaid : Prop := subsetDeterminizesRow.holds Tryd.pinned (OpenSpec.ofChange subsetDeterminizesSpec)

/-- ITS FALSE NEIGHBOUR: 'it returns false'. Refute it at one input. -/
def subsetDeterminizesWrong : ChangeSpec := { name := "subsetDeterminizes", fn := fun _ => fun
  | [d1, d2] => { results := [.lit (.bool false)], args := [d1, d2] }
  | _ => none }
def SubsetDeterminizesWrongFalsely : Prop := subsetDeterminizesRow.holds Tryd.pinned (OpenSpec.ofChange subsetDeterminizesWrong)

/-- 'sentinellaw07.SubsetSteps': WHATEVER THE INPUT: true; the input reads as it did. -/
def subsetStepsSpec : ChangeSpec := { name := "subsetSteps", fn := fun _ => fun
  | [d1, d2, d3] => { results := [.lit (.bool true)], args := [d1, d2, d3] }
  | _ => none }
def subsetStepsRow : OpenClaim := { program := "ytbcdfmecpjbeaaadoor", sum := "fa7e323352e76f9045214380d30f614d76f0946318d3dede4b8a70bda14d9df6", func := "sentinel/sentinellaw07.SubsetSteps", spec := "subsetSteps", unfollowed := true, recurses := true, named := ["internal/strconv.uint64pow10", "math/bits.deBruijn32tab", "math/bits.deBruijn64tab"], apart := false, laid := [("math/bits.deBruijn32tab", laid_math_bits_deBruijn32tab), ("math/bits.deBruijn64tab", laid_math_bits_deBruijn64tab), ("internal/strconv.uint64pow10", laid_internal_strconv_uint64pow10)] }
def SubsetStepsSaid : Prop := subsetStepsRow.holds Tryd.pinned (OpenSpec.ofChange subsetStepsSpec)

/-- ITS FALSE NEIGHBOUR: 'it returns false'. Refute it at one input. -/
def subsetStepsWrong : ChangeSpec := { name := "subsetSteps", fn := fun _ => fun
  | [d1, d2, d3] => { results := [.lit (.bool false)], args := [d1, d2, d3] }
  | _ => none }
def SubsetStepsWrongFalsely : Prop := subsetStepsRow.holds Tryd.pinned (OpenSpec.ofChange subsetStepsWrong)

/-- 'sentinellaw07.SubsetBudgets': WHATEVER THE INPUT: true; the input reads as it did. -/
def subsetBudgetsSpec : ChangeSpec := { name := "subsetBudgets", fn := fun _ => fun
  | [d1, d2] => { results := [.lit (.bool true)], args := [d1, d2] }
  | _ => none }
def subsetBudgetsRow : OpenClaim := { program := "ytbcdfmecpjbeaaadoor", sum := "fa7e323352e76f9045214380d30f614d76f0946318d3dede4b8a70bda14d9df6", func := "sentinel/sentinellaw07.SubsetBudgets", spec := "subsetBudgets", unfollowed := true, recurses := true, named := ["internal/strconv.uint64pow10", "math/bits.deBruijn32tab", "math/bits.deBruijn64tab"], apart := false, laid := [("math/bits.deBruijn32tab", laid_math_bits_deBruijn32tab), ("math/bits.deBruijn64tab", laid_math_bits_deBruijn64tab), ("internal/strconv.uint64pow10", laid_internal_strconv_uint64pow10)] }
def SubsetBudgetsSaid : Prop := subsetBudgetsRow.holds Tryd.pinned (OpenSpec.ofChange subsetBudgetsSpec)

/-- ITS FALSE NEIGHBOUR: 'it returns false'. Refute it at one input. -/
def subsetBudgetsWrong : ChangeSpec := { name := "subsetBudgets", fn := fun _ => fun
  | [d1, d2] => { results := [.lit (.bool false)], args := [d1, d2] }
  | _ => none }
def SubsetBudgetsWrongFalsely : Prop := subsetBudgetsRow.holds Tryd.pinned (OpenSpec.ofChange subsetBudgetsWrong)

/-- 'sentinellaw07.SubsetSameWords': WHATEVER THE INPUT: true; the input reads as it did. -/
def subsetSameWordsSpec : ChangeSpec := { name := "subsetSameWords", fn := fun _ => fun
  | [d1, d2] => { results := [.lit (.bool true)], args := [d1, d2] }
  | _ => none }
def subsetSameWordsRow : OpenClaim := { program := "ytbcdfmecpjbeaaadoor", sum := "fa7e323352e76f9045214380d30f614d76f0946318d3dede4b8a70bda14d9df6", func := "sentinel/sentinellaw07.SubsetSameWords", spec := "subsetSameWords", unfollowed := true, recurses := true, named := ["internal/strconv.uint64pow10", "math/bits.deBruijn32tab", "math/bits.deBruijn64tab"], apart := false, laid := [("math/bits.deBruijn32tab", laid_math_bits_deBruijn32tab), ("math/bits.deBruijn64tab", laid_math_bits_deBruijn64tab), ("internal/strconv.uint64pow10", laid_internal_strconv_uint64pow10)] }
def SubsetSameWordsSaid : Prop := subsetSameWordsRow.holds Tryd.pinned (OpenSpec.ofChange subsetSameWordsSpec)

/-- ITS FALSE NEIGHBOUR: 'it returns false'. Refute it at one input. -/
def subsetSameWordsWrong : ChangeSpec := { name := "subsetSameWords", fn := fun _ => fun
  | [d1, d2] => { results := [.lit (.bool false)], args := [d1, d2] }
  | _ => none }
def SubsetSameWordsWrongFalsely : Prop := subsetSameWordsRow.holds Tryd.pinned (OpenSpec.ofChange subsetSameWordsWrong)

/-- 'sentinellaw07.SubsetRenumbers': WHATEVER THE INPUT: true; the input reads as it did. -/
def subsetRenumbersSpec : ChangeSpec := { name := "subsetRenumbers", fn := fun _ => fun
  | [d1, d2] => { results := [.lit (.bool true)], args := [d1, d2] }
  | _ => none }
def subsetRenumbersRow : OpenClaim := { program := "ytbcdfmecpjbeaaadoor", sum := "fa7e323352e76f9045214380d30f614d76f0946318d3dede4b8a70bda14d9df6", func := "sentinel/sentinellaw07.SubsetRenumbers", spec := "subsetRenumbers", unfollowed := true, recurses := true, named := ["internal/strconv.uint64pow10", "math/bits.deBruijn32tab", "math/bits.deBruijn64tab"], apart := false, laid := [("math/bits.deBruijn32tab", laid_math_bits_deBruijn32tab), ("math/bits.deBruijn64tab", laid_math_bits_deBruijn64tab), ("internal/strconv.uint64pow10", laid_internal_strconv_uint64pow10)] }
def SubsetRenumbersSaid : Prop := subsetRenumbersRow.holds Tryd.pinned (OpenSpec.ofChange subsetRenumbersSpec)

/-- ITS FALSE NEIGHBOUR: 'it returns false'. Refute it at one input. -/
def subsetRenumbersWrong : ChangeSpec := { name := "subsetRenumbers", fn := fun _ => fun
  | [d1, d2] => { results := [.lit (.bool false)], args := [d1, d2] }
  | _ => none }
def SubsetRenumbersWrongFalsely : Prop := subsetRenumbersRow.holds Tryd.pinned (OpenSpec.ofChange subsetRenumbersWrong)

/-- 'sentinellaw07.SubsetConverts': WHATEVER THE INPUT: true; the input reads as it did. -/
def subsetConvertsSpec : ChangeSpec := { name := "subsetConverts", fn := fun _ => fun
  | [d] => { results := [.lit (.bool true)], args := [d] }
  | _ => none }
def subsetConvertsRow : OpenClaim := { program := "ytbcdfmecpjbeaaadoor", sum := "fa7e323352e76f9045214380d30f614d76f0946318d3dede4b8a70bda14d9df6", func := "sentinel/sentinellaw07.SubsetConverts", spec := "subsetConverts", unfollowed := true, recurses := true, named := ["internal/strconv.uint64pow10", "math/bits.deBruijn32tab", "math/bits.deBruijn64tab"], apart := false, laid := [("math/bits.deBruijn32tab", laid_math_bits_deBruijn32tab), ("math/bits.deBruijn64tab", laid_math_bits_deBruijn64tab), ("internal/strconv.uint64pow10", laid_internal_strconv_uint64pow10)] }
def SubsetConvertsSaid : Prop := subsetConvertsRow.holds Tryd.pinned (OpenSpec.ofChange subsetConvertsSpec)

/-- ITS FALSE NEIGHBOUR: 'it returns false'. Refute it at one input. -/
def subsetConvertsWrong : ChangeSpec := { name := "subsetConverts", fn := fun _ => fun
  | [d] => { results := [.lit (.bool false)], args := [d] }
  | _ => none }
def SubsetConvertsWrongFalsely : Prop := subsetConvertsRow.holds Tryd.pinned (OpenSpec.ofChange subsetConvertsWrong)

/-- 'sentinellaw07.SubsetExamples': WHATEVER THE INPUT: true; the input reads as it did. -/
def subsetExamplesSpec : ChangeSpec := { name := "subsetExamples", fn := fun _ => fun
  | [] => { results := [.lit (.bool true)], args := [] }
  | _ => none }
def subsetExamplesRow : OpenClaim := { program := "ytbcdfmecpjbeaaadoor", sum := "fa7e323352e76f9045214380d30f614d76f0946318d3dede4b8a70bda14d9df6", func := "sentinel/sentinellaw07.SubsetExamples", spec := "subsetExamples", unfollowed := true, recurses := true, named := ["internal/strconv.uint64pow10", "math/bits.deBruijn32tab", "math/bits.deBruijn64tab"], apart := false, laid := [("math/bits.deBruijn32tab", laid_math_bits_deBruijn32tab), ("math/bits.deBruijn64tab", laid_math_bits_deBruijn64tab), ("internal/strconv.uint64pow10", laid_internal_strconv_uint64pow10)] }
def SubsetExamplesSaid : Prop := subsetExamplesRow.holds Tryd.pinned (OpenSpec.ofChange subsetExamplesSpec)

/-- ITS FALSE NEIGHBOUR: 'it returns false'. Refute it at one input. -/
def subsetExamplesWrong : ChangeSpec := { name := "subsetExamples", fn := fun _ => fun
  | [] => { results := [.lit (.bool false)], args := [] }
  | _ => none }
def SubsetExamplesWrongFalsely : Prop := subsetExamplesRow.holds Tryd.pinned (OpenSpec.ofChange subsetExamplesWrong)

/-- 'sentinellaw07.SubsetReturns': WHATEVER THE INPUT: true; the input reads as it did. -/
def subsetReturnsSpec : ChangeSpec := { name := "subsetReturns", fn := fun _ => fun
  | [d1, d2] => { results := [.lit (.bool true)], args := [d1, d2] }
  | _ => none }
def subsetReturnsRow : OpenClaim := { program := "ytbcdfmecpjbeaaadoor", sum := "fa7e323352e76f9045214380d30f614d76f0946318d3dede4b8a70bda14d9df6", func := "sentinel/sentinellaw07.SubsetReturns", spec := "subsetReturns", unfollowed := true, recurses := true, named := ["internal/strconv.uint64pow10", "math/bits.deBruijn32tab", "math/bits.deBruijn64tab"], apart := false, laid := [("math/bits.deBruijn32tab", laid_math_bits_deBruijn32tab), ("math/bits.deBruijn64tab", laid_math_bits_deBruijn64tab), ("internal/strconv.uint64pow10", laid_internal_strconv_uint64pow10)] }
def SubsetReturnsSaid : Prop := subsetReturnsRow.holds Tryd.pinned (OpenSpec.ofChange subsetReturnsSpec)

/-- ITS FALSE NEIGHBOUR: 'it returns false'. Refute it at one input. -/
def subsetReturnsWrong : ChangeSpec := { name := "subsetReturns", fn := fun _ => fun
  | [d1, d2] => { results := [.lit (.bool false)], args := [d1, d2] }
  | _ => none }
def SubsetReturnsWrongFalsely : Prop := subsetReturnsRow.holds Tryd.pinned (OpenSpec.ofChange subsetReturnsWrong)

/- THE SECOND FORM. 'bulk': how many values and letters a reading holds, each counted each time it is reached (what is shared counts as often as it is met; a slice's spare places count too). A statement '..UptoSaid' is the law's where the arguments, and the package variables that the reading takes, are together of bulk at most 1048576: NARROWER than '..Said'. Prove '..Said' where nothing that the law and all that it calls make is longer than what came in: it says more and counts as full. Else prove '..UptoSaid'. A law counts once. -/
mutual
def uptoBulk {H : Type} : DataW H → Nat
  | .lit (.string bytes) => bytes.length + 1
  | .lit _ => 1
  | .nil => 1
  | .ptr d => uptoBulk d + 1
  | .slice elems spare => uptoBulkAll elems + uptoBulkAll spare + 1
  | .agg parts => uptoBulkAll parts + 1
  | .iface _ d => uptoBulk d + 1
  | .map entries => uptoBulkEntries entries + 1
  | .held _ => 1
def uptoBulkAll {H : Type} : List (DataW H) → Nat
  | [] => 0
  | d :: r => uptoBulk d + uptoBulkAll r
def uptoBulkEntries {H : Type} : List (Lit × DataW H) → Nat
  | [] => 0
  | x :: r => uptoBulkEntry x + uptoBulkEntries r
def uptoBulkEntry {H : Type} : Lit × DataW H → Nat
  | (.string bytes, d) => bytes.length + uptoBulk d + 1
  | (_, d) => uptoBulk d + 1
 end
def uptoSmall : (H : Type) → List (DataW H) → Bool := fun _ ds => decide (uptoBulkAll ds ≤ 1048576)
def OpenSpec.upto (s : _root_.Go.ChangeSpec) : _root_.Go.OpenSpec := { _root_.Go.OpenSpec.ofChange s with cond := some uptoSmall }

/-- 'sentinellaw07.SubsetMatches', WHERE WHAT IT READS IS OF BULK AT MOST 1048576: true; the input reads as it did. -/
def subsetMatchesUptoRow : OpenClaim := { program := "ytbcdfmecpjbeaaadoor", sum := "fa7e323352e76f9045214380d30f614d76f0946318d3dede4b8a70bda14d9df6", func := "sentinel/sentinellaw07.SubsetMatches", spec := "subsetMatches", unfollowed := true, recurses := true, named := ["internal/strconv.uint64pow10", "math/bits.deBruijn32tab", "math/bits.deBruijn64tab"], apart := false, laid := [("math/bits.deBruijn32tab", laid_math_bits_deBruijn32tab), ("math/bits.deBruijn64tab", laid_math_bits_deBruijn64tab), ("internal/strconv.uint64pow10", laid_internal_strconv_uint64pow10)], narrowed := true }
def SubsetMatchesUptoSaid : Prop := subsetMatchesUptoRow.holds Tryd.pinned (OpenSpec.upto subsetMatchesSpec)

/-- 'sentinellaw07.SubsetDeterminizes', WHERE WHAT IT READS IS OF BULK AT MOST 1048576: true; the input reads as it did. -/
def subsetDeterminizesUptoRow : OpenClaim := { program := "ytbcdfmecpjbeaaadoor", sum := "fa7e323352e76f9045214380d30f614d76f0946318d3dede4b8a70bda14d9df6", func := "sentinel/sentinellaw07.SubsetDeterminizes", spec := "subsetDeterminizes", unfollowed := true, recurses := true, named := ["internal/strconv.uint64pow10", "math/bits.deBruijn32tab", "math/bits.deBruijn64tab"], apart := false, laid := [("math/bits.deBruijn32tab", laid_math_bits_deBruijn32tab), ("math/bits.deBruijn64tab", laid_math_bits_deBruijn64tab), ("internal/strconv.uint64pow10", laid_internal_strconv_uint64pow10)], narrowed := true }
def SubsetDeterminizesUptoSaid : Prop := subsetDeterminizesUptoRow.holds Tryd.pinned (OpenSpec.upto subsetDeterminizesSpec)

/-- 'sentinellaw07.SubsetSteps', WHERE WHAT IT READS IS OF BULK AT MOST 1048576: true; the input reads as it did. -/
def subsetStepsUptoRow : OpenClaim := { program := "ytbcdfmecpjbeaaadoor", sum := "fa7e323352e76f9045214380d30f614d76f0946318d3dede4b8a70bda14d9df6", func := "sentinel/sentinellaw07.SubsetSteps", spec := "subsetSteps", unfollowed := true, recurses := true, named := ["internal/strconv.uint64pow10", "math/bits.deBruijn32tab", "math/bits.deBruijn64tab"], apart := false, laid := [("math/bits.deBruijn32tab", laid_math_bits_deBruijn32tab), ("math/bits.deBruijn64tab", laid_math_bits_deBruijn64tab), ("internal/strconv.uint64pow10", laid_internal_strconv_uint64pow10)], narrowed := true }
def SubsetStepsUptoSaid : Prop := subsetStepsUptoRow.holds Tryd.pinned (OpenSpec.upto subsetStepsSpec)

/-- 'sentinellaw07.SubsetBudgets', WHERE WHAT IT READS IS OF BULK AT MOST 1048576: true; the input reads as it did. -/
def subsetBudgetsUptoRow : OpenClaim := { program := "ytbcdfmecpjbeaaadoor", sum := "fa7e323352e76f9045214380d30f614d76f0946318d3dede4b8a70bda14d9df6", func := "sentinel/sentinellaw07.SubsetBudgets", spec := "subsetBudgets", unfollowed := true, recurses := true, named := ["internal/strconv.uint64pow10", "math/bits.deBruijn32tab", "math/bits.deBruijn64tab"], apart := false, laid := [("math/bits.deBruijn32tab", laid_math_bits_deBruijn32tab), ("math/bits.deBruijn64tab", laid_math_bits_deBruijn64tab), ("internal/strconv.uint64pow10", laid_internal_strconv_uint64pow10)], narrowed := true }
def SubsetBudgetsUptoSaid : Prop := subsetBudgetsUptoRow.holds Tryd.pinned (OpenSpec.upto subsetBudgetsSpec)

/-- 'sentinellaw07.SubsetSameWords', WHERE WHAT IT READS IS OF BULK AT MOST 1048576: true; the input reads as it did. -/
def subsetSameWordsUptoRow : OpenClaim := { program := "ytbcdfmecpjbeaaadoor", sum := "fa7e323352e76f9045214380d30f614d76f0946318d3dede4b8a70bda14d9df6", func := "sentinel/sentinellaw07.SubsetSameWords", spec := "subsetSameWords", unfollowed := true, recurses := true, named := ["internal/strconv.uint64pow10", "math/bits.deBruijn32tab", "math/bits.deBruijn64tab"], apart := false, laid := [("math/bits.deBruijn32tab", laid_math_bits_deBruijn32tab), ("math/bits.deBruijn64tab", laid_math_bits_deBruijn64tab), ("internal/strconv.uint64pow10", laid_internal_strconv_uint64pow10)], narrowed := true }
def SubsetSameWordsUptoSaid : Prop := subsetSameWordsUptoRow.holds Tryd.pinned (OpenSpec.upto subsetSameWordsSpec)

/-- 'sentinellaw07.SubsetRenumbers', WHERE WHAT IT READS IS OF BULK AT MOST 1048576: true; the input reads as it did. -/
def subsetRenumbersUptoRow : OpenClaim := { program := "ytbcdfmecpjbeaaadoor", sum := "fa7e323352e76f9045214380d30f614d76f0946318d3dede4b8a70bda14d9df6", func := "sentinel/sentinellaw07.SubsetRenumbers", spec := "subsetRenumbers", unfollowed := true, recurses := true, named := ["internal/strconv.uint64pow10", "math/bits.deBruijn32tab", "math/bits.deBruijn64tab"], apart := false, laid := [("math/bits.deBruijn32tab", laid_math_bits_deBruijn32tab), ("math/bits.deBruijn64tab", laid_math_bits_deBruijn64tab), ("internal/strconv.uint64pow10", laid_internal_strconv_uint64pow10)], narrowed := true }
def SubsetRenumbersUptoSaid : Prop := subsetRenumbersUptoRow.holds Tryd.pinned (OpenSpec.upto subsetRenumbersSpec)

/-- 'sentinellaw07.SubsetConverts', WHERE WHAT IT READS IS OF BULK AT MOST 1048576: true; the input reads as it did. -/
def subsetConvertsUptoRow : OpenClaim := { program := "ytbcdfmecpjbeaaadoor", sum := "fa7e323352e76f9045214380d30f614d76f0946318d3dede4b8a70bda14d9df6", func := "sentinel/sentinellaw07.SubsetConverts", spec := "subsetConverts", unfollowed := true, recurses := true, named := ["internal/strconv.uint64pow10", "math/bits.deBruijn32tab", "math/bits.deBruijn64tab"], apart := false, laid := [("math/bits.deBruijn32tab", laid_math_bits_deBruijn32tab), ("math/bits.deBruijn64tab", laid_math_bits_deBruijn64tab), ("internal/strconv.uint64pow10", laid_internal_strconv_uint64pow10)], narrowed := true }
def SubsetConvertsUptoSaid : Prop := subsetConvertsUptoRow.holds Tryd.pinned (OpenSpec.upto subsetConvertsSpec)

/-- 'sentinellaw07.SubsetExamples', WHERE WHAT IT READS IS OF BULK AT MOST 1048576: true; the input reads as it did. -/
def subsetExamplesUptoRow : OpenClaim := { program := "ytbcdfmecpjbeaaadoor", sum := "fa7e323352e76f9045214380d30f614d76f0946318d3dede4b8a70bda14d9df6", func := "sentinel/sentinellaw07.SubsetExamples", spec := "subsetExamples", unfollowed := true, recurses := true, named := ["internal/strconv.uint64pow10", "math/bits.deBruijn32tab", "math/bits.deBruijn64tab"], apart := false, laid := [("math/bits.deBruijn32tab", laid_math_bits_deBruijn32tab), ("math/bits.deBruijn64tab", laid_math_bits_deBruijn64tab), ("internal/strconv.uint64pow10", laid_internal_strconv_uint64pow10)], narrowed := true }
def SubsetExamplesUptoSaid : Prop := subsetExamplesUptoRow.holds Tryd.pinned (OpenSpec.upto subsetExamplesSpec)

/-- 'sentinellaw07.SubsetReturns', WHERE WHAT IT READS IS OF BULK AT MOST 1048576: true; the input reads as it did. -/
def subsetReturnsUptoRow : OpenClaim := { program := "ytbcdfmecpjbeaaadoor", sum := "fa7e323352e76f9045214380d30f614d76f0946318d3dede4b8a70bda14d9df6", func := "sentinel/sentinellaw07.SubsetReturns", spec := "subsetReturns", unfollowed := true, recurses := true, named := ["internal/strconv.uint64pow10", "math/bits.deBruijn32tab", "math/bits.deBruijn64tab"], apart := false, laid := [("math/bits.deBruijn32tab", laid_math_bits_deBruijn32tab), ("math/bits.deBruijn64tab", laid_math_bits_deBruijn64tab), ("internal/strconv.uint64pow10", laid_internal_strconv_uint64pow10)], narrowed := true }
def SubsetReturnsUptoSaid : Prop := subsetReturnsUptoRow.holds Tryd.pinned (OpenSpec.upto subsetReturnsSpec)

end Rows
end Go.Proofs.YtbcdfmecpjbeaaaDoor
