/-
  No cell of these rows narrows 'for every input' (looked for: loops, veiled, ifaces, maps, wideKeys, modest, calm, conditions, laid).
  DERIVED. THE GIVEN ROWS OF THIS SEAT. 8 by the template 'for every input the law returns true; each argument reads behind the call as it read before'; 0 by the template 'total and deterministic' (their statements: YtfapjojfiaiidaaTotals.lean).
  GIVEN WITH THE SEED: the statements are not yours to turn. If you find one false, say at which input.
  Laid BY PROGRAM, IN A SANDBOX (cutbox-rows.mjs): the forced cells as the released guide's own fill.sh prints them over the translation b0969c1484cf2ca4… (all of the seat's roots in one cut). By AI agents, Wed Nov 11 2026. No macro, syntax, notation, axiom, sorry.
-/
import Derived.Test.YtfapjojfiaiidaaChecked
import GoSem.Claim
import GoSem.ClaimJoined
import GoSem.ClaimMapViews
import Derived.JoinedTies
import Derived.KernelRfl
namespace Go.Proofs.Ytfapjojfiaiidaa
/- THE CELL 'sum', in the pinned program and in every row, IS THE sha256 OF THE DUMP (.gsa) THAT YtfapjojfiaiidaaProg.lean LOADS. Nothing in Lean hashes anything: it is a label: what it is worth is what the hold of that sum in a sandbox is worth. -/
noncomputable def Try.pinned : Pinned := { name := "ytfapjojfiaiidaa", sum := "b0969c1484cf2ca41605df5b0571877097c0c7d150df0195df252f9c99c56dee", checked := Try.checked }
namespace Rows
def none {H : Type} : Left H := { results := [], args := [] }

/-- 'sentinellaw13.SimulateMatches': WHATEVER THE INPUT: true; the input reads as it did. -/
def simulateMatchesSpec : ChangeSpec := { name := "simulateMatches", fn := fun _ => fun
  | [d] => { results := [.lit (.bool true)], args := [d] }
  | _ => none }
def simulateMatchesRow : OpenClaim := { program := "ytfapjojfiaiidaa", sum := "b0969c1484cf2ca41605df5b0571877097c0c7d150df0195df252f9c99c56dee", func := "sentinel/sentinellaw13.SimulateMatches", spec := "simulateMatches", unfollowed := true, recurses := true, apart := false }
def SimulateMatchesSaid : Prop := simulateMatchesRow.holds Try.pinned (OpenSpec.ofChange simulateMatchesSpec)

/-- ITS FALSE NEIGHBOUR: 'it returns false'. Refute it at one input. -/
def simulateMatchesWrong : ChangeSpec := { name := "simulateMatches", fn := fun _ => fun
  | [d] => { results := [.lit (.bool false)], args := [d] }
  | _ => none }
def SimulateMatchesWrongFalsely : Prop := simulateMatchesRow.holds Try.pinned (OpenSpec.ofChange simulateMatchesWrong)

/-- 'sentinellaw13.SimulateTwice': WHATEVER THE INPUT: true; the input reads as it did. -/
def simulateTwiceSpec : ChangeSpec := { name := "simulateTwice", fn := fun _ => fun
  | [d1, d2] => { results := [.lit (.bool true)], args := [d1, d2] }
  | _ => none }
def simulateTwiceRow : OpenClaim := { program := "ytfapjojfiaiidaa", sum := "b0969c1484cf2ca41605df5b0571877097c0c7d150df0195df252f9c99c56dee", func := "sentinel/sentinellaw13.SimulateTwice", spec := "simulateTwice", unfollowed := true, recurses := true, apart := false }
def SimulateTwiceSaid : Prop := simulateTwiceRow.holds Try.pinned (OpenSpec.ofChange simulateTwiceSpec)

/-- ITS FALSE NEIGHBOUR: 'it returns false'. Refute it at one input. -/
def simulateTwiceWrong : ChangeSpec := { name := "simulateTwice", fn := fun _ => fun
  | [d1, d2] => { results := [.lit (.bool false)], args := [d1, d2] }
  | _ => none }
def SimulateTwiceWrongFalsely : Prop := simulateTwiceRow.holds Try.pinned (OpenSpec.ofChange simulateTwiceWrong)

/-- 'sentinellaw13.SimulateLargest': WHATEVER THE INPUT: true; the input reads as it did. -/
def simulateLargestSpec : ChangeSpec := { name := "simulateLargest", fn := fun _ => fun
  | [d1, d2] => { results := [.lit (.bool true)], args := [d1, d2] }
  | _ => none }
def simulateLargestRow : OpenClaim := { program := "ytfapjojfiaiidaa", sum := "b0969c1484cf2ca41605df5b0571877097c0c7d150df0195df252f9c99c56dee", func := "sentinel/sentinellaw13.SimulateLargest", spec := "simulateLargest", unfollowed := true, recurses := true, apart := false }
def SimulateLargestSaid : Prop := simulateLargestRow.holds Try.pinned (OpenSpec.ofChange simulateLargestSpec)

/-- ITS FALSE NEIGHBOUR: 'it returns false'. Refute it at one input. -/
def simulateLargestWrong : ChangeSpec := { name := "simulateLargest", fn := fun _ => fun
  | [d1, d2] => { results := [.lit (.bool false)], args := [d1, d2] }
  | _ => none }
def SimulateLargestWrongFalsely : Prop := simulateLargestRow.holds Try.pinned (OpenSpec.ofChange simulateLargestWrong)

/-- 'sentinellaw13.SimulateWords': WHATEVER THE INPUT: true; the input reads as it did. -/
def simulateWordsSpec : ChangeSpec := { name := "simulateWords", fn := fun _ => fun
  | [d1, d2, d3, d4] => { results := [.lit (.bool true)], args := [d1, d2, d3, d4] }
  | _ => none }
def simulateWordsRow : OpenClaim := { program := "ytfapjojfiaiidaa", sum := "b0969c1484cf2ca41605df5b0571877097c0c7d150df0195df252f9c99c56dee", func := "sentinel/sentinellaw13.SimulateWords", spec := "simulateWords", unfollowed := true, recurses := true, apart := false }
def SimulateWordsSaid : Prop := simulateWordsRow.holds Try.pinned (OpenSpec.ofChange simulateWordsSpec)

/-- ITS FALSE NEIGHBOUR: 'it returns false'. Refute it at one input. -/
def simulateWordsWrong : ChangeSpec := { name := "simulateWords", fn := fun _ => fun
  | [d1, d2, d3, d4] => { results := [.lit (.bool false)], args := [d1, d2, d3, d4] }
  | _ => none }
def SimulateWordsWrongFalsely : Prop := simulateWordsRow.holds Try.pinned (OpenSpec.ofChange simulateWordsWrong)

/-- 'sentinellaw13.SimulateQuotient': WHATEVER THE INPUT: true; the input reads as it did. -/
def simulateQuotientSpec : ChangeSpec := { name := "simulateQuotient", fn := fun _ => fun
  | [d1, d2] => { results := [.lit (.bool true)], args := [d1, d2] }
  | _ => none }
def simulateQuotientRow : OpenClaim := { program := "ytfapjojfiaiidaa", sum := "b0969c1484cf2ca41605df5b0571877097c0c7d150df0195df252f9c99c56dee", func := "sentinel/sentinellaw13.SimulateQuotient", spec := "simulateQuotient", unfollowed := true, recurses := true, apart := false }
def SimulateQuotientSaid : Prop := simulateQuotientRow.holds Try.pinned (OpenSpec.ofChange simulateQuotientSpec)

/-- ITS FALSE NEIGHBOUR: 'it returns false'. Refute it at one input. -/
def simulateQuotientWrong : ChangeSpec := { name := "simulateQuotient", fn := fun _ => fun
  | [d1, d2] => { results := [.lit (.bool false)], args := [d1, d2] }
  | _ => none }
def SimulateQuotientWrongFalsely : Prop := simulateQuotientRow.holds Try.pinned (OpenSpec.ofChange simulateQuotientWrong)

/-- 'sentinellaw13.SimulateDecides': WHATEVER THE INPUT: true; the input reads as it did. -/
def simulateDecidesSpec : ChangeSpec := { name := "simulateDecides", fn := fun _ => fun
  | [d1, d2, d3] => { results := [.lit (.bool true)], args := [d1, d2, d3] }
  | _ => none }
def simulateDecidesRow : OpenClaim := { program := "ytfapjojfiaiidaa", sum := "b0969c1484cf2ca41605df5b0571877097c0c7d150df0195df252f9c99c56dee", func := "sentinel/sentinellaw13.SimulateDecides", spec := "simulateDecides", unfollowed := true, recurses := true, apart := false }
def SimulateDecidesSaid : Prop := simulateDecidesRow.holds Try.pinned (OpenSpec.ofChange simulateDecidesSpec)

/-- ITS FALSE NEIGHBOUR: 'it returns false'. Refute it at one input. -/
def simulateDecidesWrong : ChangeSpec := { name := "simulateDecides", fn := fun _ => fun
  | [d1, d2, d3] => { results := [.lit (.bool false)], args := [d1, d2, d3] }
  | _ => none }
def SimulateDecidesWrongFalsely : Prop := simulateDecidesRow.holds Try.pinned (OpenSpec.ofChange simulateDecidesWrong)

/-- 'sentinellaw13.SimulateExamples': WHATEVER THE INPUT: true; the input reads as it did. -/
def simulateExamplesSpec : ChangeSpec := { name := "simulateExamples", fn := fun _ => fun
  | [] => { results := [.lit (.bool true)], args := [] }
  | _ => none }
def simulateExamplesRow : OpenClaim := { program := "ytfapjojfiaiidaa", sum := "b0969c1484cf2ca41605df5b0571877097c0c7d150df0195df252f9c99c56dee", func := "sentinel/sentinellaw13.SimulateExamples", spec := "simulateExamples", unfollowed := true, recurses := true, apart := false }
def SimulateExamplesSaid : Prop := simulateExamplesRow.holds Try.pinned (OpenSpec.ofChange simulateExamplesSpec)

/-- ITS FALSE NEIGHBOUR: 'it returns false'. Refute it at one input. -/
def simulateExamplesWrong : ChangeSpec := { name := "simulateExamples", fn := fun _ => fun
  | [] => { results := [.lit (.bool false)], args := [] }
  | _ => none }
def SimulateExamplesWrongFalsely : Prop := simulateExamplesRow.holds Try.pinned (OpenSpec.ofChange simulateExamplesWrong)

/-- 'sentinellaw13.SimulateBetween': WHATEVER THE INPUT: true; the input reads as it did. -/
def simulateBetweenSpec : ChangeSpec := { name := "simulateBetween", fn := fun _ => fun
  | [d1, d2, d3] => { results := [.lit (.bool true)], args := [d1, d2, d3] }
  | _ => none }
def simulateBetweenRow : OpenClaim := { program := "ytfapjojfiaiidaa", sum := "b0969c1484cf2ca41605df5b0571877097c0c7d150df0195df252f9c99c56dee", func := "sentinel/sentinellaw13.SimulateBetween", spec := "simulateBetween", unfollowed := true, recurses := true, apart := false }
def SimulateBetweenSaid : Prop := simulateBetweenRow.holds Try.pinned (OpenSpec.ofChange simulateBetweenSpec)

/-- ITS FALSE NEIGHBOUR: 'it returns false'. Refute it at one input. -/
def simulateBetweenWrong : ChangeSpec := { name := "simulateBetween", fn := fun _ => fun
  | [d1, d2, d3] => { results := [.lit (.bool false)], args := [d1, d2, d3] }
  | _ => none }
def SimulateBetweenWrongFalsely : Prop := simulateBetweenRow.holds Try.pinned (OpenSpec.ofChange simulateBetweenWrong)

/- THE SECOND FORM. 'bulk': how many values and letters a reading holds, each counted each time it is reached (what is shared counts as often as it is met; a slice's spare places count too). A statement '..UptoSaid' is the law's where the arguments, and the package variables that the reading takes, are together of bulk at most 1048576: NARROWER than '..Said'. Prove '..Said' where nothing that the law and all that it calls make is longer than what came in: it says more and counts as full. Else prove '..UptoSaid'. A law counts once. -/
mutual
def uptoBulk {H : Type} : DataW H → Nat
  | .lit (.string bytes) => bytes.length + 1
  | .lit _ => 1
  | .nil => 1
  | .ptr d => uptoBulk d + 1
  | .slice elems spare => uptoBulkAll elems + uptoBulkAll spare + 1
  | .agg parts => uptoBulkAll parts + 1
  | .iface _ d => uptoBulk d + 1
  | .map entries => uptoBulkEntries entries + 1
  | .held _ => 1
def uptoBulkAll {H : Type} : List (DataW H) → Nat
  | [] => 0
  | d :: r => uptoBulk d + uptoBulkAll r
def uptoBulkEntries {H : Type} : List (Lit × DataW H) → Nat
  | [] => 0
  | x :: r => uptoBulkEntry x + uptoBulkEntries r
def uptoBulkEntry {H : Type} : Lit × DataW H → Nat
  | (.string bytes, d) => bytes.length + uptoBulk d + 1
  | (_, d) => uptoBulk d + 1
 end
def uptoSmall : (H : Type) → List (DataW H) → Bool := fun _ ds => decide (uptoBulkAll ds ≤ 1048576)
def OpenSpec.upto (s : _root_.Go.ChangeSpec) : _root_.Go.OpenSpec := { _root_.Go.OpenSpec.ofChange s with cond := some uptoSmall }

/-- 'sentinellaw13.SimulateMatches', WHERE WHAT IT READS IS OF BULK AT MOST 1048576: true; the input reads as it did. -/
def simulateMatchesUptoRow : OpenClaim := { program := "ytfapjojfiaiidaa", sum := "b0969c1484cf2ca41605df5b0571877097c0c7d150df0195df252f9c99c56dee", func := "sentinel/sentinellaw13.SimulateMatches", spec := "simulateMatches", unfollowed := true, recurses := true, apart := false, narrowed := true }
def SimulateMatchesUptoSaid : Prop := simulateMatchesUptoRow.holds Try.pinned (OpenSpec.upto simulateMatchesSpec)

/-- 'sentinellaw13.SimulateTwice', WHERE WHAT IT READS IS OF BULK AT MOST 1048576: true; the input reads as it did. -/
def simulateTwiceUptoRow : OpenClaim := { program := "ytfapjojfiaiidaa", sum := "b0969c1484cf2ca41605df5b0571877097c0c7d150df0195df252f9c99c56dee", func := "sentinel/sentinellaw13.SimulateTwice", spec := "simulateTwice", unfollowed := true, recurses := true, apart := false, narrowed := true }
def SimulateTwiceUptoSaid : Prop := simulateTwiceUptoRow.holds Try.pinned (OpenSpec.upto simulateTwiceSpec)

/-- 'sentinellaw13.SimulateLargest', WHERE WHAT IT READS IS OF BULK AT MOST 1048576: true; the input reads as it did. -/
def simulateLargestUptoRow : OpenClaim := { program := "ytfapjojfiaiidaa", sum := "b0969c1484cf2ca41605df5b0571877097c0c7d150df0195df252f9c99c56dee", func := "sentinel/sentinellaw13.SimulateLargest", spec := "simulateLargest", unfollowed := true, recurses := true, apart := false, narrowed := true }
def SimulateLargestUptoSaid : Prop := simulateLargestUptoRow.holds Try.pinned (OpenSpec.upto simulateLargestSpec)

/-- 'sentinellaw13.SimulateWords', WHERE WHAT IT READS IS OF BULK AT MOST 1048576: true; the input reads as it did. -/
def simulateWordsUptoRow : OpenClaim := { program := "ytfapjojfiaiidaa", sum := "b0969c1484cf2ca41605df5b0571877097c0c7d150df0195df252f9c99c56dee", func := "sentinel/sentinellaw13.SimulateWords", spec := "simulateWords", unfollowed := true, recurses := true, apart := false, narrowed := true }
def SimulateWordsUptoSaid : Prop := simulateWordsUptoRow.holds Try.pinned (OpenSpec.upto simulateWordsSpec)

/-- 'sentinellaw13.SimulateQuotient', WHERE WHAT IT READS IS OF BULK AT MOST 1048576: true; the input reads as it did. -/
def simulateQuotientUptoRow : OpenClaim := { program := "ytfapjojfiaiidaa", sum := "b0969c1484cf2ca41605df5b0571877097c0c7d150df0195df252f9c99c56dee", func := "sentinel/sentinellaw13.SimulateQuotient", spec := "simulateQuotient", unfollowed := true, recurses := true, apart := false, narrowed := true }
def SimulateQuotientUptoSaid : Prop := simulateQuotientUptoRow.holds Try.pinned (OpenSpec.upto simulateQuotientSpec)

/-- 'sentinellaw13.SimulateDecides', WHERE WHAT IT READS IS OF BULK AT MOST 1048576: true; the input reads as it did. -/
def simulateDecidesUptoRow : OpenClaim := { program := "ytfapjojfiaiidaa", sum := "b0969c1484cf2ca41605df5b0571877097c0c7d150df0195df252f9c99c56dee", func := "sentinel/sentinellaw13.SimulateDecides", spec := "simulateDecides", unfollowed := true, recurses := true, apart := false, narrowed := true }
def SimulateDecidesUptoSaid : Prop := simulateDecidesUptoRow.holds Try.pinned (OpenSpec.upto simulateDecidesSpec)

/-- 'sentinellaw13.SimulateExamples', WHERE WHAT IT READS IS OF BULK AT MOST 1048576: true; the input reads as it did. -/
def simulateExamplesUptoRow : OpenClaim := { program := "ytfapjojfiaiidaa", sum := "b0969c1484cf2ca41605df5b0571877097c0c7d150df0195df252f9c99c56dee", func := "sentinel/sentinellaw13.SimulateExamples", spec := "simulateExamples", unfollowed := true, recurses := true, apart := false, narrowed := true }
def SimulateExamplesUptoSaid : Prop := simulateExamplesUptoRow.holds Try.pinned (OpenSpec.upto simulateExamplesSpec)

/-- 'sentinellaw13.SimulateBetween', WHERE WHAT IT READS IS OF BULK AT MOST 1048576: true; the input reads as it did. -/
def simulateBetweenUptoRow : OpenClaim := { program := "ytfapjojfiaiidaa", sum := "b0969c1484cf2ca41605df5b0571877097c0c7d150df0195df252f9c99c56dee", func := "sentinel/sentinellaw13.SimulateBetween", spec := "simulateBetween", unfollowed := true, recurses := true, apart := false, narrowed := true }
def SimulateBetweenUptoSaid : Prop := simulateBetweenUptoRow.holds Try.pinned (OpenSpec.upto simulateBetweenSpec)

end Rows
end Go.Proofs.Ytfapjojfiaiidaa
