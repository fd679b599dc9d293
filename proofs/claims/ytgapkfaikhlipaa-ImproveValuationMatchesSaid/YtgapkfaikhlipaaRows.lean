/-
  No cell of these rows narrows 'for every input' (looked for: loops, veiled, ifaces, maps, wideKeys, modest, calm, conditions, laid).
  DERIVED. THE GIVEN ROWS OF THIS SEAT. 7 by the template 'for every input the law returns true; each argument reads behind the call as it read before'; 0 by the template 'total and deterministic' (their statements: YtgapkfaikhlipaaTotals.lean).
  GIVEN WITH THE SEED: the statements are not yours to turn. If you find one false, say at which input.
  Laid BY PROGRAM, IN A SANDBOX (cutbox-rows.mjs): the forced cells as the released guide's own fill.sh prints them over the translation 210ec568d26ed437… (all of the seat's roots in one cut). By AI agents, Wed Nov 11 2026. No macro, syntax, notation, axiom, sorry.
-/
import Derived.Test.YtgapkfaikhlipaaChecked
import GoSem.Claim
import GoSem.ClaimJoined
import GoSem.ClaimMapViews
import Derived.JoinedTies
import Derived.KernelRfl
namespace Go.Proofs.Ytgapkfaikhlipaa
/- THE CELL 'sum', in the pinned program and in every row, IS THE sha256 OF THE DUMP (.gsa) THAT YtgapkfaikhlipaaProg.lean LOADS. Nothing in Lean hashes anything: it is a label: what it is worth is what the hold of that sum in a sandbox is worth. -/
noncomputable def Try.pinned : Pinned := { name := "ytgapkfaikhlipaa", sum := "210ec568d26ed437ba313b3af6b7c31798bba1288a6adf9758369f47044c751d", checked := Try.checked }
namespace Rows
def none {H : Type} : Left H := { results := [], args := [] }

/-- 'sentinellaw32.ImproveValuationMatches': WHATEVER THE INPUT: true; the input reads as it did. -/
def improveValuationMatchesSpec : ChangeSpec := { name := "improveValuationMatches", fn := fun _ => fun
  | [d1, d2] => { results := [.lit (.bool true)], args := [d1, d2] }
  | _ => none }
def improveValuationMatchesRow : OpenClaim := { program := "ytgapkfaikhlipaa", sum := "210ec568d26ed437ba313b3af6b7c31798bba1288a6adf9758369f47044c751d", func := "sentinel/sentinellaw32.ImproveValuationMatches", spec := "improveValuationMatches", unfollowed := true, recurses := true, apart := false }
def ImproveValuationMatchesSaid : Prop := improveValuationMatchesRow.holds Try.pinned (OpenSpec.ofChange improveValuationMatchesSpec)

/-- ITS FALSE NEIGHBOUR: 'it returns false'. Refute it at one input. -/
def improveValuationMatchesWrong : ChangeSpec := { name := "improveValuationMatches", fn := fun _ => fun
  | [d1, d2] => { results := [.lit (.bool false)], args := [d1, d2] }
  | _ => none }
def ImproveValuationMatchesWrongFalsely : Prop := improveValuationMatchesRow.holds Try.pinned (OpenSpec.ofChange improveValuationMatchesWrong)

/-- 'sentinellaw32.ImproveMatches': WHATEVER THE INPUT: true; the input reads as it did. -/
def improveMatchesSpec : ChangeSpec := { name := "improveMatches", fn := fun _ => fun
  | [d1, d2, d3, d4, d5] => { results := [.lit (.bool true)], args := [d1, d2, d3, d4, d5] }
  | _ => none }
def improveMatchesRow : OpenClaim := { program := "ytgapkfaikhlipaa", sum := "210ec568d26ed437ba313b3af6b7c31798bba1288a6adf9758369f47044c751d", func := "sentinel/sentinellaw32.ImproveMatches", spec := "improveMatches", unfollowed := true, recurses := true, apart := false }
def ImproveMatchesSaid : Prop := improveMatchesRow.holds Try.pinned (OpenSpec.ofChange improveMatchesSpec)

/-- ITS FALSE NEIGHBOUR: 'it returns false'. Refute it at one input. -/
def improveMatchesWrong : ChangeSpec := { name := "improveMatches", fn := fun _ => fun
  | [d1, d2, d3, d4, d5] => { results := [.lit (.bool false)], args := [d1, d2, d3, d4, d5] }
  | _ => none }
def ImproveMatchesWrongFalsely : Prop := improveMatchesRow.holds Try.pinned (OpenSpec.ofChange improveMatchesWrong)

/-- 'sentinellaw32.ImproveBounds': WHATEVER THE INPUT: true; the input reads as it did. -/
def improveBoundsSpec : ChangeSpec := { name := "improveBounds", fn := fun _ => fun
  | [d1, d2, d3] => { results := [.lit (.bool true)], args := [d1, d2, d3] }
  | _ => none }
def improveBoundsRow : OpenClaim := { program := "ytgapkfaikhlipaa", sum := "210ec568d26ed437ba313b3af6b7c31798bba1288a6adf9758369f47044c751d", func := "sentinel/sentinellaw32.ImproveBounds", spec := "improveBounds", unfollowed := true, recurses := true, apart := false }
def ImproveBoundsSaid : Prop := improveBoundsRow.holds Try.pinned (OpenSpec.ofChange improveBoundsSpec)

/-- ITS FALSE NEIGHBOUR: 'it returns false'. Refute it at one input. -/
def improveBoundsWrong : ChangeSpec := { name := "improveBounds", fn := fun _ => fun
  | [d1, d2, d3] => { results := [.lit (.bool false)], args := [d1, d2, d3] }
  | _ => none }
def ImproveBoundsWrongFalsely : Prop := improveBoundsRow.holds Try.pinned (OpenSpec.ofChange improveBoundsWrong)

/-- 'sentinellaw32.ImproveOrder': WHATEVER THE INPUT: true; the input reads as it did. -/
def improveOrderSpec : ChangeSpec := { name := "improveOrder", fn := fun _ => fun
  | [d1, d2, d3, d4] => { results := [.lit (.bool true)], args := [d1, d2, d3, d4] }
  | _ => none }
def improveOrderRow : OpenClaim := { program := "ytgapkfaikhlipaa", sum := "210ec568d26ed437ba313b3af6b7c31798bba1288a6adf9758369f47044c751d", func := "sentinel/sentinellaw32.ImproveOrder", spec := "improveOrder", unfollowed := true, recurses := true, apart := false }
def ImproveOrderSaid : Prop := improveOrderRow.holds Try.pinned (OpenSpec.ofChange improveOrderSpec)

/-- ITS FALSE NEIGHBOUR: 'it returns false'. Refute it at one input. -/
def improveOrderWrong : ChangeSpec := { name := "improveOrder", fn := fun _ => fun
  | [d1, d2, d3, d4] => { results := [.lit (.bool false)], args := [d1, d2, d3, d4] }
  | _ => none }
def ImproveOrderWrongFalsely : Prop := improveOrderRow.holds Try.pinned (OpenSpec.ofChange improveOrderWrong)

/-- 'sentinellaw32.ImproveExamples': WHATEVER THE INPUT: true; the input reads as it did. -/
def improveExamplesSpec : ChangeSpec := { name := "improveExamples", fn := fun _ => fun
  | [] => { results := [.lit (.bool true)], args := [] }
  | _ => none }
def improveExamplesRow : OpenClaim := { program := "ytgapkfaikhlipaa", sum := "210ec568d26ed437ba313b3af6b7c31798bba1288a6adf9758369f47044c751d", func := "sentinel/sentinellaw32.ImproveExamples", spec := "improveExamples", unfollowed := true, recurses := true, apart := false }
def ImproveExamplesSaid : Prop := improveExamplesRow.holds Try.pinned (OpenSpec.ofChange improveExamplesSpec)

/-- ITS FALSE NEIGHBOUR: 'it returns false'. Refute it at one input. -/
def improveExamplesWrong : ChangeSpec := { name := "improveExamples", fn := fun _ => fun
  | [] => { results := [.lit (.bool false)], args := [] }
  | _ => none }
def ImproveExamplesWrongFalsely : Prop := improveExamplesRow.holds Try.pinned (OpenSpec.ofChange improveExamplesWrong)

/-- 'sentinellaw32.ImproveMonotone': WHATEVER THE INPUT: true; the input reads as it did. -/
def improveMonotoneSpec : ChangeSpec := { name := "improveMonotone", fn := fun _ => fun
  | [d1, d2, d3, d4] => { results := [.lit (.bool true)], args := [d1, d2, d3, d4] }
  | _ => none }
def improveMonotoneRow : OpenClaim := { program := "ytgapkfaikhlipaa", sum := "210ec568d26ed437ba313b3af6b7c31798bba1288a6adf9758369f47044c751d", func := "sentinel/sentinellaw32.ImproveMonotone", spec := "improveMonotone", unfollowed := true, recurses := true, apart := false }
def ImproveMonotoneSaid : Prop := improveMonotoneRow.holds Try.pinned (OpenSpec.ofChange improveMonotoneSpec)

/-- ITS FALSE NEIGHBOUR: 'it returns false'. Refute it at one input. -/
def improveMonotoneWrong : ChangeSpec := { name := "improveMonotone", fn := fun _ => fun
  | [d1, d2, d3, d4] => { results := [.lit (.bool false)], args := [d1, d2, d3, d4] }
  | _ => none }
def ImproveMonotoneWrongFalsely : Prop := improveMonotoneRow.holds Try.pinned (OpenSpec.ofChange improveMonotoneWrong)

/-- 'sentinellaw32.ImproveSolve': WHATEVER THE INPUT: true; the input reads as it did. -/
def improveSolveSpec : ChangeSpec := { name := "improveSolve", fn := fun _ => fun
  | [d] => { results := [.lit (.bool true)], args := [d] }
  | _ => none }
def improveSolveRow : OpenClaim := { program := "ytgapkfaikhlipaa", sum := "210ec568d26ed437ba313b3af6b7c31798bba1288a6adf9758369f47044c751d", func := "sentinel/sentinellaw32.ImproveSolve", spec := "improveSolve", unfollowed := true, recurses := true, apart := false }
def ImproveSolveSaid : Prop := improveSolveRow.holds Try.pinned (OpenSpec.ofChange improveSolveSpec)

/-- ITS FALSE NEIGHBOUR: 'it returns false'. Refute it at one input. -/
def improveSolveWrong : ChangeSpec := { name := "improveSolve", fn := fun _ => fun
  | [d] => { results := [.lit (.bool false)], args := [d] }
  | _ => none }
def ImproveSolveWrongFalsely : Prop := improveSolveRow.holds Try.pinned (OpenSpec.ofChange improveSolveWrong)

/- THE SECOND FORM. 'bulk': how many values and letters a reading holds, each counted each time it is reached (what is shared counts as often as it is met; a slice's spare places count too). A statement '..UptoSaid' is the law's where the arguments, and the package variables that the reading takes, are together of bulk at most 1048576: NARROWER than '..Said'. Prove '..Said' where nothing that the law and all that it calls make is longer than what came in: it says more and counts as full. Else prove '..UptoSaid'. A law counts once. -/
mutual
def uptoBulk {H : Type} : DataW H → Nat
  | .lit (.string bytes) => bytes.length + 1
  | .lit _ => 1
  | .nil => 1
  | .ptr d => uptoBulk d + 1
  | .slice elems spare => uptoBulkAll elems + uptoBulkAll spare + 1
  | .agg parts => uptoBulkAll parts + 1
  | .iface _ d => uptoBulk d + 1
  | .map entries => uptoBulkEntries entries + 1
  | .held _ => 1
def uptoBulkAll {H : Type} : List (DataW H) → Nat
  | [] => 0
  | d :: r => uptoBulk d + uptoBulkAll r
def uptoBulkEntries {H : Type} : List (Lit × DataW H) → Nat
  | [] => 0
  | x :: r => uptoBulkEntry x + uptoBulkEntries r
def uptoBulkEntry {H : Type} : Lit × DataW H → Nat
  | (.string bytes, d) => bytes.length + uptoBulk d + 1
  | (_, d) => uptoBulk d + 1
 end
def uptoSmall : (H : Type) → List (DataW H) → Bool := fun _ ds => decide (uptoBulkAll ds ≤ 1048576)
def OpenSpec.upto (s : _root_.Go.ChangeSpec) : _root_.Go.OpenSpec := { _root_.Go.OpenSpec.ofChange s with cond := some uptoSmall }

/-- 'sentinellaw32.ImproveValuationMatches', WHERE WHAT IT READS IS OF BULK AT MOST 1048576: true; the input reads as it did. -/
def improveValuationMatchesUptoRow : OpenClaim := { program := "ytgapkfaikhlipaa", sum := "210ec568d26ed437ba313b3af6b7c31798bba1288a6adf9758369f47044c751d", func := "sentinel/sentinellaw32.ImproveValuationMatches", spec := "improveValuationMatches", unfollowed := true, recurses := true, apart := false, narrowed := true }
def ImproveValuationMatchesUptoSaid : Prop := improveValuationMatchesUptoRow.holds Try.pinned (OpenSpec.upto improveValuationMatchesSpec)

/-- 'sentinellaw32.ImproveMatches', WHERE WHAT IT READS IS OF BULK AT MOST 1048576: true; the input reads as it did. -/
def improveMatchesUptoRow : OpenClaim := { program := "ytgapkfaikhlipaa", sum := "210ec568d26ed437ba313b3af6b7c31798bba1288a6adf9758369f47044c751d", func := "sentinel/sentinellaw32.ImproveMatches", spec := "improveMatches", unfollowed := true, recurses := true, apart := false, narrowed := true }
def ImproveMatchesUptoSaid : Prop := improveMatchesUptoRow.holds Try.pinned (OpenSpec.upto improveMatchesSpec)

/-- 'sentinellaw32.ImproveBounds', WHERE WHAT IT READS IS OF BULK AT MOST 1048576: true; the input reads as it did. -/
def improveBoundsUptoRow : OpenClaim := { program := "ytgapkfaikhlipaa", sum := "210ec568d26ed437ba313b3af6b7c31798bba1288a6adf9758369f47044c751d", func := "sentinel/sentinellaw32.ImproveBounds", spec := "improveBounds", unfollowed := true, recurses := true, apart := false, narrowed := true }
def ImproveBoundsUptoSaid : Prop := improveBoundsUptoRow.holds Try.pinned (OpenSpec.upto improveBoundsSpec)

/-- 'sentinellaw32.ImproveOrder', WHERE WHAT IT READS IS OF BULK AT MOST 1048576: true; the input reads as it did. -/
def improveOrderUptoRow : OpenClaim := { program := "ytgapkfaikhlipaa", sum := "210ec568d26ed437ba313b3af6b7c31798bba1288a6adf9758369f47044c751d", func := "sentinel/sentinellaw32.ImproveOrder", spec := "improveOrder", unfollowed := true, recurses := true, apart := false, narrowed := true }
def ImproveOrderUptoSaid : Prop := improveOrderUptoRow.holds Try.pinned (OpenSpec.upto improveOrderSpec)

/-- 'sentinellaw32.ImproveExamples', WHERE WHAT IT READS IS OF BULK AT MOST 1048576: true; the input reads as it did. -/
def improveExamplesUptoRow : OpenClaim := { program := "ytgapkfaikhlipaa", sum := "210ec568d26ed437ba313b3af6b7c31798bba1288a6adf9758369f47044c751d", func := "sentinel/sentinellaw32.ImproveExamples", spec := "improveExamples", unfollowed := true, recurses := true, apart := false, narrowed := true }
def ImproveExamplesUptoSaid : Prop := improveExamplesUptoRow.holds Try.pinned (OpenSpec.upto improveExamplesSpec)

/-- 'sentinellaw32.ImproveMonotone', WHERE WHAT IT READS IS OF BULK AT MOST 1048576: true; the input reads as it did. -/
def improveMonotoneUptoRow : OpenClaim := { program := "ytgapkfaikhlipaa", sum := "210ec568d26ed437ba313b3af6b7c31798bba1288a6adf9758369f47044c751d", func := "sentinel/sentinellaw32.ImproveMonotone", spec := "improveMonotone", unfollowed := true, recurses := true, apart := false, narrowed := true }
def ImproveMonotoneUptoSaid : Prop := improveMonotoneUptoRow.holds Try.pinned (OpenSpec.upto improveMonotoneSpec)

/-- 'sentinellaw32.ImproveSolve', WHERE WHAT IT READS IS OF BULK AT MOST 1048576: true; the input reads as it did. -/
def improveSolveUptoRow : OpenClaim := { program := "ytgapkfaikhlipaa", sum := "210ec568d26ed437ba313b3af6b7c31798bba1288a6adf9758369f47044c751d", func := "sentinel/sentinellaw32.ImproveSolve", spec := "improveSolve", unfollowed := true, recurses := true, apart := false, narrowed := true }
def ImproveSolveUptoSaid : Prop := improveSolveUptoRow.holds Try.pinned (OpenSpec.upto improveSolveSpec)

end Rows
end Go.Proofs.Ytgapkfaikhlipaa
