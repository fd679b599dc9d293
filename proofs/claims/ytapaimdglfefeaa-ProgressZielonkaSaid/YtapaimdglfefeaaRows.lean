/-
  No cell of these rows narrows 'for every input' (looked for: loops, veiled, ifaces, maps, wideKeys, modest, calm, conditions, laid).
  DERIVED. THE GIVEN ROWS OF THIS SEAT. 6 by the template 'for every input the law returns true; each argument reads behind the call as it read before'; 0 by the template 'total and deterministic' (their statements: YtapaimdglfefeaaTotals.lean).
  GIVEN WITH THE SEED: the statements are not yours to turn. If you find one false, say at which input.
  Laid BY PROGRAM, IN A SANDBOX (cutbox-rows.mjs): the forced cells as the released guide's own fill.sh prints them over the translation 1fcd37d83287c6dc… (all of the seat's roots in one cut). By AI agents, Wed Nov 11 2026. No macro, syntax, notation, axiom, sorry.
-/
import Derived.Test.YtapaimdglfefeaaChecked
import GoSem.Claim
import GoSem.ClaimJoined
import GoSem.ClaimMapViews
import Derived.JoinedTies
import Derived.KernelRfl
namespace Go.Proofs.Ytapaimdglfefeaa
/- THE CELL 'sum', in the pinned program and in every row, IS THE sha256 OF THE DUMP (.gsa) THAT YtapaimdglfefeaaProg.lean LOADS. Nothing in Lean hashes anything: it is a label: what it is worth is what the hold of that sum in a sandbox is worth. -/
noncomputable def Try.pinned : Pinned := { name := "ytapaimdglfefeaa", sum := "1fcd37d83287c6dc1864a25ff594ae9bb57a7998f1ca92d31d483316a33210c4", checked := Try.checked }
namespace Rows
def none {H : Type} : Left H := { results := [], args := [] }

/-- 'sentinellaw31.ProgressAfter': WHATEVER THE INPUT: true; the input reads as it did. -/
def progressAfterSpec : ChangeSpec := { name := "progressAfter", fn := fun _ => fun
  | [d1, d2] => { results := [.lit (.bool true)], args := [d1, d2] }
  | _ => none }
def progressAfterRow : OpenClaim := { program := "ytapaimdglfefeaa", sum := "1fcd37d83287c6dc1864a25ff594ae9bb57a7998f1ca92d31d483316a33210c4", func := "sentinel/sentinellaw31.ProgressAfter", spec := "progressAfter", unfollowed := true, recurses := true, apart := false }
def ProgressAfterSaid : Prop := progressAfterRow.holds Try.pinned (OpenSpec.ofChange progressAfterSpec)

/-- ITS FALSE NEIGHBOUR: 'it returns false'. Refute it at one input. -/
def progressAfterWrong : ChangeSpec := { name := "progressAfter", fn := fun _ => fun
  | [d1, d2] => { results := [.lit (.bool false)], args := [d1, d2] }
  | _ => none }
def ProgressAfterWrongFalsely : Prop := progressAfterRow.holds Try.pinned (OpenSpec.ofChange progressAfterWrong)

/-- 'sentinellaw31.ProgressMatches': WHATEVER THE INPUT: true; the input reads as it did. -/
def progressMatchesSpec : ChangeSpec := { name := "progressMatches", fn := fun _ => fun
  | [d1, d2] => { results := [.lit (.bool true)], args := [d1, d2] }
  | _ => none }
def progressMatchesRow : OpenClaim := { program := "ytapaimdglfefeaa", sum := "1fcd37d83287c6dc1864a25ff594ae9bb57a7998f1ca92d31d483316a33210c4", func := "sentinel/sentinellaw31.ProgressMatches", spec := "progressMatches", unfollowed := true, recurses := true, apart := false }
def ProgressMatchesSaid : Prop := progressMatchesRow.holds Try.pinned (OpenSpec.ofChange progressMatchesSpec)

/-- ITS FALSE NEIGHBOUR: 'it returns false'. Refute it at one input. -/
def progressMatchesWrong : ChangeSpec := { name := "progressMatches", fn := fun _ => fun
  | [d1, d2] => { results := [.lit (.bool false)], args := [d1, d2] }
  | _ => none }
def ProgressMatchesWrongFalsely : Prop := progressMatchesRow.holds Try.pinned (OpenSpec.ofChange progressMatchesWrong)

/-- 'sentinellaw31.ProgressLift': WHATEVER THE INPUT: true; the input reads as it did. -/
def progressLiftSpec : ChangeSpec := { name := "progressLift", fn := fun _ => fun
  | [d1, d2, d3] => { results := [.lit (.bool true)], args := [d1, d2, d3] }
  | _ => none }
def progressLiftRow : OpenClaim := { program := "ytapaimdglfefeaa", sum := "1fcd37d83287c6dc1864a25ff594ae9bb57a7998f1ca92d31d483316a33210c4", func := "sentinel/sentinellaw31.ProgressLift", spec := "progressLift", unfollowed := true, recurses := true, apart := false }
def ProgressLiftSaid : Prop := progressLiftRow.holds Try.pinned (OpenSpec.ofChange progressLiftSpec)

/-- ITS FALSE NEIGHBOUR: 'it returns false'. Refute it at one input. -/
def progressLiftWrong : ChangeSpec := { name := "progressLift", fn := fun _ => fun
  | [d1, d2, d3] => { results := [.lit (.bool false)], args := [d1, d2, d3] }
  | _ => none }
def ProgressLiftWrongFalsely : Prop := progressLiftRow.holds Try.pinned (OpenSpec.ofChange progressLiftWrong)

/-- 'sentinellaw31.ProgressLeast': WHATEVER THE INPUT: true; the input reads as it did. -/
def progressLeastSpec : ChangeSpec := { name := "progressLeast", fn := fun _ => fun
  | [d1, d2] => { results := [.lit (.bool true)], args := [d1, d2] }
  | _ => none }
def progressLeastRow : OpenClaim := { program := "ytapaimdglfefeaa", sum := "1fcd37d83287c6dc1864a25ff594ae9bb57a7998f1ca92d31d483316a33210c4", func := "sentinel/sentinellaw31.ProgressLeast", spec := "progressLeast", unfollowed := true, recurses := true, apart := false }
def ProgressLeastSaid : Prop := progressLeastRow.holds Try.pinned (OpenSpec.ofChange progressLeastSpec)

/-- ITS FALSE NEIGHBOUR: 'it returns false'. Refute it at one input. -/
def progressLeastWrong : ChangeSpec := { name := "progressLeast", fn := fun _ => fun
  | [d1, d2] => { results := [.lit (.bool false)], args := [d1, d2] }
  | _ => none }
def ProgressLeastWrongFalsely : Prop := progressLeastRow.holds Try.pinned (OpenSpec.ofChange progressLeastWrong)

/-- 'sentinellaw31.ProgressClosed': WHATEVER THE INPUT: true; the input reads as it did. -/
def progressClosedSpec : ChangeSpec := { name := "progressClosed", fn := fun _ => fun
  | [d1, d2] => { results := [.lit (.bool true)], args := [d1, d2] }
  | _ => none }
def progressClosedRow : OpenClaim := { program := "ytapaimdglfefeaa", sum := "1fcd37d83287c6dc1864a25ff594ae9bb57a7998f1ca92d31d483316a33210c4", func := "sentinel/sentinellaw31.ProgressClosed", spec := "progressClosed", unfollowed := true, recurses := true, apart := false }
def ProgressClosedSaid : Prop := progressClosedRow.holds Try.pinned (OpenSpec.ofChange progressClosedSpec)

/-- ITS FALSE NEIGHBOUR: 'it returns false'. Refute it at one input. -/
def progressClosedWrong : ChangeSpec := { name := "progressClosed", fn := fun _ => fun
  | [d1, d2] => { results := [.lit (.bool false)], args := [d1, d2] }
  | _ => none }
def ProgressClosedWrongFalsely : Prop := progressClosedRow.holds Try.pinned (OpenSpec.ofChange progressClosedWrong)

/-- 'sentinellaw31.ProgressZielonka': WHATEVER THE INPUT: true; the input reads as it did. -/
def progressZielonkaSpec : ChangeSpec := { name := "progressZielonka", fn := fun _ => fun
  | [d] => { results := [.lit (.bool true)], args := [d] }
  | _ => none }
def progressZielonkaRow : OpenClaim := { program := "ytapaimdglfefeaa", sum := "1fcd37d83287c6dc1864a25ff594ae9bb57a7998f1ca92d31d483316a33210c4", func := "sentinel/sentinellaw31.ProgressZielonka", spec := "progressZielonka", unfollowed := true, recurses := true, apart := false }
def ProgressZielonkaSaid : Prop := progressZielonkaRow.holds Try.pinned (OpenSpec.ofChange progressZielonkaSpec)

/-- ITS FALSE NEIGHBOUR: 'it returns false'. Refute it at one input. -/
def progressZielonkaWrong : ChangeSpec := { name := "progressZielonka", fn := fun _ => fun
  | [d] => { results := [.lit (.bool false)], args := [d] }
  | _ => none }
def ProgressZielonkaWrongFalsely : Prop := progressZielonkaRow.holds Try.pinned (OpenSpec.ofChange progressZielonkaWrong)

/- THE SECOND FORM. 'bulk': how many values and letters a reading holds, each counted each time it is reached (what is shared counts as often as it is met; a slice's spare places count too). A statement '..UptoSaid' is the law's where the arguments, and the package variables that the reading takes, are together of bulk at most 1048576: NARROWER than '..Said'. Prove '..Said' where nothing that the law and all that it calls make is longer than what came in: it says more and counts as full. Else prove '..UptoSaid'. A law counts once. -/
mutual
def uptoBulk {H : Type} : DataW H → Nat
  | .lit (.string bytes) => bytes.length + 1
  | .lit _ => 1
  | .nil => 1
  | .ptr d => uptoBulk d + 1
  | .slice elems spare => uptoBulkAll elems + uptoBulkAll spare + 1
  | .agg parts => uptoBulkAll parts + 1
  | .iface _ d => uptoBulk d + 1
  | .map entries => uptoBulkEntries entries + 1
  | .held _ => 1
def uptoBulkAll {H : Type} : List (DataW H) → Nat
  | [] => 0
  | d :: r => uptoBulk d + uptoBulkAll r
def uptoBulkEntries {H : Type} : List (Lit × DataW H) → Nat
  | [] => 0
  | x :: r => uptoBulkEntry x + uptoBulkEntries r
def uptoBulkEntry {H : Type} : Lit × DataW H → Nat
  | (.string bytes, d) => bytes.length + uptoBulk d + 1
  | (_, d) => uptoBulk d + 1
 end
def uptoSmall : (H : Type) → List (DataW H) → Bool := fun _ ds => decide (uptoBulkAll ds ≤ 1048576)
def OpenSpec.upto (s : _root_.Go.ChangeSpec) : _root_.Go.OpenSpec := { _root_.Go.OpenSpec.ofChange s with cond := some uptoSmall }

/-- 'sentinellaw31.ProgressAfter', WHERE WHAT IT READS IS OF BULK AT MOST 1048576: true; the input reads as it did. -/
def progressAfterUptoRow : OpenClaim := { program := "ytapaimdglfefeaa", sum := "1fcd37d83287c6dc1864a25ff594ae9bb57a7998f1ca92d31d483316a33210c4", func := "sentinel/sentinellaw31.ProgressAfter", spec := "progressAfter", unfollowed := true, recurses := true, apart := false, narrowed := true }
def ProgressAfterUptoSaid : Prop := progressAfterUptoRow.holds Try.pinned (OpenSpec.upto progressAfterSpec)

/-- 'sentinellaw31.ProgressMatches', WHERE WHAT IT READS IS OF BULK AT MOST 1048576: true; the input reads as it did. -/
def progressMatchesUptoRow : OpenClaim := { program := "ytapaimdglfefeaa", sum := "1fcd37d83287c6dc1864a25ff594ae9bb57a7998f1ca92d31d483316a33210c4", func := "sentinel/sentinellaw31.ProgressMatches", spec := "progressMatches", unfollowed := true, recurses := true, apart := false, narrowed := true }
def ProgressMatchesUptoSaid : Prop := progressMatchesUptoRow.holds Try.pinned (OpenSpec.upto progressMatchesSpec)

/-- 'sentinellaw31.ProgressLift', WHERE WHAT IT READS IS OF BULK AT MOST 1048576: true; the input reads as it did. -/
def progressLiftUptoRow : OpenClaim := { program := "ytapaimdglfefeaa", sum := "1fcd37d83287c6dc1864a25ff594ae9bb57a7998f1ca92d31d483316a33210c4", func := "sentinel/sentinellaw31.ProgressLift", spec := "progressLift", unfollowed := true, recurses := true, apart := false, narrowed := true }
def ProgressLiftUptoSaid : Prop := progressLiftUptoRow.holds Try.pinned (OpenSpec.upto progressLiftSpec)

/-- 'sentinellaw31.ProgressLeast', WHERE WHAT IT READS IS OF BULK AT MOST 1048576: true; the input reads as it did. -/
def progressLeastUptoRow : OpenClaim := { program := "ytapaimdglfefeaa", sum := "1fcd37d83287c6dc1864a25ff594ae9bb57a7998f1ca92d31d483316a33210c4", func := "sentinel/sentinellaw31.ProgressLeast", spec := "progressLeast", unfollowed := true, recurses := true, apart := false, narrowed := true }
def ProgressLeastUptoSaid : Prop := progressLeastUptoRow.holds Try.pinned (OpenSpec.upto progressLeastSpec)

/-- 'sentinellaw31.ProgressClosed', WHERE WHAT IT READS IS OF BULK AT MOST 1048576: true; the input reads as it did. -/
def progressClosedUptoRow : OpenClaim := { program := "ytapaimdglfefeaa", sum := "1fcd37d83287c6dc1864a25ff594ae9bb57a7998f1ca92d31d483316a33210c4", func := "sentinel/sentinellaw31.ProgressClosed", spec := "progressClosed", unfollowed := true, recurses := true, apart := false, narrowed := true }
def ProgressClosedUptoSaid : Prop := progressClosedUptoRow.holds Try.pinned (OpenSpec.upto progressClosedSpec)

/-- 'sentinellaw31.ProgressZielonka', WHERE WHAT IT READS IS OF BULK AT MOST 1048576: true; the input reads as it did. -/
def progressZielonkaUptoRow : OpenClaim := { program := "ytapaimdglfefeaa", sum := "1fcd37d83287c6dc1864a25ff594ae9bb57a7998f1ca92d31d483316a33210c4", func := "sentinel/sentinellaw31.ProgressZielonka", spec := "progressZielonka", unfollowed := true, recurses := true, apart := false, narrowed := true }
def ProgressZielonkaUptoSaid : Prop := progressZielonkaUptoRow.holds Try.pinned (OpenSpec.upto progressZielonkaSpec)

end Rows
end Go.Proofs.Ytapaimdglfefeaa
