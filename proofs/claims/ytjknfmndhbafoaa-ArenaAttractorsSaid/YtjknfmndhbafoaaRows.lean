/-
  No cell of these rows narrows 'for every input' (looked for: loops, veiled, ifaces, maps, wideKeys, modest, calm, conditions, laid).
  DERIVED. THE GIVEN ROWS OF THIS SEAT. 6 by the template 'for every input the law returns true; each argument reads behind the call as it read before'; 0 by the template 'total and deterministic' (their statements: YtjknfmndhbafoaaTotals.lean).
  GIVEN WITH THE SEED: the statements are not yours to turn. If you find one false, say at which input.
  Laid BY PROGRAM, IN A SANDBOX (cutbox-rows.mjs): the forced cells as the released guide's own fill.sh prints them over the translation aa814be2aa83339f… (all of the seat's roots in one cut). By AI agents, Wed Nov 11 2026. No macro, syntax, notation, axiom, sorry.
-/
import Derived.Test.YtjknfmndhbafoaaChecked
import GoSem.Claim
import GoSem.ClaimJoined
import GoSem.ClaimMapViews
import Derived.JoinedTies
import Derived.KernelRfl
namespace Go.Proofs.Ytjknfmndhbafoaa
/- THE CELL 'sum', in the pinned program and in every row, IS THE sha256 OF THE DUMP (.gsa) THAT YtjknfmndhbafoaaProg.lean LOADS. Nothing in Lean hashes anything: it is a label: what it is worth is what the hold of that sum in a sandbox is worth. -/
noncomputable def Try.pinned : Pinned := { name := "ytjknfmndhbafoaa", sum := "aa814be2aa83339f503e8ae25b7128f76564814fb8ef421fc246cbe5022cc52f", checked := Try.checked }
namespace Rows
def none {H : Type} : Left H := { results := [], args := [] }

/-- 'sentinellaw29.ArenaMatches': WHATEVER THE INPUT: true; the input reads as it did. -/
def arenaMatchesSpec : ChangeSpec := { name := "arenaMatches", fn := fun _ => fun
  | [d1, d2, d3] => { results := [.lit (.bool true)], args := [d1, d2, d3] }
  | _ => none }
def arenaMatchesRow : OpenClaim := { program := "ytjknfmndhbafoaa", sum := "aa814be2aa83339f503e8ae25b7128f76564814fb8ef421fc246cbe5022cc52f", func := "sentinel/sentinellaw29.ArenaMatches", spec := "arenaMatches", unfollowed := true, recurses := true, apart := false }
def ArenaMatchesSaid : Prop := arenaMatchesRow.holds Try.pinned (OpenSpec.ofChange arenaMatchesSpec)

/-- ITS FALSE NEIGHBOUR: 'it returns false'. Refute it at one input. -/
def arenaMatchesWrong : ChangeSpec := { name := "arenaMatches", fn := fun _ => fun
  | [d1, d2, d3] => { results := [.lit (.bool false)], args := [d1, d2, d3] }
  | _ => none }
def ArenaMatchesWrongFalsely : Prop := arenaMatchesRow.holds Try.pinned (OpenSpec.ofChange arenaMatchesWrong)

/-- 'sentinellaw29.ArenaReaches': WHATEVER THE INPUT: true; the input reads as it did. -/
def arenaReachesSpec : ChangeSpec := { name := "arenaReaches", fn := fun _ => fun
  | [d1, d2, d3, d4, d5] => { results := [.lit (.bool true)], args := [d1, d2, d3, d4, d5] }
  | _ => none }
def arenaReachesRow : OpenClaim := { program := "ytjknfmndhbafoaa", sum := "aa814be2aa83339f503e8ae25b7128f76564814fb8ef421fc246cbe5022cc52f", func := "sentinel/sentinellaw29.ArenaReaches", spec := "arenaReaches", unfollowed := true, recurses := true, apart := false }
def ArenaReachesSaid : Prop := arenaReachesRow.holds Try.pinned (OpenSpec.ofChange arenaReachesSpec)

/-- ITS FALSE NEIGHBOUR: 'it returns false'. Refute it at one input. -/
def arenaReachesWrong : ChangeSpec := { name := "arenaReaches", fn := fun _ => fun
  | [d1, d2, d3, d4, d5] => { results := [.lit (.bool false)], args := [d1, d2, d3, d4, d5] }
  | _ => none }
def ArenaReachesWrongFalsely : Prop := arenaReachesRow.holds Try.pinned (OpenSpec.ofChange arenaReachesWrong)

/-- 'sentinellaw29.ArenaMonotone': WHATEVER THE INPUT: true; the input reads as it did. -/
def arenaMonotoneSpec : ChangeSpec := { name := "arenaMonotone", fn := fun _ => fun
  | [d1, d2, d3, d4] => { results := [.lit (.bool true)], args := [d1, d2, d3, d4] }
  | _ => none }
def arenaMonotoneRow : OpenClaim := { program := "ytjknfmndhbafoaa", sum := "aa814be2aa83339f503e8ae25b7128f76564814fb8ef421fc246cbe5022cc52f", func := "sentinel/sentinellaw29.ArenaMonotone", spec := "arenaMonotone", unfollowed := true, recurses := true, apart := false }
def ArenaMonotoneSaid : Prop := arenaMonotoneRow.holds Try.pinned (OpenSpec.ofChange arenaMonotoneSpec)

/-- ITS FALSE NEIGHBOUR: 'it returns false'. Refute it at one input. -/
def arenaMonotoneWrong : ChangeSpec := { name := "arenaMonotone", fn := fun _ => fun
  | [d1, d2, d3, d4] => { results := [.lit (.bool false)], args := [d1, d2, d3, d4] }
  | _ => none }
def ArenaMonotoneWrongFalsely : Prop := arenaMonotoneRow.holds Try.pinned (OpenSpec.ofChange arenaMonotoneWrong)

/-- 'sentinellaw29.ArenaDual': WHATEVER THE INPUT: true; the input reads as it did. -/
def arenaDualSpec : ChangeSpec := { name := "arenaDual", fn := fun _ => fun
  | [d1, d2, d3, d4, d5] => { results := [.lit (.bool true)], args := [d1, d2, d3, d4, d5] }
  | _ => none }
def arenaDualRow : OpenClaim := { program := "ytjknfmndhbafoaa", sum := "aa814be2aa83339f503e8ae25b7128f76564814fb8ef421fc246cbe5022cc52f", func := "sentinel/sentinellaw29.ArenaDual", spec := "arenaDual", unfollowed := true, recurses := true, apart := false }
def ArenaDualSaid : Prop := arenaDualRow.holds Try.pinned (OpenSpec.ofChange arenaDualSpec)

/-- ITS FALSE NEIGHBOUR: 'it returns false'. Refute it at one input. -/
def arenaDualWrong : ChangeSpec := { name := "arenaDual", fn := fun _ => fun
  | [d1, d2, d3, d4, d5] => { results := [.lit (.bool false)], args := [d1, d2, d3, d4, d5] }
  | _ => none }
def ArenaDualWrongFalsely : Prop := arenaDualRow.holds Try.pinned (OpenSpec.ofChange arenaDualWrong)

/-- 'sentinellaw29.ArenaAttractors': WHATEVER THE INPUT: true; the input reads as it did. -/
def arenaAttractorsSpec : ChangeSpec := { name := "arenaAttractors", fn := fun _ => fun
  | [d1, d2, d3] => { results := [.lit (.bool true)], args := [d1, d2, d3] }
  | _ => none }
def arenaAttractorsRow : OpenClaim := { program := "ytjknfmndhbafoaa", sum := "aa814be2aa83339f503e8ae25b7128f76564814fb8ef421fc246cbe5022cc52f", func := "sentinel/sentinellaw29.ArenaAttractors", spec := "arenaAttractors", unfollowed := true, recurses := true, apart := false }
def ArenaAttractorsSaid : Prop := arenaAttractorsRow.holds Try.pinned (OpenSpec.ofChange arenaAttractorsSpec)

/-- ITS FALSE NEIGHBOUR: 'it returns false'. Refute it at one input. -/
def arenaAttractorsWrong : ChangeSpec := { name := "arenaAttractors", fn := fun _ => fun
  | [d1, d2, d3] => { results := [.lit (.bool false)], args := [d1, d2, d3] }
  | _ => none }
def ArenaAttractorsWrongFalsely : Prop := arenaAttractorsRow.holds Try.pinned (OpenSpec.ofChange arenaAttractorsWrong)

/-- 'sentinellaw29.ArenaGamesMatch': WHATEVER THE INPUT: true; the input reads as it did. -/
def arenaGamesMatchSpec : ChangeSpec := { name := "arenaGamesMatch", fn := fun _ => fun
  | [d1, d2] => { results := [.lit (.bool true)], args := [d1, d2] }
  | _ => none }
def arenaGamesMatchRow : OpenClaim := { program := "ytjknfmndhbafoaa", sum := "aa814be2aa83339f503e8ae25b7128f76564814fb8ef421fc246cbe5022cc52f", func := "sentinel/sentinellaw29.ArenaGamesMatch", spec := "arenaGamesMatch", unfollowed := true, recurses := true, apart := false }
def ArenaGamesMatchSaid : Prop := arenaGamesMatchRow.holds Try.pinned (OpenSpec.ofChange arenaGamesMatchSpec)

/-- ITS FALSE NEIGHBOUR: 'it returns false'. Refute it at one input. -/
def arenaGamesMatchWrong : ChangeSpec := { name := "arenaGamesMatch", fn := fun _ => fun
  | [d1, d2] => { results := [.lit (.bool false)], args := [d1, d2] }
  | _ => none }
def ArenaGamesMatchWrongFalsely : Prop := arenaGamesMatchRow.holds Try.pinned (OpenSpec.ofChange arenaGamesMatchWrong)

/- THE SECOND FORM. 'bulk': how many values and letters a reading holds, each counted each time it is reached (what is shared counts as often as it is met; a slice's spare places count too). A statement '..UptoSaid' is the law's where the arguments, and the package variables that the reading takes, are together of bulk at most 1048576: NARROWER than '..Said'. Prove '..Said' where nothing that the law and all that it calls make is longer than what came in: it says more and counts as full. Else prove '..UptoSaid'. A law counts once. -/
mutual
def uptoBulk {H : Type} : DataW H → Nat
  | .lit (.string bytes) => bytes.length + 1
  | .lit _ => 1
  | .nil => 1
  | .ptr d => uptoBulk d + 1
  | .slice elems spare => uptoBulkAll elems + uptoBulkAll spare + 1
  | .agg parts => uptoBulkAll parts + 1
  | .iface _ d => uptoBulk d + 1
  | .map entries => uptoBulkEntries entries + 1
  | .held _ => 1
def uptoBulkAll {H : Type} : List (DataW H) → Nat
  | [] => 0
  | d :: r => uptoBulk d + uptoBulkAll r
def uptoBulkEntries {H : Type} : List (Lit × DataW H) → Nat
  | [] => 0
  | x :: r => uptoBulkEntry x + uptoBulkEntries r
def uptoBulkEntry {H : Type} : Lit × DataW H → Nat
  | (.string bytes, d) => bytes.length + uptoBulk d + 1
  | (_, d) => uptoBulk d + 1
 end
def uptoSmall : (H : Type) → List (DataW H) → Bool := fun _ ds => decide (uptoBulkAll ds ≤ 1048576)
def OpenSpec.upto (s : _root_.Go.ChangeSpec) : _root_.Go.OpenSpec := { _root_.Go.OpenSpec.ofChange s with cond := some uptoSmall }

/-- 'sentinellaw29.ArenaMatches', WHERE WHAT IT READS IS OF BULK AT MOST 1048576: true; the input reads as it did. -/
def arenaMatchesUptoRow : OpenClaim := { program := "ytjknfmndhbafoaa", sum := "aa814be2aa83339f503e8ae25b7128f76564814fb8ef421fc246cbe5022cc52f", func := "sentinel/sentinellaw29.ArenaMatches", spec := "arenaMatches", unfollowed := true, recurses := true, apart := false, narrowed := true }
def ArenaMatchesUptoSaid : Prop := arenaMatchesUptoRow.holds Try.pinned (OpenSpec.upto arenaMatchesSpec)

/-- 'sentinellaw29.ArenaReaches', WHERE WHAT IT READS IS OF BULK AT MOST 1048576: true; the input reads as it did. -/
def arenaReachesUptoRow : OpenClaim := { program := "ytjknfmndhbafoaa", sum := "aa814be2aa83339f503e8ae25b7128f76564814fb8ef421fc246cbe5022cc52f", func := "sentinel/sentinellaw29.ArenaReaches", spec := "arenaReaches", unfollowed := true, recurses := true, apart := false, narrowed := true }
def ArenaReachesUptoSaid : Prop := arenaReachesUptoRow.holds Try.pinned (OpenSpec.upto arenaReachesSpec)

/-- 'sentinellaw29.ArenaMonotone', WHERE WHAT IT READS IS OF BULK AT MOST 1048576: true; the input reads as it did. -/
def arenaMonotoneUptoRow : OpenClaim := { program := "ytjknfmndhbafoaa", sum := "aa814be2aa83339f503e8ae25b7128f76564814fb8ef421fc246cbe5022cc52f", func := "sentinel/sentinellaw29.ArenaMonotone", spec := "arenaMonotone", unfollowed := true, recurses := true, apart := false, narrowed := true }
def ArenaMonotoneUptoSaid : Prop := arenaMonotoneUptoRow.holds Try.pinned (OpenSpec.upto arenaMonotoneSpec)

/-- 'sentinellaw29.ArenaDual', WHERE WHAT IT READS IS OF BULK AT MOST 1048576: true; the input reads as it did. -/
def arenaDualUptoRow : OpenClaim := { program := "ytjknfmndhbafoaa", sum := "aa814be2aa83339f503e8ae25b7128f76564814fb8ef421fc246cbe5022cc52f", func := "sentinel/sentinellaw29.ArenaDual", spec := "arenaDual", unfollowed := true, recurses := true, apart := false, narrowed := true }
def ArenaDualUptoSaid : Prop := arenaDualUptoRow.holds Try.pinned (OpenSpec.upto arenaDualSpec)

/-- 'sentinellaw29.ArenaAttractors', WHERE WHAT IT READS IS OF BULK AT MOST 1048576: true; the input reads as it did. -/
def arenaAttractorsUptoRow : OpenClaim := { program := "ytjknfmndhbafoaa", sum := "aa814be2aa83339f503e8ae25b7128f76564814fb8ef421fc246cbe5022cc52f", func := "sentinel/sentinellaw29.ArenaAttractors", spec := "arenaAttractors", unfollowed := true, recurses := true, apart := false, narrowed := true }
def ArenaAttractorsUptoSaid : Prop := arenaAttractorsUptoRow.holds Try.pinned (OpenSpec.upto arenaAttractorsSpec)

/-- 'sentinellaw29.ArenaGamesMatch', WHERE WHAT IT READS IS OF BULK AT MOST 1048576: true; the input reads as it did. -/
def arenaGamesMatchUptoRow : OpenClaim := { program := "ytjknfmndhbafoaa", sum := "aa814be2aa83339f503e8ae25b7128f76564814fb8ef421fc246cbe5022cc52f", func := "sentinel/sentinellaw29.ArenaGamesMatch", spec := "arenaGamesMatch", unfollowed := true, recurses := true, apart := false, narrowed := true }
def ArenaGamesMatchUptoSaid : Prop := arenaGamesMatchUptoRow.holds Try.pinned (OpenSpec.upto arenaGamesMatchSpec)

end Rows
end Go.Proofs.Ytjknfmndhbafoaa
