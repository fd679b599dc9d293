/-
  No cell of these rows narrows 'for every input' (looked for: loops, veiled, ifaces, maps, wideKeys, modest, calm, conditions, laid).
  DERIVED. THE GIVEN ROWS OF THIS SEAT. 6 by the template 'for every input the law returns true; each argument reads behind the call as it read before'; 0 by the template 'total and deterministic' (their statements: YtanhmigakclecaaTotals.lean).
  GIVEN WITH THE SEED: the statements are not yours to turn. If you find one false, say at which input.
  Laid BY PROGRAM, IN A SANDBOX (cutbox-rows.mjs): the forced cells as the released guide's own fill.sh prints them over the translation 1ce263000c2cc250… (all of the seat's roots in one cut). By AI agents, Wed Nov 11 2026. No macro, syntax, notation, axiom, sorry.
-/
import Derived.Test.YtanhmigakclecaaChecked
import GoSem.Claim
import GoSem.ClaimJoined
import GoSem.ClaimMapViews
import Derived.JoinedTies
import Derived.KernelRfl
namespace Go.Proofs.Ytanhmigakclecaa
/- THE CELL 'sum', in the pinned program and in every row, IS THE sha256 OF THE DUMP (.gsa) THAT YtanhmigakclecaaProg.lean LOADS. Nothing in Lean hashes anything: it is a label: what it is worth is what the hold of that sum in a sandbox is worth. -/
noncomputable def Try.pinned : Pinned := { name := "ytanhmigakclecaa", sum := "1ce263000c2cc25089b4f79d9185c85ac0541d53e2894298a80cc86f6711e0e8", checked := Try.checked }
namespace Rows
def none {H : Type} : Left H := { results := [], args := [] }

/-- 'sentinellaw30.ZielonkaMatches': WHATEVER THE INPUT: true; the input reads as it did. -/
def zielonkaMatchesSpec : ChangeSpec := { name := "zielonkaMatches", fn := fun _ => fun
  | [d] => { results := [.lit (.bool true)], args := [d] }
  | _ => none }
def zielonkaMatchesRow : OpenClaim := { program := "ytanhmigakclecaa", sum := "1ce263000c2cc25089b4f79d9185c85ac0541d53e2894298a80cc86f6711e0e8", func := "sentinel/sentinellaw30.ZielonkaMatches", spec := "zielonkaMatches", unfollowed := true, recurses := true, apart := false }
def ZielonkaMatchesSaid : Prop := zielonkaMatchesRow.holds Try.pinned (OpenSpec.ofChange zielonkaMatchesSpec)

/-- ITS FALSE NEIGHBOUR: 'it returns false'. Refute it at one input. -/
def zielonkaMatchesWrong : ChangeSpec := { name := "zielonkaMatches", fn := fun _ => fun
  | [d] => { results := [.lit (.bool false)], args := [d] }
  | _ => none }
def ZielonkaMatchesWrongFalsely : Prop := zielonkaMatchesRow.holds Try.pinned (OpenSpec.ofChange zielonkaMatchesWrong)

/-- 'sentinellaw30.ZielonkaMonotone': WHATEVER THE INPUT: true; the input reads as it did. -/
def zielonkaMonotoneSpec : ChangeSpec := { name := "zielonkaMonotone", fn := fun _ => fun
  | [d1, d2, d3, d4] => { results := [.lit (.bool true)], args := [d1, d2, d3, d4] }
  | _ => none }
def zielonkaMonotoneRow : OpenClaim := { program := "ytanhmigakclecaa", sum := "1ce263000c2cc25089b4f79d9185c85ac0541d53e2894298a80cc86f6711e0e8", func := "sentinel/sentinellaw30.ZielonkaMonotone", spec := "zielonkaMonotone", unfollowed := true, recurses := true, apart := false }
def ZielonkaMonotoneSaid : Prop := zielonkaMonotoneRow.holds Try.pinned (OpenSpec.ofChange zielonkaMonotoneSpec)

/-- ITS FALSE NEIGHBOUR: 'it returns false'. Refute it at one input. -/
def zielonkaMonotoneWrong : ChangeSpec := { name := "zielonkaMonotone", fn := fun _ => fun
  | [d1, d2, d3, d4] => { results := [.lit (.bool false)], args := [d1, d2, d3, d4] }
  | _ => none }
def ZielonkaMonotoneWrongFalsely : Prop := zielonkaMonotoneRow.holds Try.pinned (OpenSpec.ofChange zielonkaMonotoneWrong)

/-- 'sentinellaw30.ZielonkaRegions': WHATEVER THE INPUT: true; the input reads as it did. -/
def zielonkaRegionsSpec : ChangeSpec := { name := "zielonkaRegions", fn := fun _ => fun
  | [d1, d2, d3] => { results := [.lit (.bool true)], args := [d1, d2, d3] }
  | _ => none }
def zielonkaRegionsRow : OpenClaim := { program := "ytanhmigakclecaa", sum := "1ce263000c2cc25089b4f79d9185c85ac0541d53e2894298a80cc86f6711e0e8", func := "sentinel/sentinellaw30.ZielonkaRegions", spec := "zielonkaRegions", unfollowed := true, recurses := true, apart := false }
def ZielonkaRegionsSaid : Prop := zielonkaRegionsRow.holds Try.pinned (OpenSpec.ofChange zielonkaRegionsSpec)

/-- ITS FALSE NEIGHBOUR: 'it returns false'. Refute it at one input. -/
def zielonkaRegionsWrong : ChangeSpec := { name := "zielonkaRegions", fn := fun _ => fun
  | [d1, d2, d3] => { results := [.lit (.bool false)], args := [d1, d2, d3] }
  | _ => none }
def ZielonkaRegionsWrongFalsely : Prop := zielonkaRegionsRow.holds Try.pinned (OpenSpec.ofChange zielonkaRegionsWrong)

/-- 'sentinellaw30.ZielonkaDual': WHATEVER THE INPUT: true; the input reads as it did. -/
def zielonkaDualSpec : ChangeSpec := { name := "zielonkaDual", fn := fun _ => fun
  | [d] => { results := [.lit (.bool true)], args := [d] }
  | _ => none }
def zielonkaDualRow : OpenClaim := { program := "ytanhmigakclecaa", sum := "1ce263000c2cc25089b4f79d9185c85ac0541d53e2894298a80cc86f6711e0e8", func := "sentinel/sentinellaw30.ZielonkaDual", spec := "zielonkaDual", unfollowed := true, recurses := true, apart := false }
def ZielonkaDualSaid : Prop := zielonkaDualRow.holds Try.pinned (OpenSpec.ofChange zielonkaDualSpec)

/-- ITS FALSE NEIGHBOUR: 'it returns false'. Refute it at one input. -/
def zielonkaDualWrong : ChangeSpec := { name := "zielonkaDual", fn := fun _ => fun
  | [d] => { results := [.lit (.bool false)], args := [d] }
  | _ => none }
def ZielonkaDualWrongFalsely : Prop := zielonkaDualRow.holds Try.pinned (OpenSpec.ofChange zielonkaDualWrong)

/-- 'sentinellaw30.ZielonkaRestrict': WHATEVER THE INPUT: true; the input reads as it did. -/
def zielonkaRestrictSpec : ChangeSpec := { name := "zielonkaRestrict", fn := fun _ => fun
  | [d] => { results := [.lit (.bool true)], args := [d] }
  | _ => none }
def zielonkaRestrictRow : OpenClaim := { program := "ytanhmigakclecaa", sum := "1ce263000c2cc25089b4f79d9185c85ac0541d53e2894298a80cc86f6711e0e8", func := "sentinel/sentinellaw30.ZielonkaRestrict", spec := "zielonkaRestrict", unfollowed := true, recurses := true, apart := false }
def ZielonkaRestrictSaid : Prop := zielonkaRestrictRow.holds Try.pinned (OpenSpec.ofChange zielonkaRestrictSpec)

/-- ITS FALSE NEIGHBOUR: 'it returns false'. Refute it at one input. -/
def zielonkaRestrictWrong : ChangeSpec := { name := "zielonkaRestrict", fn := fun _ => fun
  | [d] => { results := [.lit (.bool false)], args := [d] }
  | _ => none }
def ZielonkaRestrictWrongFalsely : Prop := zielonkaRestrictRow.holds Try.pinned (OpenSpec.ofChange zielonkaRestrictWrong)

/-- 'sentinellaw30.ZielonkaDeterminacy': WHATEVER THE INPUT: true; the input reads as it did. -/
def zielonkaDeterminacySpec : ChangeSpec := { name := "zielonkaDeterminacy", fn := fun _ => fun
  | [d1, d2, d3] => { results := [.lit (.bool true)], args := [d1, d2, d3] }
  | _ => none }
def zielonkaDeterminacyRow : OpenClaim := { program := "ytanhmigakclecaa", sum := "1ce263000c2cc25089b4f79d9185c85ac0541d53e2894298a80cc86f6711e0e8", func := "sentinel/sentinellaw30.ZielonkaDeterminacy", spec := "zielonkaDeterminacy", unfollowed := true, recurses := true, apart := false }
def ZielonkaDeterminacySaid : Prop := zielonkaDeterminacyRow.holds Try.pinned (OpenSpec.ofChange zielonkaDeterminacySpec)

/-- ITS FALSE NEIGHBOUR: 'it returns false'. Refute it at one input. -/
def zielonkaDeterminacyWrong : ChangeSpec := { name := "zielonkaDeterminacy", fn := fun _ => fun
  | [d1, d2, d3] => { results := [.lit (.bool false)], args := [d1, d2, d3] }
  | _ => none }
def ZielonkaDeterminacyWrongFalsely : Prop := zielonkaDeterminacyRow.holds Try.pinned (OpenSpec.ofChange zielonkaDeterminacyWrong)

/- THE SECOND FORM. 'bulk': how many values and letters a reading holds, each counted each time it is reached (what is shared counts as often as it is met; a slice's spare places count too). A statement '..UptoSaid' is the law's where the arguments, and the package variables that the reading takes, are together of bulk at most 1048576: NARROWER than '..Said'. Prove '..Said' where nothing that the law and all that it calls make is longer than what came in: it says more and counts as full. Else prove '..UptoSaid'. A law counts once. -/
mutual
def uptoBulk {H : Type} : DataW H → Nat
  | .lit (.string bytes) => bytes.length + 1
  | .lit _ => 1
  | .nil => 1
  | .ptr d => uptoBulk d + 1
  | .slice elems spare => uptoBulkAll elems + uptoBulkAll spare + 1
  | .agg parts => uptoBulkAll parts + 1
  | .iface _ d => uptoBulk d + 1
  | .map entries => uptoBulkEntries entries + 1
  | .held _ => 1
def uptoBulkAll {H : Type} : List (DataW H) → Nat
  | [] => 0
  | d :: r => uptoBulk d + uptoBulkAll r
def uptoBulkEntries {H : Type} : List (Lit × DataW H) → Nat
  | [] => 0
  | x :: r => uptoBulkEntry x + uptoBulkEntries r
def uptoBulkEntry {H : Type} : Lit × DataW H → Nat
  | (.string bytes, d) => bytes.length + uptoBulk d + 1
  | (_, d) => uptoBulk d + 1
 end
def uptoSmall : (H : Type) → List (DataW H) → Bool := fun _ ds => decide (uptoBulkAll ds ≤ 1048576)
def OpenSpec.upto (s : _root_.Go.ChangeSpec) : _root_.Go.OpenSpec := { _root_.Go.OpenSpec.ofChange s with cond := some uptoSmall }

/-- 'sentinellaw30.ZielonkaMatches', WHERE WHAT IT READS IS OF BULK AT MOST 1048576: true; the input reads as it did. -/
def zielonkaMatchesUptoRow : OpenClaim := { program := "ytanhmigakclecaa", sum := "1ce263000c2cc25089b4f79d9185c85ac0541d53e2894298a80cc86f6711e0e8", func := "sentinel/sentinellaw30.ZielonkaMatches", spec := "zielonkaMatches", unfollowed := true, recurses := true, apart := false, narrowed := true }
def ZielonkaMatchesUptoSaid : Prop := zielonkaMatchesUptoRow.holds Try.pinned (OpenSpec.upto zielonkaMatchesSpec)

/-- 'sentinellaw30.ZielonkaMonotone', WHERE WHAT IT READS IS OF BULK AT MOST 1048576: true; the input reads as it did. -/
def zielonkaMonotoneUptoRow : OpenClaim := { program := "ytanhmigakclecaa", sum := "1ce263000c2cc25089b4f79d9185c85ac0541d53e2894298a80cc86f6711e0e8", func := "sentinel/sentinellaw30.ZielonkaMonotone", spec := "zielonkaMonotone", unfollowed := true, recurses := true, apart := false, narrowed := true }
def ZielonkaMonotoneUptoSaid : Prop := zielonkaMonotoneUptoRow.holds Try.pinned (OpenSpec.upto zielonkaMonotoneSpec)

/-- 'sentinellaw30.ZielonkaRegions', WHERE WHAT IT READS IS OF BULK AT MOST 1048576: true; the input reads as it did. -/
def zielonkaRegionsUptoRow : OpenClaim := { program := "ytanhmigakclecaa", sum := "1ce263000c2cc25089b4f79d9185c85ac0541d53e2894298a80cc86f6711e0e8", func := "sentinel/sentinellaw30.ZielonkaRegions", spec := "zielonkaRegions", unfollowed := true, recurses := true, apart := false, narrowed := true }
def ZielonkaRegionsUptoSaid : Prop := zielonkaRegionsUptoRow.holds Try.pinned (OpenSpec.upto zielonkaRegionsSpec)

/-- 'sentinellaw30.ZielonkaDual', WHERE WHAT IT READS IS OF BULK AT MOST 1048576: true; the input reads as it did. -/
def zielonkaDualUptoRow : OpenClaim := { program := "ytanhmigakclecaa", sum := "1ce263000c2cc25089b4f79d9185c85ac0541d53e2894298a80cc86f6711e0e8", func := "sentinel/sentinellaw30.ZielonkaDual", spec := "zielonkaDual", unfollowed := true, recurses := true, apart := false, narrowed := true }
def ZielonkaDualUptoSaid : Prop := zielonkaDualUptoRow.holds Try.pinned (OpenSpec.upto zielonkaDualSpec)

/-- 'sentinellaw30.ZielonkaRestrict', WHERE WHAT IT READS IS OF BULK AT MOST 1048576: true; the input reads as it did. -/
def zielonkaRestrictUptoRow : OpenClaim := { program := "ytanhmigakclecaa", sum := "1ce263000c2cc25089b4f79d9185c85ac0541d53e2894298a80cc86f6711e0e8", func := "sentinel/sentinellaw30.ZielonkaRestrict", spec := "zielonkaRestrict", unfollowed := true, recurses := true, apart := false, narrowed := true }
def ZielonkaRestrictUptoSaid : Prop := zielonkaRestrictUptoRow.holds Try.pinned (OpenSpec.upto zielonkaRestrictSpec)

/-- 'sentinellaw30.ZielonkaDeterminacy', WHERE WHAT IT READS IS OF BULK AT MOST 1048576: true; the input reads as it did. -/
def zielonkaDeterminacyUptoRow : OpenClaim := { program := "ytanhmigakclecaa", sum := "1ce263000c2cc25089b4f79d9185c85ac0541d53e2894298a80cc86f6711e0e8", func := "sentinel/sentinellaw30.ZielonkaDeterminacy", spec := "zielonkaDeterminacy", unfollowed := true, recurses := true, apart := false, narrowed := true }
def ZielonkaDeterminacyUptoSaid : Prop := zielonkaDeterminacyUptoRow.holds Try.pinned (OpenSpec.upto zielonkaDeterminacySpec)

end Rows
end Go.Proofs.Ytanhmigakclecaa
