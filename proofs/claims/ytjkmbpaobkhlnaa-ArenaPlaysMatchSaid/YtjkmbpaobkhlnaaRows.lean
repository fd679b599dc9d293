/-
  No cell of these rows narrows 'for every input' (looked for: loops, veiled, ifaces, maps, wideKeys, modest, calm, conditions, laid).
  DERIVED. THE GIVEN ROWS OF THIS SEAT. 37 by the template 'for every input the law returns true; each argument reads behind the call as it read before'; 0 by the template 'total and deterministic' (their statements: YtjkmbpaobkhlnaaTotals.lean).
  GIVEN WITH THE SEED: the statements are not yours to turn. If you find one false, say at which input.
  Laid BY PROGRAM, IN A SANDBOX (cutbox-rows.mjs): the forced cells as the released guide's own fill.sh prints them over the translation 17a32d868f3d2f72… (all of the seat's roots in one cut). By AI agents, Wed Nov 11 2026. No macro, syntax, notation, axiom, sorry.
-/
import Derived.Test.YtjkmbpaobkhlnaaChecked
import GoSem.Claim
import GoSem.ClaimJoined
import GoSem.ClaimMapViews
import Derived.JoinedTies
import Derived.KernelRfl
namespace Go.Proofs.Ytjkmbpaobkhlnaa
/- THE CELL 'sum', in the pinned program and in every row, IS THE sha256 OF THE DUMP (.gsa) THAT YtjkmbpaobkhlnaaProg.lean LOADS. Nothing in Lean hashes anything: it is a label: what it is worth is what the hold of that sum in a sandbox is worth. -/
noncomputable def Try.pinned : Pinned := { name := "ytjkmbpaobkhlnaa", sum := "17a32d868f3d2f72dda2db5f49b8b6f414e3a115f73839d600c65e4e47b230a9", checked := Try.checked }
namespace Rows
def none {H : Type} : Left H := { results := [], args := [] }

/-- 'sentinellaw30.ZielonkaMatches': WHATEVER THE INPUT: true; the input reads as it did. -/
def zielonkaMatchesSpec : ChangeSpec := { name := "zielonkaMatches", fn := fun _ => fun
  | [d] => { results := [.lit (.bool true)], args := [d] }
  | _ => none }
def zielonkaMatchesRow : OpenClaim := { program := "ytjkmbpaobkhlnaa", sum := "17a32d868f3d2f72dda2db5f49b8b6f414e3a115f73839d600c65e4e47b230a9", func := "sentinel/sentinellaw30.ZielonkaMatches", spec := "zielonkaMatches", unfollowed := true, recurses := true, apart := false }
def ZielonkaMatchesSaid : Prop := zielonkaMatchesRow.holds Try.pinned (OpenSpec.ofChange zielonkaMatchesSpec)

/-- ITS FALSE NEIGHBOUR: 'it returns false'. Refute it at one input. -/
def zielonkaMatchesWrong : ChangeSpec := { name := "zielonkaMatches", fn := fun _ => fun
  | [d] => { results := [.lit (.bool false)], args := [d] }
  | _ => none }
def ZielonkaMatchesWrongFalsely : Prop := zielonkaMatchesRow.holds Try.pinned (OpenSpec.ofChange zielonkaMatchesWrong)

/-- 'sentinellaw30.ZielonkaMonotone': WHATEVER THE INPUT: true; the input reads as it did. -/
def zielonkaMonotoneSpec : ChangeSpec := { name := "zielonkaMonotone", fn := fun _ => fun
  | [d1, d2, d3, d4] => { results := [.lit (.bool true)], args := [d1, d2, d3, d4] }
  | _ => none }
def zielonkaMonotoneRow : OpenClaim := { program := "ytjkmbpaobkhlnaa", sum := "17a32d868f3d2f72dda2db5f49b8b6f414e3a115f73839d600c65e4e47b230a9", func := "sentinel/sentinellaw30.ZielonkaMonotone", spec := "zielonkaMonotone", unfollowed := true, recurses := true, apart := false }
def ZielonkaMonotoneSaid : Prop := zielonkaMonotoneRow.holds Try.pinned (OpenSpec.ofChange zielonkaMonotoneSpec)

/-- ITS FALSE NEIGHBOUR: 'it returns false'. Refute it at one input. -/
def zielonkaMonotoneWrong : ChangeSpec := { name := "zielonkaMonotone", fn := fun _ => fun
  | [d1, d2, d3, d4] => { results := [.lit (.bool false)], args := [d1, d2, d3, d4] }
  | _ => none }
def ZielonkaMonotoneWrongFalsely : Prop := zielonkaMonotoneRow.holds Try.pinned (OpenSpec.ofChange zielonkaMonotoneWrong)

/-- 'sentinellaw30.ZielonkaRegions': WHATEVER THE INPUT: true; the input reads as it did. -/
def zielonkaRegionsSpec : ChangeSpec := { name := "zielonkaRegions", fn := fun _ => fun
  | [d1, d2, d3] => { results := [.lit (.bool true)], args := [d1, d2, d3] }
  | _ => none }
def zielonkaRegionsRow : OpenClaim := { program := "ytjkmbpaobkhlnaa", sum := "17a32d868f3d2f72dda2db5f49b8b6f414e3a115f73839d600c65e4e47b230a9", func := "sentinel/sentinellaw30.ZielonkaRegions", spec := "zielonkaRegions", unfollowed := true, recurses := true, apart := false }
def ZielonkaRegionsSaid : Prop := zielonkaRegionsRow.holds Try.pinned (OpenSpec.ofChange zielonkaRegionsSpec)

/-- ITS FALSE NEIGHBOUR: 'it returns false'. Refute it at one input. -/
def zielonkaRegionsWrong : ChangeSpec := { name := "zielonkaRegions", fn := fun _ => fun
  | [d1, d2, d3] => { results := [.lit (.bool false)], args := [d1, d2, d3] }
  | _ => none }
def ZielonkaRegionsWrongFalsely : Prop := zielonkaRegionsRow.holds Try.pinned (OpenSpec.ofChange zielonkaRegionsWrong)

/-- 'sentinellaw30.ZielonkaExamples': WHATEVER THE INPUT: true; the input reads as it did. -/
def zielonkaExamplesSpec : ChangeSpec := { name := "zielonkaExamples", fn := fun _ => fun
  | [] => { results := [.lit (.bool true)], args := [] }
  | _ => none }
def zielonkaExamplesRow : OpenClaim := { program := "ytjkmbpaobkhlnaa", sum := "17a32d868f3d2f72dda2db5f49b8b6f414e3a115f73839d600c65e4e47b230a9", func := "sentinel/sentinellaw30.ZielonkaExamples", spec := "zielonkaExamples", unfollowed := true, recurses := true, apart := false }
def ZielonkaExamplesSaid : Prop := zielonkaExamplesRow.holds Try.pinned (OpenSpec.ofChange zielonkaExamplesSpec)

/-- ITS FALSE NEIGHBOUR: 'it returns false'. Refute it at one input. -/
def zielonkaExamplesWrong : ChangeSpec := { name := "zielonkaExamples", fn := fun _ => fun
  | [] => { results := [.lit (.bool false)], args := [] }
  | _ => none }
def ZielonkaExamplesWrongFalsely : Prop := zielonkaExamplesRow.holds Try.pinned (OpenSpec.ofChange zielonkaExamplesWrong)

/-- 'sentinellaw30.ZielonkaDual': WHATEVER THE INPUT: true; the input reads as it did. -/
def zielonkaDualSpec : ChangeSpec := { name := "zielonkaDual", fn := fun _ => fun
  | [d] => { results := [.lit (.bool true)], args := [d] }
  | _ => none }
def zielonkaDualRow : OpenClaim := { program := "ytjkmbpaobkhlnaa", sum := "17a32d868f3d2f72dda2db5f49b8b6f414e3a115f73839d600c65e4e47b230a9", func := "sentinel/sentinellaw30.ZielonkaDual", spec := "zielonkaDual", unfollowed := true, recurses := true, apart := false }
def ZielonkaDualSaid : Prop := zielonkaDualRow.holds Try.pinned (OpenSpec.ofChange zielonkaDualSpec)

/-- ITS FALSE NEIGHBOUR: 'it returns false'. Refute it at one input. -/
def zielonkaDualWrong : ChangeSpec := { name := "zielonkaDual", fn := fun _ => fun
  | [d] => { results := [.lit (.bool false)], args := [d] }
  | _ => none }
def ZielonkaDualWrongFalsely : Prop := zielonkaDualRow.holds Try.pinned (OpenSpec.ofChange zielonkaDualWrong)

/-- 'sentinellaw33.CertifyRefutes': WHATEVER THE INPUT: true; the input reads as it did. -/
def certifyRefutesSpec : ChangeSpec := { name := "certifyRefutes", fn := fun _ => fun
  | [d1, d2] => { results := [.lit (.bool true)], args := [d1, d2] }
  | _ => none }
def certifyRefutesRow : OpenClaim := { program := "ytjkmbpaobkhlnaa", sum := "17a32d868f3d2f72dda2db5f49b8b6f414e3a115f73839d600c65e4e47b230a9", func := "sentinel/sentinellaw33.CertifyRefutes", spec := "certifyRefutes", unfollowed := true, recurses := true, apart := false }
def CertifyRefutesSaid : Prop := certifyRefutesRow.holds Try.pinned (OpenSpec.ofChange certifyRefutesSpec)

/-- ITS FALSE NEIGHBOUR: 'it returns false'. Refute it at one input. -/
def certifyRefutesWrong : ChangeSpec := { name := "certifyRefutes", fn := fun _ => fun
  | [d1, d2] => { results := [.lit (.bool false)], args := [d1, d2] }
  | _ => none }
def CertifyRefutesWrongFalsely : Prop := certifyRefutesRow.holds Try.pinned (OpenSpec.ofChange certifyRefutesWrong)

/-- 'sentinellaw33.CertifyExamples': WHATEVER THE INPUT: true; the input reads as it did. -/
def certifyExamplesSpec : ChangeSpec := { name := "certifyExamples", fn := fun _ => fun
  | [] => { results := [.lit (.bool true)], args := [] }
  | _ => none }
def certifyExamplesRow : OpenClaim := { program := "ytjkmbpaobkhlnaa", sum := "17a32d868f3d2f72dda2db5f49b8b6f414e3a115f73839d600c65e4e47b230a9", func := "sentinel/sentinellaw33.CertifyExamples", spec := "certifyExamples", unfollowed := true, recurses := true, apart := false }
def CertifyExamplesSaid : Prop := certifyExamplesRow.holds Try.pinned (OpenSpec.ofChange certifyExamplesSpec)

/-- ITS FALSE NEIGHBOUR: 'it returns false'. Refute it at one input. -/
def certifyExamplesWrong : ChangeSpec := { name := "certifyExamples", fn := fun _ => fun
  | [] => { results := [.lit (.bool false)], args := [] }
  | _ => none }
def CertifyExamplesWrongFalsely : Prop := certifyExamplesRow.holds Try.pinned (OpenSpec.ofChange certifyExamplesWrong)

/-- 'sentinellaw33.CertifyMatches': WHATEVER THE INPUT: true; the input reads as it did. -/
def certifyMatchesSpec : ChangeSpec := { name := "certifyMatches", fn := fun _ => fun
  | [d1, d2] => { results := [.lit (.bool true)], args := [d1, d2] }
  | _ => none }
def certifyMatchesRow : OpenClaim := { program := "ytjkmbpaobkhlnaa", sum := "17a32d868f3d2f72dda2db5f49b8b6f414e3a115f73839d600c65e4e47b230a9", func := "sentinel/sentinellaw33.CertifyMatches", spec := "certifyMatches", unfollowed := true, recurses := true, apart := false }
def CertifyMatchesSaid : Prop := certifyMatchesRow.holds Try.pinned (OpenSpec.ofChange certifyMatchesSpec)

/-- ITS FALSE NEIGHBOUR: 'it returns false'. Refute it at one input. -/
def certifyMatchesWrong : ChangeSpec := { name := "certifyMatches", fn := fun _ => fun
  | [d1, d2] => { results := [.lit (.bool false)], args := [d1, d2] }
  | _ => none }
def CertifyMatchesWrongFalsely : Prop := certifyMatchesRow.holds Try.pinned (OpenSpec.ofChange certifyMatchesWrong)

/-- 'sentinellaw31.ProgressAfter': WHATEVER THE INPUT: true; the input reads as it did. -/
def progressAfterSpec : ChangeSpec := { name := "progressAfter", fn := fun _ => fun
  | [d1, d2] => { results := [.lit (.bool true)], args := [d1, d2] }
  | _ => none }
def progressAfterRow : OpenClaim := { program := "ytjkmbpaobkhlnaa", sum := "17a32d868f3d2f72dda2db5f49b8b6f414e3a115f73839d600c65e4e47b230a9", func := "sentinel/sentinellaw31.ProgressAfter", spec := "progressAfter", unfollowed := true, recurses := true, apart := false }
def ProgressAfterSaid : Prop := progressAfterRow.holds Try.pinned (OpenSpec.ofChange progressAfterSpec)

/-- ITS FALSE NEIGHBOUR: 'it returns false'. Refute it at one input. -/
def progressAfterWrong : ChangeSpec := { name := "progressAfter", fn := fun _ => fun
  | [d1, d2] => { results := [.lit (.bool false)], args := [d1, d2] }
  | _ => none }
def ProgressAfterWrongFalsely : Prop := progressAfterRow.holds Try.pinned (OpenSpec.ofChange progressAfterWrong)

/-- 'sentinellaw30.ZielonkaRestrict': WHATEVER THE INPUT: true; the input reads as it did. -/
def zielonkaRestrictSpec : ChangeSpec := { name := "zielonkaRestrict", fn := fun _ => fun
  | [d] => { results := [.lit (.bool true)], args := [d] }
  | _ => none }
def zielonkaRestrictRow : OpenClaim := { program := "ytjkmbpaobkhlnaa", sum := "17a32d868f3d2f72dda2db5f49b8b6f414e3a115f73839d600c65e4e47b230a9", func := "sentinel/sentinellaw30.ZielonkaRestrict", spec := "zielonkaRestrict", unfollowed := true, recurses := true, apart := false }
def ZielonkaRestrictSaid : Prop := zielonkaRestrictRow.holds Try.pinned (OpenSpec.ofChange zielonkaRestrictSpec)

/-- ITS FALSE NEIGHBOUR: 'it returns false'. Refute it at one input. -/
def zielonkaRestrictWrong : ChangeSpec := { name := "zielonkaRestrict", fn := fun _ => fun
  | [d] => { results := [.lit (.bool false)], args := [d] }
  | _ => none }
def ZielonkaRestrictWrongFalsely : Prop := zielonkaRestrictRow.holds Try.pinned (OpenSpec.ofChange zielonkaRestrictWrong)

/-- 'sentinellaw29.ArenaMatches': WHATEVER THE INPUT: true; the input reads as it did. -/
def arenaMatchesSpec : ChangeSpec := { name := "arenaMatches", fn := fun _ => fun
  | [d1, d2, d3] => { results := [.lit (.bool true)], args := [d1, d2, d3] }
  | _ => none }
def arenaMatchesRow : OpenClaim := { program := "ytjkmbpaobkhlnaa", sum := "17a32d868f3d2f72dda2db5f49b8b6f414e3a115f73839d600c65e4e47b230a9", func := "sentinel/sentinellaw29.ArenaMatches", spec := "arenaMatches", unfollowed := true, recurses := true, apart := false }
def ArenaMatchesSaid : Prop := arenaMatchesRow.holds Try.pinned (OpenSpec.ofChange arenaMatchesSpec)

/-- ITS FALSE NEIGHBOUR: 'it returns false'. Refute it at one input. -/
def arenaMatchesWrong : ChangeSpec := { name := "arenaMatches", fn := fun _ => fun
  | [d1, d2, d3] => { results := [.lit (.bool false)], args := [d1, d2, d3] }
  | _ => none }
def ArenaMatchesWrongFalsely : Prop := arenaMatchesRow.holds Try.pinned (OpenSpec.ofChange arenaMatchesWrong)

/-- 'sentinellaw29.ArenaPlaysMatch': WHATEVER THE INPUT: true; the input reads as it did. -/
def arenaPlaysMatchSpec : ChangeSpec := { name := "arenaPlaysMatch", fn := fun _ => fun
  | [d1, d2, d3, d4] => { results := [.lit (.bool true)], args := [d1, d2, d3, d4] }
  | _ => none }
def arenaPlaysMatchRow : OpenClaim := { program := "ytjkmbpaobkhlnaa", sum := "17a32d868f3d2f72dda2db5f49b8b6f414e3a115f73839d600c65e4e47b230a9", func := "sentinel/sentinellaw29.ArenaPlaysMatch", spec := "arenaPlaysMatch", unfollowed := true, recurses := true, apart := false }
def ArenaPlaysMatchSaid : Prop := arenaPlaysMatchRow.holds Try.pinned (OpenSpec.ofChange arenaPlaysMatchSpec)

/-- ITS FALSE NEIGHBOUR: 'it returns false'. Refute it at one input. -/
def arenaPlaysMatchWrong : ChangeSpec := { name := "arenaPlaysMatch", fn := fun _ => fun
  | [d1, d2, d3, d4] => { results := [.lit (.bool false)], args := [d1, d2, d3, d4] }
  | _ => none }
def ArenaPlaysMatchWrongFalsely : Prop := arenaPlaysMatchRow.holds Try.pinned (OpenSpec.ofChange arenaPlaysMatchWrong)

/-- 'sentinellaw29.ArenaReaches': WHATEVER THE INPUT: true; the input reads as it did. -/
def arenaReachesSpec : ChangeSpec := { name := "arenaReaches", fn := fun _ => fun
  | [d1, d2, d3, d4, d5] => { results := [.lit (.bool true)], args := [d1, d2, d3, d4, d5] }
  | _ => none }
def arenaReachesRow : OpenClaim := { program := "ytjkmbpaobkhlnaa", sum := "17a32d868f3d2f72dda2db5f49b8b6f414e3a115f73839d600c65e4e47b230a9", func := "sentinel/sentinellaw29.ArenaReaches", spec := "arenaReaches", unfollowed := true, recurses := true, apart := false }
def ArenaReachesSaid : Prop := arenaReachesRow.holds Try.pinned (OpenSpec.ofChange arenaReachesSpec)

/-- ITS FALSE NEIGHBOUR: 'it returns false'. Refute it at one input. -/
def arenaReachesWrong : ChangeSpec := { name := "arenaReaches", fn := fun _ => fun
  | [d1, d2, d3, d4, d5] => { results := [.lit (.bool false)], args := [d1, d2, d3, d4, d5] }
  | _ => none }
def ArenaReachesWrongFalsely : Prop := arenaReachesRow.holds Try.pinned (OpenSpec.ofChange arenaReachesWrong)

/-- 'sentinellaw29.ArenaMonotone': WHATEVER THE INPUT: true; the input reads as it did. -/
def arenaMonotoneSpec : ChangeSpec := { name := "arenaMonotone", fn := fun _ => fun
  | [d1, d2, d3, d4] => { results := [.lit (.bool true)], args := [d1, d2, d3, d4] }
  | _ => none }
def arenaMonotoneRow : OpenClaim := { program := "ytjkmbpaobkhlnaa", sum := "17a32d868f3d2f72dda2db5f49b8b6f414e3a115f73839d600c65e4e47b230a9", func := "sentinel/sentinellaw29.ArenaMonotone", spec := "arenaMonotone", unfollowed := true, recurses := true, apart := false }
def ArenaMonotoneSaid : Prop := arenaMonotoneRow.holds Try.pinned (OpenSpec.ofChange arenaMonotoneSpec)

/-- ITS FALSE NEIGHBOUR: 'it returns false'. Refute it at one input. -/
def arenaMonotoneWrong : ChangeSpec := { name := "arenaMonotone", fn := fun _ => fun
  | [d1, d2, d3, d4] => { results := [.lit (.bool false)], args := [d1, d2, d3, d4] }
  | _ => none }
def ArenaMonotoneWrongFalsely : Prop := arenaMonotoneRow.holds Try.pinned (OpenSpec.ofChange arenaMonotoneWrong)

/-- 'sentinellaw31.ProgressMatches': WHATEVER THE INPUT: true; the input reads as it did. -/
def progressMatchesSpec : ChangeSpec := { name := "progressMatches", fn := fun _ => fun
  | [d1, d2] => { results := [.lit (.bool true)], args := [d1, d2] }
  | _ => none }
def progressMatchesRow : OpenClaim := { program := "ytjkmbpaobkhlnaa", sum := "17a32d868f3d2f72dda2db5f49b8b6f414e3a115f73839d600c65e4e47b230a9", func := "sentinel/sentinellaw31.ProgressMatches", spec := "progressMatches", unfollowed := true, recurses := true, apart := false }
def ProgressMatchesSaid : Prop := progressMatchesRow.holds Try.pinned (OpenSpec.ofChange progressMatchesSpec)

/-- ITS FALSE NEIGHBOUR: 'it returns false'. Refute it at one input. -/
def progressMatchesWrong : ChangeSpec := { name := "progressMatches", fn := fun _ => fun
  | [d1, d2] => { results := [.lit (.bool false)], args := [d1, d2] }
  | _ => none }
def ProgressMatchesWrongFalsely : Prop := progressMatchesRow.holds Try.pinned (OpenSpec.ofChange progressMatchesWrong)

/-- 'sentinellaw31.ProgressLift': WHATEVER THE INPUT: true; the input reads as it did. -/
def progressLiftSpec : ChangeSpec := { name := "progressLift", fn := fun _ => fun
  | [d1, d2, d3] => { results := [.lit (.bool true)], args := [d1, d2, d3] }
  | _ => none }
def progressLiftRow : OpenClaim := { program := "ytjkmbpaobkhlnaa", sum := "17a32d868f3d2f72dda2db5f49b8b6f414e3a115f73839d600c65e4e47b230a9", func := "sentinel/sentinellaw31.ProgressLift", spec := "progressLift", unfollowed := true, recurses := true, apart := false }
def ProgressLiftSaid : Prop := progressLiftRow.holds Try.pinned (OpenSpec.ofChange progressLiftSpec)

/-- ITS FALSE NEIGHBOUR: 'it returns false'. Refute it at one input. -/
def progressLiftWrong : ChangeSpec := { name := "progressLift", fn := fun _ => fun
  | [d1, d2, d3] => { results := [.lit (.bool false)], args := [d1, d2, d3] }
  | _ => none }
def ProgressLiftWrongFalsely : Prop := progressLiftRow.holds Try.pinned (OpenSpec.ofChange progressLiftWrong)

/-- 'sentinellaw31.ProgressLeast': WHATEVER THE INPUT: true; the input reads as it did. -/
def progressLeastSpec : ChangeSpec := { name := "progressLeast", fn := fun _ => fun
  | [d1, d2] => { results := [.lit (.bool true)], args := [d1, d2] }
  | _ => none }
def progressLeastRow : OpenClaim := { program := "ytjkmbpaobkhlnaa", sum := "17a32d868f3d2f72dda2db5f49b8b6f414e3a115f73839d600c65e4e47b230a9", func := "sentinel/sentinellaw31.ProgressLeast", spec := "progressLeast", unfollowed := true, recurses := true, apart := false }
def ProgressLeastSaid : Prop := progressLeastRow.holds Try.pinned (OpenSpec.ofChange progressLeastSpec)

/-- ITS FALSE NEIGHBOUR: 'it returns false'. Refute it at one input. -/
def progressLeastWrong : ChangeSpec := { name := "progressLeast", fn := fun _ => fun
  | [d1, d2] => { results := [.lit (.bool false)], args := [d1, d2] }
  | _ => none }
def ProgressLeastWrongFalsely : Prop := progressLeastRow.holds Try.pinned (OpenSpec.ofChange progressLeastWrong)

/-- 'sentinellaw31.ProgressClosed': WHATEVER THE INPUT: true; the input reads as it did. -/
def progressClosedSpec : ChangeSpec := { name := "progressClosed", fn := fun _ => fun
  | [d1, d2] => { results := [.lit (.bool true)], args := [d1, d2] }
  | _ => none }
def progressClosedRow : OpenClaim := { program := "ytjkmbpaobkhlnaa", sum := "17a32d868f3d2f72dda2db5f49b8b6f414e3a115f73839d600c65e4e47b230a9", func := "sentinel/sentinellaw31.ProgressClosed", spec := "progressClosed", unfollowed := true, recurses := true, apart := false }
def ProgressClosedSaid : Prop := progressClosedRow.holds Try.pinned (OpenSpec.ofChange progressClosedSpec)

/-- ITS FALSE NEIGHBOUR: 'it returns false'. Refute it at one input. -/
def progressClosedWrong : ChangeSpec := { name := "progressClosed", fn := fun _ => fun
  | [d1, d2] => { results := [.lit (.bool false)], args := [d1, d2] }
  | _ => none }
def ProgressClosedWrongFalsely : Prop := progressClosedRow.holds Try.pinned (OpenSpec.ofChange progressClosedWrong)

/-- 'sentinellaw31.ProgressExamples': WHATEVER THE INPUT: true; the input reads as it did. -/
def progressExamplesSpec : ChangeSpec := { name := "progressExamples", fn := fun _ => fun
  | [] => { results := [.lit (.bool true)], args := [] }
  | _ => none }
def progressExamplesRow : OpenClaim := { program := "ytjkmbpaobkhlnaa", sum := "17a32d868f3d2f72dda2db5f49b8b6f414e3a115f73839d600c65e4e47b230a9", func := "sentinel/sentinellaw31.ProgressExamples", spec := "progressExamples", unfollowed := true, recurses := true, apart := false }
def ProgressExamplesSaid : Prop := progressExamplesRow.holds Try.pinned (OpenSpec.ofChange progressExamplesSpec)

/-- ITS FALSE NEIGHBOUR: 'it returns false'. Refute it at one input. -/
def progressExamplesWrong : ChangeSpec := { name := "progressExamples", fn := fun _ => fun
  | [] => { results := [.lit (.bool false)], args := [] }
  | _ => none }
def ProgressExamplesWrongFalsely : Prop := progressExamplesRow.holds Try.pinned (OpenSpec.ofChange progressExamplesWrong)

/-- 'sentinellaw33.CertifyDual': WHATEVER THE INPUT: true; the input reads as it did. -/
def certifyDualSpec : ChangeSpec := { name := "certifyDual", fn := fun _ => fun
  | [d1, d2] => { results := [.lit (.bool true)], args := [d1, d2] }
  | _ => none }
def certifyDualRow : OpenClaim := { program := "ytjkmbpaobkhlnaa", sum := "17a32d868f3d2f72dda2db5f49b8b6f414e3a115f73839d600c65e4e47b230a9", func := "sentinel/sentinellaw33.CertifyDual", spec := "certifyDual", unfollowed := true, recurses := true, apart := false }
def CertifyDualSaid : Prop := certifyDualRow.holds Try.pinned (OpenSpec.ofChange certifyDualSpec)

/-- ITS FALSE NEIGHBOUR: 'it returns false'. Refute it at one input. -/
def certifyDualWrong : ChangeSpec := { name := "certifyDual", fn := fun _ => fun
  | [d1, d2] => { results := [.lit (.bool false)], args := [d1, d2] }
  | _ => none }
def CertifyDualWrongFalsely : Prop := certifyDualRow.holds Try.pinned (OpenSpec.ofChange certifyDualWrong)

/-- 'sentinellaw29.ArenaDual': WHATEVER THE INPUT: true; the input reads as it did. -/
def arenaDualSpec : ChangeSpec := { name := "arenaDual", fn := fun _ => fun
  | [d1, d2, d3, d4, d5] => { results := [.lit (.bool true)], args := [d1, d2, d3, d4, d5] }
  | _ => none }
def arenaDualRow : OpenClaim := { program := "ytjkmbpaobkhlnaa", sum := "17a32d868f3d2f72dda2db5f49b8b6f414e3a115f73839d600c65e4e47b230a9", func := "sentinel/sentinellaw29.ArenaDual", spec := "arenaDual", unfollowed := true, recurses := true, apart := false }
def ArenaDualSaid : Prop := arenaDualRow.holds Try.pinned (OpenSpec.ofChange arenaDualSpec)

/-- ITS FALSE NEIGHBOUR: 'it returns false'. Refute it at one input. -/
def arenaDualWrong : ChangeSpec := { name := "arenaDual", fn := fun _ => fun
  | [d1, d2, d3, d4, d5] => { results := [.lit (.bool false)], args := [d1, d2, d3, d4, d5] }
  | _ => none }
def ArenaDualWrongFalsely : Prop := arenaDualRow.holds Try.pinned (OpenSpec.ofChange arenaDualWrong)

/-- 'sentinellaw33.CertifyPlays': WHATEVER THE INPUT: true; the input reads as it did. -/
def certifyPlaysSpec : ChangeSpec := { name := "certifyPlays", fn := fun _ => fun
  | [d1, d2, d3, d4] => { results := [.lit (.bool true)], args := [d1, d2, d3, d4] }
  | _ => none }
def certifyPlaysRow : OpenClaim := { program := "ytjkmbpaobkhlnaa", sum := "17a32d868f3d2f72dda2db5f49b8b6f414e3a115f73839d600c65e4e47b230a9", func := "sentinel/sentinellaw33.CertifyPlays", spec := "certifyPlays", unfollowed := true, recurses := true, apart := false }
def CertifyPlaysSaid : Prop := certifyPlaysRow.holds Try.pinned (OpenSpec.ofChange certifyPlaysSpec)

/-- ITS FALSE NEIGHBOUR: 'it returns false'. Refute it at one input. -/
def certifyPlaysWrong : ChangeSpec := { name := "certifyPlays", fn := fun _ => fun
  | [d1, d2, d3, d4] => { results := [.lit (.bool false)], args := [d1, d2, d3, d4] }
  | _ => none }
def CertifyPlaysWrongFalsely : Prop := certifyPlaysRow.holds Try.pinned (OpenSpec.ofChange certifyPlaysWrong)

/-- 'sentinellaw29.ArenaAttractors': WHATEVER THE INPUT: true; the input reads as it did. -/
def arenaAttractorsSpec : ChangeSpec := { name := "arenaAttractors", fn := fun _ => fun
  | [d1, d2, d3] => { results := [.lit (.bool true)], args := [d1, d2, d3] }
  | _ => none }
def arenaAttractorsRow : OpenClaim := { program := "ytjkmbpaobkhlnaa", sum := "17a32d868f3d2f72dda2db5f49b8b6f414e3a115f73839d600c65e4e47b230a9", func := "sentinel/sentinellaw29.ArenaAttractors", spec := "arenaAttractors", unfollowed := true, recurses := true, apart := false }
def ArenaAttractorsSaid : Prop := arenaAttractorsRow.holds Try.pinned (OpenSpec.ofChange arenaAttractorsSpec)

/-- ITS FALSE NEIGHBOUR: 'it returns false'. Refute it at one input. -/
def arenaAttractorsWrong : ChangeSpec := { name := "arenaAttractors", fn := fun _ => fun
  | [d1, d2, d3] => { results := [.lit (.bool false)], args := [d1, d2, d3] }
  | _ => none }
def ArenaAttractorsWrongFalsely : Prop := arenaAttractorsRow.holds Try.pinned (OpenSpec.ofChange arenaAttractorsWrong)

/-- 'sentinellaw30.ZielonkaReduced': WHATEVER THE INPUT: true; the input reads as it did. -/
def zielonkaReducedSpec : ChangeSpec := { name := "zielonkaReduced", fn := fun _ => fun
  | [d] => { results := [.lit (.bool true)], args := [d] }
  | _ => none }
def zielonkaReducedRow : OpenClaim := { program := "ytjkmbpaobkhlnaa", sum := "17a32d868f3d2f72dda2db5f49b8b6f414e3a115f73839d600c65e4e47b230a9", func := "sentinel/sentinellaw30.ZielonkaReduced", spec := "zielonkaReduced", unfollowed := true, recurses := true, apart := false }
def ZielonkaReducedSaid : Prop := zielonkaReducedRow.holds Try.pinned (OpenSpec.ofChange zielonkaReducedSpec)

/-- ITS FALSE NEIGHBOUR: 'it returns false'. Refute it at one input. -/
def zielonkaReducedWrong : ChangeSpec := { name := "zielonkaReduced", fn := fun _ => fun
  | [d] => { results := [.lit (.bool false)], args := [d] }
  | _ => none }
def ZielonkaReducedWrongFalsely : Prop := zielonkaReducedRow.holds Try.pinned (OpenSpec.ofChange zielonkaReducedWrong)

/-- 'sentinellaw29.ArenaGamesMatch': WHATEVER THE INPUT: true; the input reads as it did. -/
def arenaGamesMatchSpec : ChangeSpec := { name := "arenaGamesMatch", fn := fun _ => fun
  | [d1, d2] => { results := [.lit (.bool true)], args := [d1, d2] }
  | _ => none }
def arenaGamesMatchRow : OpenClaim := { program := "ytjkmbpaobkhlnaa", sum := "17a32d868f3d2f72dda2db5f49b8b6f414e3a115f73839d600c65e4e47b230a9", func := "sentinel/sentinellaw29.ArenaGamesMatch", spec := "arenaGamesMatch", unfollowed := true, recurses := true, apart := false }
def ArenaGamesMatchSaid : Prop := arenaGamesMatchRow.holds Try.pinned (OpenSpec.ofChange arenaGamesMatchSpec)

/-- ITS FALSE NEIGHBOUR: 'it returns false'. Refute it at one input. -/
def arenaGamesMatchWrong : ChangeSpec := { name := "arenaGamesMatch", fn := fun _ => fun
  | [d1, d2] => { results := [.lit (.bool false)], args := [d1, d2] }
  | _ => none }
def ArenaGamesMatchWrongFalsely : Prop := arenaGamesMatchRow.holds Try.pinned (OpenSpec.ofChange arenaGamesMatchWrong)

/-- 'sentinellaw29.ArenaExamples': WHATEVER THE INPUT: true; the input reads as it did. -/
def arenaExamplesSpec : ChangeSpec := { name := "arenaExamples", fn := fun _ => fun
  | [] => { results := [.lit (.bool true)], args := [] }
  | _ => none }
def arenaExamplesRow : OpenClaim := { program := "ytjkmbpaobkhlnaa", sum := "17a32d868f3d2f72dda2db5f49b8b6f414e3a115f73839d600c65e4e47b230a9", func := "sentinel/sentinellaw29.ArenaExamples", spec := "arenaExamples", unfollowed := true, recurses := true, apart := false }
def ArenaExamplesSaid : Prop := arenaExamplesRow.holds Try.pinned (OpenSpec.ofChange arenaExamplesSpec)

/-- ITS FALSE NEIGHBOUR: 'it returns false'. Refute it at one input. -/
def arenaExamplesWrong : ChangeSpec := { name := "arenaExamples", fn := fun _ => fun
  | [] => { results := [.lit (.bool false)], args := [] }
  | _ => none }
def ArenaExamplesWrongFalsely : Prop := arenaExamplesRow.holds Try.pinned (OpenSpec.ofChange arenaExamplesWrong)

/-- 'sentinellaw33.CertifyRejects': WHATEVER THE INPUT: true; the input reads as it did. -/
def certifyRejectsSpec : ChangeSpec := { name := "certifyRejects", fn := fun _ => fun
  | [d1, d2] => { results := [.lit (.bool true)], args := [d1, d2] }
  | _ => none }
def certifyRejectsRow : OpenClaim := { program := "ytjkmbpaobkhlnaa", sum := "17a32d868f3d2f72dda2db5f49b8b6f414e3a115f73839d600c65e4e47b230a9", func := "sentinel/sentinellaw33.CertifyRejects", spec := "certifyRejects", unfollowed := true, recurses := true, apart := false }
def CertifyRejectsSaid : Prop := certifyRejectsRow.holds Try.pinned (OpenSpec.ofChange certifyRejectsSpec)

/-- ITS FALSE NEIGHBOUR: 'it returns false'. Refute it at one input. -/
def certifyRejectsWrong : ChangeSpec := { name := "certifyRejects", fn := fun _ => fun
  | [d1, d2] => { results := [.lit (.bool false)], args := [d1, d2] }
  | _ => none }
def CertifyRejectsWrongFalsely : Prop := certifyRejectsRow.holds Try.pinned (OpenSpec.ofChange certifyRejectsWrong)

/-- 'sentinellaw30.ZielonkaDeterminacy': WHATEVER THE INPUT: true; the input reads as it did. -/
def zielonkaDeterminacySpec : ChangeSpec := { name := "zielonkaDeterminacy", fn := fun _ => fun
  | [d1, d2, d3] => { results := [.lit (.bool true)], args := [d1, d2, d3] }
  | _ => none }
def zielonkaDeterminacyRow : OpenClaim := { program := "ytjkmbpaobkhlnaa", sum := "17a32d868f3d2f72dda2db5f49b8b6f414e3a115f73839d600c65e4e47b230a9", func := "sentinel/sentinellaw30.ZielonkaDeterminacy", spec := "zielonkaDeterminacy", unfollowed := true, recurses := true, apart := false }
def ZielonkaDeterminacySaid : Prop := zielonkaDeterminacyRow.holds Try.pinned (OpenSpec.ofChange zielonkaDeterminacySpec)

/-- ITS FALSE NEIGHBOUR: 'it returns false'. Refute it at one input. -/
def zielonkaDeterminacyWrong : ChangeSpec := { name := "zielonkaDeterminacy", fn := fun _ => fun
  | [d1, d2, d3] => { results := [.lit (.bool false)], args := [d1, d2, d3] }
  | _ => none }
def ZielonkaDeterminacyWrongFalsely : Prop := zielonkaDeterminacyRow.holds Try.pinned (OpenSpec.ofChange zielonkaDeterminacyWrong)

/-- 'sentinellaw31.ProgressZielonka': WHATEVER THE INPUT: true; the input reads as it did. -/
def progressZielonkaSpec : ChangeSpec := { name := "progressZielonka", fn := fun _ => fun
  | [d] => { results := [.lit (.bool true)], args := [d] }
  | _ => none }
def progressZielonkaRow : OpenClaim := { program := "ytjkmbpaobkhlnaa", sum := "17a32d868f3d2f72dda2db5f49b8b6f414e3a115f73839d600c65e4e47b230a9", func := "sentinel/sentinellaw31.ProgressZielonka", spec := "progressZielonka", unfollowed := true, recurses := true, apart := false }
def ProgressZielonkaSaid : Prop := progressZielonkaRow.holds Try.pinned (OpenSpec.ofChange progressZielonkaSpec)

/-- ITS FALSE NEIGHBOUR: 'it returns false'. Refute it at one input. -/
def progressZielonkaWrong : ChangeSpec := { name := "progressZielonka", fn := fun _ => fun
  | [d] => { results := [.lit (.bool false)], args := [d] }
  | _ => none }
def ProgressZielonkaWrongFalsely : Prop := progressZielonkaRow.holds Try.pinned (OpenSpec.ofChange progressZielonkaWrong)

/-- 'sentinellaw32.ImproveValuationMatches': WHATEVER THE INPUT: true; the input reads as it did. -/
def improveValuationMatchesSpec : ChangeSpec := { name := "improveValuationMatches", fn := fun _ => fun
  | [d1, d2] => { results := [.lit (.bool true)], args := [d1, d2] }
  | _ => none }
def improveValuationMatchesRow : OpenClaim := { program := "ytjkmbpaobkhlnaa", sum := "17a32d868f3d2f72dda2db5f49b8b6f414e3a115f73839d600c65e4e47b230a9", func := "sentinel/sentinellaw32.ImproveValuationMatches", spec := "improveValuationMatches", unfollowed := true, recurses := true, apart := false }
def ImproveValuationMatchesSaid : Prop := improveValuationMatchesRow.holds Try.pinned (OpenSpec.ofChange improveValuationMatchesSpec)

/-- ITS FALSE NEIGHBOUR: 'it returns false'. Refute it at one input. -/
def improveValuationMatchesWrong : ChangeSpec := { name := "improveValuationMatches", fn := fun _ => fun
  | [d1, d2] => { results := [.lit (.bool false)], args := [d1, d2] }
  | _ => none }
def ImproveValuationMatchesWrongFalsely : Prop := improveValuationMatchesRow.holds Try.pinned (OpenSpec.ofChange improveValuationMatchesWrong)

/-- 'sentinellaw32.ImproveMatches': WHATEVER THE INPUT: true; the input reads as it did. -/
def improveMatchesSpec : ChangeSpec := { name := "improveMatches", fn := fun _ => fun
  | [d1, d2, d3, d4, d5] => { results := [.lit (.bool true)], args := [d1, d2, d3, d4, d5] }
  | _ => none }
def improveMatchesRow : OpenClaim := { program := "ytjkmbpaobkhlnaa", sum := "17a32d868f3d2f72dda2db5f49b8b6f414e3a115f73839d600c65e4e47b230a9", func := "sentinel/sentinellaw32.ImproveMatches", spec := "improveMatches", unfollowed := true, recurses := true, apart := false }
def ImproveMatchesSaid : Prop := improveMatchesRow.holds Try.pinned (OpenSpec.ofChange improveMatchesSpec)

/-- ITS FALSE NEIGHBOUR: 'it returns false'. Refute it at one input. -/
def improveMatchesWrong : ChangeSpec := { name := "improveMatches", fn := fun _ => fun
  | [d1, d2, d3, d4, d5] => { results := [.lit (.bool false)], args := [d1, d2, d3, d4, d5] }
  | _ => none }
def ImproveMatchesWrongFalsely : Prop := improveMatchesRow.holds Try.pinned (OpenSpec.ofChange improveMatchesWrong)

/-- 'sentinellaw32.ImproveBounds': WHATEVER THE INPUT: true; the input reads as it did. -/
def improveBoundsSpec : ChangeSpec := { name := "improveBounds", fn := fun _ => fun
  | [d1, d2, d3] => { results := [.lit (.bool true)], args := [d1, d2, d3] }
  | _ => none }
def improveBoundsRow : OpenClaim := { program := "ytjkmbpaobkhlnaa", sum := "17a32d868f3d2f72dda2db5f49b8b6f414e3a115f73839d600c65e4e47b230a9", func := "sentinel/sentinellaw32.ImproveBounds", spec := "improveBounds", unfollowed := true, recurses := true, apart := false }
def ImproveBoundsSaid : Prop := improveBoundsRow.holds Try.pinned (OpenSpec.ofChange improveBoundsSpec)

/-- ITS FALSE NEIGHBOUR: 'it returns false'. Refute it at one input. -/
def improveBoundsWrong : ChangeSpec := { name := "improveBounds", fn := fun _ => fun
  | [d1, d2, d3] => { results := [.lit (.bool false)], args := [d1, d2, d3] }
  | _ => none }
def ImproveBoundsWrongFalsely : Prop := improveBoundsRow.holds Try.pinned (OpenSpec.ofChange improveBoundsWrong)

/-- 'sentinellaw32.ImproveOrder': WHATEVER THE INPUT: true; the input reads as it did. -/
def improveOrderSpec : ChangeSpec := { name := "improveOrder", fn := fun _ => fun
  | [d1, d2, d3, d4] => { results := [.lit (.bool true)], args := [d1, d2, d3, d4] }
  | _ => none }
def improveOrderRow : OpenClaim := { program := "ytjkmbpaobkhlnaa", sum := "17a32d868f3d2f72dda2db5f49b8b6f414e3a115f73839d600c65e4e47b230a9", func := "sentinel/sentinellaw32.ImproveOrder", spec := "improveOrder", unfollowed := true, recurses := true, apart := false }
def ImproveOrderSaid : Prop := improveOrderRow.holds Try.pinned (OpenSpec.ofChange improveOrderSpec)

/-- ITS FALSE NEIGHBOUR: 'it returns false'. Refute it at one input. -/
def improveOrderWrong : ChangeSpec := { name := "improveOrder", fn := fun _ => fun
  | [d1, d2, d3, d4] => { results := [.lit (.bool false)], args := [d1, d2, d3, d4] }
  | _ => none }
def ImproveOrderWrongFalsely : Prop := improveOrderRow.holds Try.pinned (OpenSpec.ofChange improveOrderWrong)

/-- 'sentinellaw32.ImproveExamples': WHATEVER THE INPUT: true; the input reads as it did. -/
def improveExamplesSpec : ChangeSpec := { name := "improveExamples", fn := fun _ => fun
  | [] => { results := [.lit (.bool true)], args := [] }
  | _ => none }
def improveExamplesRow : OpenClaim := { program := "ytjkmbpaobkhlnaa", sum := "17a32d868f3d2f72dda2db5f49b8b6f414e3a115f73839d600c65e4e47b230a9", func := "sentinel/sentinellaw32.ImproveExamples", spec := "improveExamples", unfollowed := true, recurses := true, apart := false }
def ImproveExamplesSaid : Prop := improveExamplesRow.holds Try.pinned (OpenSpec.ofChange improveExamplesSpec)

/-- ITS FALSE NEIGHBOUR: 'it returns false'. Refute it at one input. -/
def improveExamplesWrong : ChangeSpec := { name := "improveExamples", fn := fun _ => fun
  | [] => { results := [.lit (.bool false)], args := [] }
  | _ => none }
def ImproveExamplesWrongFalsely : Prop := improveExamplesRow.holds Try.pinned (OpenSpec.ofChange improveExamplesWrong)

/-- 'sentinellaw32.ImproveMonotone': WHATEVER THE INPUT: true; the input reads as it did. -/
def improveMonotoneSpec : ChangeSpec := { name := "improveMonotone", fn := fun _ => fun
  | [d1, d2, d3, d4] => { results := [.lit (.bool true)], args := [d1, d2, d3, d4] }
  | _ => none }
def improveMonotoneRow : OpenClaim := { program := "ytjkmbpaobkhlnaa", sum := "17a32d868f3d2f72dda2db5f49b8b6f414e3a115f73839d600c65e4e47b230a9", func := "sentinel/sentinellaw32.ImproveMonotone", spec := "improveMonotone", unfollowed := true, recurses := true, apart := false }
def ImproveMonotoneSaid : Prop := improveMonotoneRow.holds Try.pinned (OpenSpec.ofChange improveMonotoneSpec)

/-- ITS FALSE NEIGHBOUR: 'it returns false'. Refute it at one input. -/
def improveMonotoneWrong : ChangeSpec := { name := "improveMonotone", fn := fun _ => fun
  | [d1, d2, d3, d4] => { results := [.lit (.bool false)], args := [d1, d2, d3, d4] }
  | _ => none }
def ImproveMonotoneWrongFalsely : Prop := improveMonotoneRow.holds Try.pinned (OpenSpec.ofChange improveMonotoneWrong)

/-- 'sentinellaw32.ImproveSolve': WHATEVER THE INPUT: true; the input reads as it did. -/
def improveSolveSpec : ChangeSpec := { name := "improveSolve", fn := fun _ => fun
  | [d] => { results := [.lit (.bool true)], args := [d] }
  | _ => none }
def improveSolveRow : OpenClaim := { program := "ytjkmbpaobkhlnaa", sum := "17a32d868f3d2f72dda2db5f49b8b6f414e3a115f73839d600c65e4e47b230a9", func := "sentinel/sentinellaw32.ImproveSolve", spec := "improveSolve", unfollowed := true, recurses := true, apart := false }
def ImproveSolveSaid : Prop := improveSolveRow.holds Try.pinned (OpenSpec.ofChange improveSolveSpec)

/-- ITS FALSE NEIGHBOUR: 'it returns false'. Refute it at one input. -/
def improveSolveWrong : ChangeSpec := { name := "improveSolve", fn := fun _ => fun
  | [d] => { results := [.lit (.bool false)], args := [d] }
  | _ => none }
def ImproveSolveWrongFalsely : Prop := improveSolveRow.holds Try.pinned (OpenSpec.ofChange improveSolveWrong)

/-- 'sentinellaw33.CertifyAccepts': WHATEVER THE INPUT: true; the input reads as it did. -/
def certifyAcceptsSpec : ChangeSpec := { name := "certifyAccepts", fn := fun _ => fun
  | [d1, d2] => { results := [.lit (.bool true)], args := [d1, d2] }
  | _ => none }
def certifyAcceptsRow : OpenClaim := { program := "ytjkmbpaobkhlnaa", sum := "17a32d868f3d2f72dda2db5f49b8b6f414e3a115f73839d600c65e4e47b230a9", func := "sentinel/sentinellaw33.CertifyAccepts", spec := "certifyAccepts", unfollowed := true, recurses := true, apart := false }
def CertifyAcceptsSaid : Prop := certifyAcceptsRow.holds Try.pinned (OpenSpec.ofChange certifyAcceptsSpec)

/-- ITS FALSE NEIGHBOUR: 'it returns false'. Refute it at one input. -/
def certifyAcceptsWrong : ChangeSpec := { name := "certifyAccepts", fn := fun _ => fun
  | [d1, d2] => { results := [.lit (.bool false)], args := [d1, d2] }
  | _ => none }
def CertifyAcceptsWrongFalsely : Prop := certifyAcceptsRow.holds Try.pinned (OpenSpec.ofChange certifyAcceptsWrong)

/- THE SECOND FORM. 'bulk': how many values and letters a reading holds, each counted each time it is reached (what is shared counts as often as it is met; a slice's spare places count too). A statement '..UptoSaid' is the law's where the arguments, and the package variables that the reading takes, are together of bulk at most 1048576: NARROWER than '..Said'. Prove '..Said' where nothing that the law and all that it calls make is longer than what came in: it says more and counts as full. Else prove '..UptoSaid'. A law counts once. -/
mutual
def uptoBulk {H : Type} : DataW H → Nat
  | .lit (.string bytes) => bytes.length + 1
  | .lit _ => 1
  | .nil => 1
  | .ptr d => uptoBulk d + 1
  | .slice elems spare => uptoBulkAll elems + uptoBulkAll spare + 1
  | .agg parts => uptoBulkAll parts + 1
  | .iface _ d => uptoBulk d + 1
  | .map entries => uptoBulkEntries entries + 1
  | .held _ => 1
def uptoBulkAll {H : Type} : List (DataW H) → Nat
  | [] => 0
  | d :: r => uptoBulk d + uptoBulkAll r
def uptoBulkEntries {H : Type} : List (Lit × DataW H) → Nat
  | [] => 0
  | x :: r => uptoBulkEntry x + uptoBulkEntries r
def uptoBulkEntry {H : Type} : Lit × DataW H → Nat
  | (.string bytes, d) => bytes.length + uptoBulk d + 1
  | (_, d) => uptoBulk d + 1
 end
def uptoSmall : (H : Type) → List (DataW H) → Bool := fun _ ds => decide (uptoBulkAll ds ≤ 1048576)
def OpenSpec.upto (s : _root_.Go.ChangeSpec) : _root_.Go.OpenSpec := { _root_.Go.OpenSpec.ofChange s with cond := some uptoSmall }

/-- 'sentinellaw30.ZielonkaMatches', WHERE WHAT IT READS IS OF BULK AT MOST 1048576: true; the input reads as it did. -/
def zielonkaMatchesUptoRow : OpenClaim := { program := "ytjkmbpaobkhlnaa", sum := "17a32d868f3d2f72dda2db5f49b8b6f414e3a115f73839d600c65e4e47b230a9", func := "sentinel/sentinellaw30.ZielonkaMatches", spec := "zielonkaMatches", unfollowed := true, recurses := true, apart := false, narrowed := true }
def ZielonkaMatchesUptoSaid : Prop := zielonkaMatchesUptoRow.holds Try.pinned (OpenSpec.upto zielonkaMatchesSpec)

/-- 'sentinellaw30.ZielonkaMonotone', WHERE WHAT IT READS IS OF BULK AT MOST 1048576: true; the input reads as it did. -/
def zielonkaMonotoneUptoRow : OpenClaim := { program := "ytjkmbpaobkhlnaa", sum := "17a32d868f3d2f72dda2db5f49b8b6f414e3a115f73839d600c65e4e47b230a9", func := "sentinel/sentinellaw30.ZielonkaMonotone", spec := "zielonkaMonotone", unfollowed := true, recurses := true, apart := false, narrowed := true }
def ZielonkaMonotoneUptoSaid : Prop := zielonkaMonotoneUptoRow.holds Try.pinned (OpenSpec.upto zielonkaMonotoneSpec)

/-- 'sentinellaw30.ZielonkaRegions', WHERE WHAT IT READS IS OF BULK AT MOST 1048576: true; the input reads as it did. -/
def zielonkaRegionsUptoRow : OpenClaim := { program := "ytjkmbpaobkhlnaa", sum := "17a32d868f3d2f72dda2db5f49b8b6f414e3a115f73839d600c65e4e47b230a9", func := "sentinel/sentinellaw30.ZielonkaRegions", spec := "zielonkaRegions", unfollowed := true, recurses := true, apart := false, narrowed := true }
def ZielonkaRegionsUptoSaid : Prop := zielonkaRegionsUptoRow.holds Try.pinned (OpenSpec.upto zielonkaRegionsSpec)

/-- 'sentinellaw30.ZielonkaExamples', WHERE WHAT IT READS IS OF BULK AT MOST 1048576: true; the input reads as it did. -/
def zielonkaExamplesUptoRow : OpenClaim := { program := "ytjkmbpaobkhlnaa", sum := "17a32d868f3d2f72dda2db5f49b8b6f414e3a115f73839d600c65e4e47b230a9", func := "sentinel/sentinellaw30.ZielonkaExamples", spec := "zielonkaExamples", unfollowed := true, recurses := true, apart := false, narrowed := true }
def ZielonkaExamplesUptoSaid : Prop := zielonkaExamplesUptoRow.holds Try.pinned (OpenSpec.upto zielonkaExamplesSpec)

/-- 'sentinellaw30.ZielonkaDual', WHERE WHAT IT READS IS OF BULK AT MOST 1048576: true; the input reads as it did. -/
def zielonkaDualUptoRow : OpenClaim := { program := "ytjkmbpaobkhlnaa", sum := "17a32d868f3d2f72dda2db5f49b8b6f414e3a115f73839d600c65e4e47b230a9", func := "sentinel/sentinellaw30.ZielonkaDual", spec := "zielonkaDual", unfollowed := true, recurses := true, apart := false, narrowed := true }
def ZielonkaDualUptoSaid : Prop := zielonkaDualUptoRow.holds Try.pinned (OpenSpec.upto zielonkaDualSpec)

/-- 'sentinellaw33.CertifyRefutes', WHERE WHAT IT READS IS OF BULK AT MOST 1048576: true; the input reads as it did. -/
def certifyRefutesUptoRow : OpenClaim := { program := "ytjkmbpaobkhlnaa", sum := "17a32d868f3d2f72dda2db5f49b8b6f414e3a115f73839d600c65e4e47b230a9", func := "sentinel/sentinellaw33.CertifyRefutes", spec := "certifyRefutes", unfollowed := true, recurses := true, apart := false, narrowed := true }
def CertifyRefutesUptoSaid : Prop := certifyRefutesUptoRow.holds Try.pinned (OpenSpec.upto certifyRefutesSpec)

/-- 'sentinellaw33.CertifyExamples', WHERE WHAT IT READS IS OF BULK AT MOST 1048576: true; the input reads as it did. -/
def certifyExamplesUptoRow : OpenClaim := { program := "ytjkmbpaobkhlnaa", sum := "17a32d868f3d2f72dda2db5f49b8b6f414e3a115f73839d600c65e4e47b230a9", func := "sentinel/sentinellaw33.CertifyExamples", spec := "certifyExamples", unfollowed := true, recurses := true, apart := false, narrowed := true }
def CertifyExamplesUptoSaid : Prop := certifyExamplesUptoRow.holds Try.pinned (OpenSpec.upto certifyExamplesSpec)

/-- 'sentinellaw33.CertifyMatches', WHERE WHAT IT READS IS OF BULK AT MOST 1048576: true; the input reads as it did. -/
def certifyMatchesUptoRow : OpenClaim := { program := "ytjkmbpaobkhlnaa", sum := "17a32d868f3d2f72dda2db5f49b8b6f414e3a115f73839d600c65e4e47b230a9", func := "sentinel/sentinellaw33.CertifyMatches", spec := "certifyMatches", unfollowed := true, recurses := true, apart := false, narrowed := true }
def CertifyMatchesUptoSaid : Prop := certifyMatchesUptoRow.holds Try.pinned (OpenSpec.upto certifyMatchesSpec)

/-- 'sentinellaw31.ProgressAfter', WHERE WHAT IT READS IS OF BULK AT MOST 1048576: true; the input reads as it did. -/
def progressAfterUptoRow : OpenClaim := { program := "ytjkmbpaobkhlnaa", sum := "17a32d868f3d2f72dda2db5f49b8b6f414e3a115f73839d600c65e4e47b230a9", func := "sentinel/sentinellaw31.ProgressAfter", spec := "progressAfter", unfollowed := true, recurses := true, apart := false, narrowed := true }
def ProgressAfterUptoSaid : Prop := progressAfterUptoRow.holds Try.pinned (OpenSpec.upto progressAfterSpec)

/-- 'sentinellaw30.ZielonkaRestrict', WHERE WHAT IT READS IS OF BULK AT MOST 1048576: true; the input reads as it did. -/
def zielonkaRestrictUptoRow : OpenClaim := { program := "ytjkmbpaobkhlnaa", sum := "17a32d868f3d2f72dda2db5f49b8b6f414e3a115f73839d600c65e4e47b230a9", func := "sentinel/sentinellaw30.ZielonkaRestrict", spec := "zielonkaRestrict", unfollowed := true, recurses := true, apart := false, narrowed := true }
def ZielonkaRestrictUptoSaid : Prop := zielonkaRestrictUptoRow.holds Try.pinned (OpenSpec.upto zielonkaRestrictSpec)

/-- 'sentinellaw29.ArenaMatches', WHERE WHAT IT READS IS OF BULK AT MOST 1048576: true; the input reads as it did. -/
def arenaMatchesUptoRow : OpenClaim := { program := "ytjkmbpaobkhlnaa", sum := "17a32d868f3d2f72dda2db5f49b8b6f414e3a115f73839d600c65e4e47b230a9", func := "sentinel/sentinellaw29.ArenaMatches", spec := "arenaMatches", unfollowed := true, recurses := true, apart := false, narrowed := true }
def ArenaMatchesUptoSaid : Prop := arenaMatchesUptoRow.holds Try.pinned (OpenSpec.upto arenaMatchesSpec)

/-- 'sentinellaw29.ArenaPlaysMatch', WHERE WHAT IT READS IS OF BULK AT MOST 1048576: true; the input reads as it did. -/
def arenaPlaysMatchUptoRow : OpenClaim := { program := "ytjkmbpaobkhlnaa", sum := "17a32d868f3d2f72dda2db5f49b8b6f414e3a115f73839d600c65e4e47b230a9", func := "sentinel/sentinellaw29.ArenaPlaysMatch", spec := "arenaPlaysMatch", unfollowed := true, recurses := true, apart := false, narrowed := true }
def ArenaPlaysMatchUptoSaid : Prop := arenaPlaysMatchUptoRow.holds Try.pinned (OpenSpec.upto arenaPlaysMatchSpec)

/-- 'sentinellaw29.ArenaReaches', WHERE WHAT IT READS IS OF BULK AT MOST 1048576: true; the input reads as it did. -/
def arenaReachesUptoRow : OpenClaim := { program := "ytjkmbpaobkhlnaa", sum := "17a32d868f3d2f72dda2db5f49b8b6f414e3a115f73839d600c65e4e47b230a9", func := "sentinel/sentinellaw29.ArenaReaches", spec := "arenaReaches", unfollowed := true, recurses := true, apart := false, narrowed := true }
def ArenaReachesUptoSaid : Prop := arenaReachesUptoRow.holds Try.pinned (OpenSpec.upto arenaReachesSpec)

/-- 'sentinellaw29.ArenaMonotone', WHERE WHAT IT READS IS OF BULK AT MOST 1048576: true; the input reads as it did. -/
def arenaMonotoneUptoRow : OpenClaim := { program := "ytjkmbpaobkhlnaa", sum := "17a32d868f3d2f72dda2db5f49b8b6f414e3a115f73839d600c65e4e47b230a9", func := "sentinel/sentinellaw29.ArenaMonotone", spec := "arenaMonotone", unfollowed := true, recurses := true, apart := false, narrowed := true }
def ArenaMonotoneUptoSaid : Prop := arenaMonotoneUptoRow.holds Try.pinned (OpenSpec.upto arenaMonotoneSpec)

/-- 'sentinellaw31.ProgressMatches', WHERE WHAT IT READS IS OF BULK AT MOST 1048576: true; the input reads as it did. -/
def progressMatchesUptoRow : OpenClaim := { program := "ytjkmbpaobkhlnaa", sum := "17a32d868f3d2f72dda2db5f49b8b6f414e3a115f73839d600c65e4e47b230a9", func := "sentinel/sentinellaw31.ProgressMatches", spec := "progressMatches", unfollowed := true, recurses := true, apart := false, narrowed := true }
def ProgressMatchesUptoSaid : Prop := progressMatchesUptoRow.holds Try.pinned (OpenSpec.upto progressMatchesSpec)

/-- 'sentinellaw31.ProgressLift', WHERE WHAT IT READS IS OF BULK AT MOST 1048576: true; the input reads as it did. -/
def progressLiftUptoRow : OpenClaim := { program := "ytjkmbpaobkhlnaa", sum := "17a32d868f3d2f72dda2db5f49b8b6f414e3a115f73839d600c65e4e47b230a9", func := "sentinel/sentinellaw31.ProgressLift", spec := "progressLift", unfollowed := true, recurses := true, apart := false, narrowed := true }
def ProgressLiftUptoSaid : Prop := progressLiftUptoRow.holds Try.pinned (OpenSpec.upto progressLiftSpec)

/-- 'sentinellaw31.ProgressLeast', WHERE WHAT IT READS IS OF BULK AT MOST 1048576: true; the input reads as it did. -/
def progressLeastUptoRow : OpenClaim := { program := "ytjkmbpaobkhlnaa", sum := "17a32d868f3d2f72dda2db5f49b8b6f414e3a115f73839d600c65e4e47b230a9", func := "sentinel/sentinellaw31.ProgressLeast", spec := "progressLeast", unfollowed := true, recurses := true, apart := false, narrowed := true }
def ProgressLeastUptoSaid : Prop := progressLeastUptoRow.holds Try.pinned (OpenSpec.upto progressLeastSpec)

/-- 'sentinellaw31.ProgressClosed', WHERE WHAT IT READS IS OF BULK AT MOST 1048576: true; the input reads as it did. -/
def progressClosedUptoRow : OpenClaim := { program := "ytjkmbpaobkhlnaa", sum := "17a32d868f3d2f72dda2db5f49b8b6f414e3a115f73839d600c65e4e47b230a9", func := "sentinel/sentinellaw31.ProgressClosed", spec := "progressClosed", unfollowed := true, recurses := true, apart := false, narrowed := true }
def ProgressClosedUptoSaid : Prop := progressClosedUptoRow.holds Try.pinned (OpenSpec.upto progressClosedSpec)

/-- 'sentinellaw31.ProgressExamples', WHERE WHAT IT READS IS OF BULK AT MOST 1048576: true; the input reads as it did. -/
def progressExamplesUptoRow : OpenClaim := { program := "ytjkmbpaobkhlnaa", sum := "17a32d868f3d2f72dda2db5f49b8b6f414e3a115f73839d600c65e4e47b230a9", func := "sentinel/sentinellaw31.ProgressExamples", spec := "progressExamples", unfollowed := true, recurses := true, apart := false, narrowed := true }
def ProgressExamplesUptoSaid : Prop := progressExamplesUptoRow.holds Try.pinned (OpenSpec.upto progressExamplesSpec)

/-- 'sentinellaw33.CertifyDual', WHERE WHAT IT READS IS OF BULK AT MOST 1048576: true; the input reads as it did. -/
def certifyDualUptoRow : OpenClaim := { program := "ytjkmbpaobkhlnaa", sum := "17a32d868f3d2f72dda2db5f49b8b6f414e3a115f73839d600c65e4e47b230a9", func := "sentinel/sentinellaw33.CertifyDual", spec := "certifyDual", unfollowed := true, recurses := true, apart := false, narrowed := true }
def CertifyDualUptoSaid : Prop := certifyDualUptoRow.holds Try.pinned (OpenSpec.upto certifyDualSpec)

/-- 'sentinellaw29.ArenaDual', WHERE WHAT IT READS IS OF BULK AT MOST 1048576: true; the input reads as it did. -/
def arenaDualUptoRow : OpenClaim := { program := "ytjkmbpaobkhlnaa", sum := "17a32d868f3d2f72dda2db5f49b8b6f414e3a115f73839d600c65e4e47b230a9", func := "sentinel/sentinellaw29.ArenaDual", spec := "arenaDual", unfollowed := true, recurses := true, apart := false, narrowed := true }
def ArenaDualUptoSaid : Prop := arenaDualUptoRow.holds Try.pinned (OpenSpec.upto arenaDualSpec)

/-- 'sentinellaw33.CertifyPlays', WHERE WHAT IT READS IS OF BULK AT MOST 1048576: true; the input reads as it did. -/
def certifyPlaysUptoRow : OpenClaim := { program := "ytjkmbpaobkhlnaa", sum := "17a32d868f3d2f72dda2db5f49b8b6f414e3a115f73839d600c65e4e47b230a9", func := "sentinel/sentinellaw33.CertifyPlays", spec := "certifyPlays", unfollowed := true, recurses := true, apart := false, narrowed := true }
def CertifyPlaysUptoSaid : Prop := certifyPlaysUptoRow.holds Try.pinned (OpenSpec.upto certifyPlaysSpec)

/-- 'sentinellaw29.ArenaAttractors', WHERE WHAT IT READS IS OF BULK AT MOST 1048576: true; the input reads as it did. -/
def arenaAttractorsUptoRow : OpenClaim := { program := "ytjkmbpaobkhlnaa", sum := "17a32d868f3d2f72dda2db5f49b8b6f414e3a115f73839d600c65e4e47b230a9", func := "sentinel/sentinellaw29.ArenaAttractors", spec := "arenaAttractors", unfollowed := true, recurses := true, apart := false, narrowed := true }
def ArenaAttractorsUptoSaid : Prop := arenaAttractorsUptoRow.holds Try.pinned (OpenSpec.upto arenaAttractorsSpec)

/-- 'sentinellaw30.ZielonkaReduced', WHERE WHAT IT READS IS OF BULK AT MOST 1048576: true; the input reads as it did. -/
def zielonkaReducedUptoRow : OpenClaim := { program := "ytjkmbpaobkhlnaa", sum := "17a32d868f3d2f72dda2db5f49b8b6f414e3a115f73839d600c65e4e47b230a9", func := "sentinel/sentinellaw30.ZielonkaReduced", spec := "zielonkaReduced", unfollowed := true, recurses := true, apart := false, narrowed := true }
def ZielonkaReducedUptoSaid : Prop := zielonkaReducedUptoRow.holds Try.pinned (OpenSpec.upto zielonkaReducedSpec)

/-- 'sentinellaw29.ArenaGamesMatch', WHERE WHAT IT READS IS OF BULK AT MOST 1048576: true; the input reads as it did. -/
def arenaGamesMatchUptoRow : OpenClaim := { program := "ytjkmbpaobkhlnaa", sum := "17a32d868f3d2f72dda2db5f49b8b6f414e3a115f73839d600c65e4e47b230a9", func := "sentinel/sentinellaw29.ArenaGamesMatch", spec := "arenaGamesMatch", unfollowed := true, recurses := true, apart := false, narrowed := true }
def ArenaGamesMatchUptoSaid : Prop := arenaGamesMatchUptoRow.holds Try.pinned (OpenSpec.upto arenaGamesMatchSpec)

/-- 'sentinellaw29.ArenaExamples', WHERE WHAT IT READS IS OF BULK AT MOST 1048576: true; the input reads as it did. -/
def arenaExamplesUptoRow : OpenClaim := { program := "ytjkmbpaobkhlnaa", sum := "17a32d868f3d2f72dda2db5f49b8b6f414e3a115f73839d600c65e4e47b230a9", func := "sentinel/sentinellaw29.ArenaExamples", spec := "arenaExamples", unfollowed := true, recurses := true, apart := false, narrowed := true }
def ArenaExamplesUptoSaid : Prop := arenaExamplesUptoRow.holds Try.pinned (OpenSpec.upto arenaExamplesSpec)

/-- 'sentinellaw33.CertifyRejects', WHERE WHAT IT READS IS OF BULK AT MOST 1048576: true; the input reads as it did. -/
def certifyRejectsUptoRow : OpenClaim := { program := "ytjkmbpaobkhlnaa", sum := "17a32d868f3d2f72dda2db5f49b8b6f414e3a115f73839d600c65e4e47b230a9", func := "sentinel/sentinellaw33.CertifyRejects", spec := "certifyRejects", unfollowed := true, recurses := true, apart := false, narrowed := true }
def CertifyRejectsUptoSaid : Prop := certifyRejectsUptoRow.holds Try.pinned (OpenSpec.upto certifyRejectsSpec)

/-- 'sentinellaw30.ZielonkaDeterminacy', WHERE WHAT IT READS IS OF BULK AT MOST 1048576: true; the input reads as it did. -/
def zielonkaDeterminacyUptoRow : OpenClaim := { program := "ytjkmbpaobkhlnaa", sum := "17a32d868f3d2f72dda2db5f49b8b6f414e3a115f73839d600c65e4e47b230a9", func := "sentinel/sentinellaw30.ZielonkaDeterminacy", spec := "zielonkaDeterminacy", unfollowed := true, recurses := true, apart := false, narrowed := true }
def ZielonkaDeterminacyUptoSaid : Prop := zielonkaDeterminacyUptoRow.holds Try.pinned (OpenSpec.upto zielonkaDeterminacySpec)

/-- 'sentinellaw31.ProgressZielonka', WHERE WHAT IT READS IS OF BULK AT MOST 1048576: true; the input reads as it did. -/
def progressZielonkaUptoRow : OpenClaim := { program := "ytjkmbpaobkhlnaa", sum := "17a32d868f3d2f72dda2db5f49b8b6f414e3a115f73839d600c65e4e47b230a9", func := "sentinel/sentinellaw31.ProgressZielonka", spec := "progressZielonka", unfollowed := true, recurses := true, apart := false, narrowed := true }
def ProgressZielonkaUptoSaid : Prop := progressZielonkaUptoRow.holds Try.pinned (OpenSpec.upto progressZielonkaSpec)

/-- 'sentinellaw32.ImproveValuationMatches', WHERE WHAT IT READS IS OF BULK AT MOST 1048576: true; the input reads as it did. -/
def improveValuationMatchesUptoRow : OpenClaim := { program := "ytjkmbpaobkhlnaa", sum := "17a32d868f3d2f72dda2db5f49b8b6f414e3a115f73839d600c65e4e47b230a9", func := "sentinel/sentinellaw32.ImproveValuationMatches", spec := "improveValuationMatches", unfollowed := true, recurses := true, apart := false, narrowed := true }
def ImproveValuationMatchesUptoSaid : Prop := improveValuationMatchesUptoRow.holds Try.pinned (OpenSpec.upto improveValuationMatchesSpec)

/-- 'sentinellaw32.ImproveMatches', WHERE WHAT IT READS IS OF BULK AT MOST 1048576: true; the input reads as it did. -/
def improveMatchesUptoRow : OpenClaim := { program := "ytjkmbpaobkhlnaa", sum := "17a32d868f3d2f72dda2db5f49b8b6f414e3a115f73839d600c65e4e47b230a9", func := "sentinel/sentinellaw32.ImproveMatches", spec := "improveMatches", unfollowed := true, recurses := true, apart := false, narrowed := true }
def ImproveMatchesUptoSaid : Prop := improveMatchesUptoRow.holds Try.pinned (OpenSpec.upto improveMatchesSpec)

/-- 'sentinellaw32.ImproveBounds', WHERE WHAT IT READS IS OF BULK AT MOST 1048576: true; the input reads as it did. -/
def improveBoundsUptoRow : OpenClaim := { program := "ytjkmbpaobkhlnaa", sum := "17a32d868f3d2f72dda2db5f49b8b6f414e3a115f73839d600c65e4e47b230a9", func := "sentinel/sentinellaw32.ImproveBounds", spec := "improveBounds", unfollowed := true, recurses := true, apart := false, narrowed := true }
def ImproveBoundsUptoSaid : Prop := improveBoundsUptoRow.holds Try.pinned (OpenSpec.upto improveBoundsSpec)

/-- 'sentinellaw32.ImproveOrder', WHERE WHAT IT READS IS OF BULK AT MOST 1048576: true; the input reads as it did. -/
def improveOrderUptoRow : OpenClaim := { program := "ytjkmbpaobkhlnaa", sum := "17a32d868f3d2f72dda2db5f49b8b6f414e3a115f73839d600c65e4e47b230a9", func := "sentinel/sentinellaw32.ImproveOrder", spec := "improveOrder", unfollowed := true, recurses := true, apart := false, narrowed := true }
def ImproveOrderUptoSaid : Prop := improveOrderUptoRow.holds Try.pinned (OpenSpec.upto improveOrderSpec)

/-- 'sentinellaw32.ImproveExamples', WHERE WHAT IT READS IS OF BULK AT MOST 1048576: true; the input reads as it did. -/
def improveExamplesUptoRow : OpenClaim := { program := "ytjkmbpaobkhlnaa", sum := "17a32d868f3d2f72dda2db5f49b8b6f414e3a115f73839d600c65e4e47b230a9", func := "sentinel/sentinellaw32.ImproveExamples", spec := "improveExamples", unfollowed := true, recurses := true, apart := false, narrowed := true }
def ImproveExamplesUptoSaid : Prop := improveExamplesUptoRow.holds Try.pinned (OpenSpec.upto improveExamplesSpec)

/-- 'sentinellaw32.ImproveMonotone', WHERE WHAT IT READS IS OF BULK AT MOST 1048576: true; the input reads as it did. -/
def improveMonotoneUptoRow : OpenClaim := { program := "ytjkmbpaobkhlnaa", sum := "17a32d868f3d2f72dda2db5f49b8b6f414e3a115f73839d600c65e4e47b230a9", func := "sentinel/sentinellaw32.ImproveMonotone", spec := "improveMonotone", unfollowed := true, recurses := true, apart := false, narrowed := true }
def ImproveMonotoneUptoSaid : Prop := improveMonotoneUptoRow.holds Try.pinned (OpenSpec.upto improveMonotoneSpec)

/-- 'sentinellaw32.ImproveSolve', WHERE WHAT IT READS IS OF BULK AT MOST 1048576: true; the input reads as it did. -/
def improveSolveUptoRow : OpenClaim := { program := "ytjkmbpaobkhlnaa", sum := "17a32d868f3d2f72dda2db5f49b8b6f414e3a115f73839d600c65e4e47b230a9", func := "sentinel/sentinellaw32.ImproveSolve", spec := "improveSolve", unfollowed := true, recurses := true, apart := false, narrowed := true }
def ImproveSolveUptoSaid : Prop := improveSolveUptoRow.holds Try.pinned (OpenSpec.upto improveSolveSpec)

/-- 'sentinellaw33.CertifyAccepts', WHERE WHAT IT READS IS OF BULK AT MOST 1048576: true; the input reads as it did. -/
def certifyAcceptsUptoRow : OpenClaim := { program := "ytjkmbpaobkhlnaa", sum := "17a32d868f3d2f72dda2db5f49b8b6f414e3a115f73839d600c65e4e47b230a9", func := "sentinel/sentinellaw33.CertifyAccepts", spec := "certifyAccepts", unfollowed := true, recurses := true, apart := false, narrowed := true }
def CertifyAcceptsUptoSaid : Prop := certifyAcceptsUptoRow.holds Try.pinned (OpenSpec.upto certifyAcceptsSpec)

end Rows
end Go.Proofs.Ytjkmbpaobkhlnaa
