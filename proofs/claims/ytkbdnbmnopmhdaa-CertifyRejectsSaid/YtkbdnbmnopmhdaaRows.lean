/-
  No cell of these rows narrows 'for every input' (looked for: loops, veiled, ifaces, maps, wideKeys, modest, calm, conditions, laid).
  DERIVED. THE GIVEN ROWS OF THIS SEAT. 5 by the template 'for every input the law returns true; each argument reads behind the call as it read before'; 0 by the template 'total and deterministic' (their statements: YtkbdnbmnopmhdaaTotals.lean).
  GIVEN WITH THE SEED: the statements are not yours to turn. If you find one false, say at which input.
  Laid BY PROGRAM, IN A SANDBOX (cutbox-rows.mjs): the forced cells as the released guide's own fill.sh prints them over the translation 2cd8fec32319d1e4… (all of the seat's roots in one cut). By AI agents, Wed Nov 11 2026. No macro, syntax, notation, axiom, sorry.
-/
import Derived.Test.YtkbdnbmnopmhdaaChecked
import GoSem.Claim
import GoSem.ClaimJoined
import GoSem.ClaimMapViews
import Derived.JoinedTies
import Derived.KernelRfl
namespace Go.Proofs.Ytkbdnbmnopmhdaa
/- THE CELL 'sum', in the pinned program and in every row, IS THE sha256 OF THE DUMP (.gsa) THAT YtkbdnbmnopmhdaaProg.lean LOADS. Nothing in Lean hashes anything: it is a label: what it is worth is what the hold of that sum in a sandbox is worth. -/
noncomputable def Try.pinned : Pinned := { name := "ytkbdnbmnopmhdaa", sum := "2cd8fec32319d1e49e82bbddc6385a529fe1dc60d8b61f4220b8470ffefc8aef", checked := Try.checked }
namespace Rows
def none {H : Type} : Left H := { results := [], args := [] }

/-- 'sentinellaw33.CertifyRefutes': WHATEVER THE INPUT: true; the input reads as it did. -/
def certifyRefutesSpec : ChangeSpec := { name := "certifyRefutes", fn := fun _ => fun
  | [d1, d2] => { results := [.lit (.bool true)], args := [d1, d2] }
  | _ => none }
def certifyRefutesRow : OpenClaim := { program := "ytkbdnbmnopmhdaa", sum := "2cd8fec32319d1e49e82bbddc6385a529fe1dc60d8b61f4220b8470ffefc8aef", func := "sentinel/sentinellaw33.CertifyRefutes", spec := "certifyRefutes", unfollowed := true, recurses := true, apart := false }
def CertifyRefutesSaid : Prop := certifyRefutesRow.holds Try.pinned (OpenSpec.ofChange certifyRefutesSpec)

/-- ITS FALSE NEIGHBOUR: 'it returns false'. Refute it at one input. -/
def certifyRefutesWrong : ChangeSpec := { name := "certifyRefutes", fn := fun _ => fun
  | [d1, d2] => { results := [.lit (.bool false)], args := [d1, d2] }
  | _ => none }
def CertifyRefutesWrongFalsely : Prop := certifyRefutesRow.holds Try.pinned (OpenSpec.ofChange certifyRefutesWrong)

/-- 'sentinellaw33.CertifyMatches': WHATEVER THE INPUT: true; the input reads as it did. -/
def certifyMatchesSpec : ChangeSpec := { name := "certifyMatches", fn := fun _ => fun
  | [d1, d2] => { results := [.lit (.bool true)], args := [d1, d2] }
  | _ => none }
def certifyMatchesRow : OpenClaim := { program := "ytkbdnbmnopmhdaa", sum := "2cd8fec32319d1e49e82bbddc6385a529fe1dc60d8b61f4220b8470ffefc8aef", func := "sentinel/sentinellaw33.CertifyMatches", spec := "certifyMatches", unfollowed := true, recurses := true, apart := false }
def CertifyMatchesSaid : Prop := certifyMatchesRow.holds Try.pinned (OpenSpec.ofChange certifyMatchesSpec)

/-- ITS FALSE NEIGHBOUR: 'it returns false'. Refute it at one input. -/
def certifyMatchesWrong : ChangeSpec := { name := "certifyMatches", fn := fun _ => fun
  | [d1, d2] => { results := [.lit (.bool false)], args := [d1, d2] }
  | _ => none }
def CertifyMatchesWrongFalsely : Prop := certifyMatchesRow.holds Try.pinned (OpenSpec.ofChange certifyMatchesWrong)

/-- 'sentinellaw33.CertifyDual': WHATEVER THE INPUT: true; the input reads as it did. -/
def certifyDualSpec : ChangeSpec := { name := "certifyDual", fn := fun _ => fun
  | [d1, d2] => { results := [.lit (.bool true)], args := [d1, d2] }
  | _ => none }
def certifyDualRow : OpenClaim := { program := "ytkbdnbmnopmhdaa", sum := "2cd8fec32319d1e49e82bbddc6385a529fe1dc60d8b61f4220b8470ffefc8aef", func := "sentinel/sentinellaw33.CertifyDual", spec := "certifyDual", unfollowed := true, recurses := true, apart := false }
def CertifyDualSaid : Prop := certifyDualRow.holds Try.pinned (OpenSpec.ofChange certifyDualSpec)

/-- ITS FALSE NEIGHBOUR: 'it returns false'. Refute it at one input. -/
def certifyDualWrong : ChangeSpec := { name := "certifyDual", fn := fun _ => fun
  | [d1, d2] => { results := [.lit (.bool false)], args := [d1, d2] }
  | _ => none }
def CertifyDualWrongFalsely : Prop := certifyDualRow.holds Try.pinned (OpenSpec.ofChange certifyDualWrong)

/-- 'sentinellaw33.CertifyPlays': WHATEVER THE INPUT: true; the input reads as it did. -/
def certifyPlaysSpec : ChangeSpec := { name := "certifyPlays", fn := fun _ => fun
  | [d1, d2, d3, d4] => { results := [.lit (.bool true)], args := [d1, d2, d3, d4] }
  | _ => none }
def certifyPlaysRow : OpenClaim := { program := "ytkbdnbmnopmhdaa", sum := "2cd8fec32319d1e49e82bbddc6385a529fe1dc60d8b61f4220b8470ffefc8aef", func := "sentinel/sentinellaw33.CertifyPlays", spec := "certifyPlays", unfollowed := true, recurses := true, apart := false }
def CertifyPlaysSaid : Prop := certifyPlaysRow.holds Try.pinned (OpenSpec.ofChange certifyPlaysSpec)

/-- ITS FALSE NEIGHBOUR: 'it returns false'. Refute it at one input. -/
def certifyPlaysWrong : ChangeSpec := { name := "certifyPlays", fn := fun _ => fun
  | [d1, d2, d3, d4] => { results := [.lit (.bool false)], args := [d1, d2, d3, d4] }
  | _ => none }
def CertifyPlaysWrongFalsely : Prop := certifyPlaysRow.holds Try.pinned (OpenSpec.ofChange certifyPlaysWrong)

/-- 'sentinellaw33.CertifyRejects': WHATEVER THE INPUT: true; the input reads as it did. -/
def certifyRejectsSpec : ChangeSpec := { name := "certifyRejects", fn := fun _ => fun
  | [d1, d2] => { results := [.lit (.bool true)], args := [d1, d2] }
  | _ => none }
def certifyRejectsRow : OpenClaim := { program := "ytkbdnbmnopmhdaa", sum := "2cd8fec32319d1e49e82bbddc6385a529fe1dc60d8b61f4220b8470ffefc8aef", func := "sentinel/sentinellaw33.CertifyRejects", spec := "certifyRejects", unfollowed := true, recurses := true, apart := false }
def CertifyRejectsSaid : Prop := certifyRejectsRow.holds Try.pinned (OpenSpec.ofChange certifyRejectsSpec)

/-- ITS FALSE NEIGHBOUR: 'it returns false'. Refute it at one input. -/
def certifyRejectsWrong : ChangeSpec := { name := "certifyRejects", fn := fun _ => fun
  | [d1, d2] => { results := [.lit (.bool false)], args := [d1, d2] }
  | _ => none }
def CertifyRejectsWrongFalsely : Prop := certifyRejectsRow.holds Try.pinned (OpenSpec.ofChange certifyRejectsWrong)

/- THE SECOND FORM. 'bulk': how many values and letters a reading holds, each counted each time it is reached (what is shared counts as often as it is met; a slice's spare places count too). A statement '..UptoSaid' is the law's where the arguments, and the package variables that the reading takes, are together of bulk at most 1048576: NARROWER than '..Said'. Prove '..Said' where nothing that the law and all that it calls make is longer than what came in: it says more and counts as full. Else prove '..UptoSaid'. A law counts once. -/
mutual
def uptoBulk {H : Type} : DataW H → Nat
  | .lit (.string bytes) => bytes.length + 1
  | .lit _ => 1
  | .nil => 1
  | .ptr d => uptoBulk d + 1
  | .slice elems spare => uptoBulkAll elems + uptoBulkAll spare + 1
  | .agg parts => uptoBulkAll parts + 1
  | .iface _ d => uptoBulk d + 1
  | .map entries => uptoBulkEntries entries + 1
  | .held _ => 1
def uptoBulkAll {H : Type} : List (DataW H) → Nat
  | [] => 0
  | d :: r => uptoBulk d + uptoBulkAll r
def uptoBulkEntries {H : Type} : List (Lit × DataW H) → Nat
  | [] => 0
  | x :: r => uptoBulkEntry x + uptoBulkEntries r
def uptoBulkEntry {H : Type} : Lit × DataW H → Nat
  | (.string bytes, d) => bytes.length + uptoBulk d + 1
  | (_, d) => uptoBulk d + 1
 end
def uptoSmall : (H : Type) → List (DataW H) → Bool := fun _ ds => decide (uptoBulkAll ds ≤ 1048576)
def OpenSpec.upto (s : _root_.Go.ChangeSpec) : _root_.Go.OpenSpec := { _root_.Go.OpenSpec.ofChange s with cond := some uptoSmall }

/-- 'sentinellaw33.CertifyRefutes', WHERE WHAT IT READS IS OF BULK AT MOST 1048576: true; the input reads as it did. -/
def certifyRefutesUptoRow : OpenClaim := { program := "ytkbdnbmnopmhdaa", sum := "2cd8fec32319d1e49e82bbddc6385a529fe1dc60d8b61f4220b8470ffefc8aef", func := "sentinel/sentinellaw33.CertifyRefutes", spec := "certifyRefutes", unfollowed := true, recurses := true, apart := false, narrowed := true }
def CertifyRefutesUptoSaid : Prop := certifyRefutesUptoRow.holds Try.pinned (OpenSpec.upto certifyRefutesSpec)

/-- 'sentinellaw33.CertifyMatches', WHERE WHAT IT READS IS OF BULK AT MOST 1048576: true; the input reads as it did. -/
def certifyMatchesUptoRow : OpenClaim := { program := "ytkbdnbmnopmhdaa", sum := "2cd8fec32319d1e49e82bbddc6385a529fe1dc60d8b61f4220b8470ffefc8aef", func := "sentinel/sentinellaw33.CertifyMatches", spec := "certifyMatches", unfollowed := true, recurses := true, apart := false, narrowed := true }
def CertifyMatchesUptoSaid : Prop := certifyMatchesUptoRow.holds Try.pinned (OpenSpec.upto certifyMatchesSpec)

/-- 'sentinellaw33.CertifyDual', WHERE WHAT IT READS IS OF BULK AT MOST 1048576: true; the input reads as it did. -/
def certifyDualUptoRow : OpenClaim := { program := "ytkbdnbmnopmhdaa", sum := "2cd8fec32319d1e49e82bbddc6385a529fe1dc60d8b61f4220b8470ffefc8aef", func := "sentinel/sentinellaw33.CertifyDual", spec := "certifyDual", unfollowed := true, recurses := true, apart := false, narrowed := true }
def CertifyDualUptoSaid : Prop := certifyDualUptoRow.holds Try.pinned (OpenSpec.upto certifyDualSpec)

/-- 'sentinellaw33.CertifyPlays', WHERE WHAT IT READS IS OF BULK AT MOST 1048576: true; the input reads as it did. -/
def certifyPlaysUptoRow : OpenClaim := { program := "ytkbdnbmnopmhdaa", sum := "2cd8fec32319d1e49e82bbddc6385a529fe1dc60d8b61f4220b8470ffefc8aef", func := "sentinel/sentinellaw33.CertifyPlays", spec := "certifyPlays", unfollowed := true, recurses := true, apart := false, narrowed := true }
def CertifyPlaysUptoSaid : Prop := certifyPlaysUptoRow.holds Try.pinned (OpenSpec.upto certifyPlaysSpec)

/-- 'sentinellaw33.CertifyRejects', WHERE WHAT IT READS IS OF BULK AT MOST 1048576: true; the input reads as it did. -/
def certifyRejectsUptoRow : OpenClaim := { program := "ytkbdnbmnopmhdaa", sum := "2cd8fec32319d1e49e82bbddc6385a529fe1dc60d8b61f4220b8470ffefc8aef", func := "sentinel/sentinellaw33.CertifyRejects", spec := "certifyRejects", unfollowed := true, recurses := true, apart := false, narrowed := true }
def CertifyRejectsUptoSaid : Prop := certifyRejectsUptoRow.holds Try.pinned (OpenSpec.upto certifyRejectsSpec)

end Rows
end Go.Proofs.Ytkbdnbmnopmhdaa
