/- The law ImproveValuationMatches returns true for all arguments: its run on plain data is shown in the texts that this one imports; the examples that it evaluates are run by the kernel. -/
import Derived.Test.YtgapkfaikhlipaaRows
import Derived.Test.YtgapkfaikhlipaaAmEnd2
import Derived.Test.YtgapkfaikhlipaaImproveValuationMatchesTab
import Derived.Test.YtgapkfaikhlipaaImproveValuationMatchesG6
set_option linter.unusedVariables false
namespace Go.Proofs.Ytgapkfaikhlipaa.improveValuationMatches
open Go.Am Go.ChangeShapes Go.WideShapes Go.ChangeAt Go.RowKit

theorem tys : tysOf Try.prog 20 Try.f3.params.toList = some [Go.Am.Ar.gameTy, .slice (.int .i64)] := by kernel_rfl
theorem reads : (Try.f3.params.toList.all fun t => Try.prog.readableRec t && decide (t < Try.prog.types.size)) = true := by kernel_rfl
theorem npar : Try.f3.params.toList.length = 2 := by kernel_rfl

set_option maxRecDepth 100000 in
theorem lifted (os : Os) (started : os.Started) (H : Type) (enc : TypeId × Value → H) :
    ReturnsInHanded {} Try.checked os 3 .any (Rows.improveValuationMatchesSpec.pre6 enc Try.prog Try.f3 Rows.improveValuationMatchesRow.domain false) (Rows.improveValuationMatchesSpec.post enc Try.prog Try.f3 false true false false) := by
  refine returnsInHanded_of_change (C := Try.checked) Facts.own started (by kernel_rfl) Try.func3
    (ChangeSpec.witness6 (enc := enc) (C := Try.checked) false ⟨#[], #[.agg #[.slice none 0 0, .slice none 0 0, .slice none 0 0], .slice none 0 0], []⟩ 8 (by kernel_rfl) (by kernel_rfl) (by kernel_rfl) (by kernel_rfl)) ?_
  intro W base args ds gs before hval0 hW hcnd _
  have hW' := hW
  have hlt := hW.lt
  obtain ⟨p, q, hA, hV, rfl, hfz, hnd⟩ := hW
  obtain ⟨rfl, rfl⟩ := trodVars_none hV
  have hcall := calls_law (KT.tabOk ImproveValuationMatchesTab.tree_ok) (g := 3) (m := 20) tys (fun a h hs => Go.Am.Ar.ivalm_all ImproveValuationMatchesTab.has a h hs) hA (r := .any) (base := base) (fun j t v ht hv => hval0 j t v (by simpa using ht) (by simpa using hv))
  simp only [List.append_nil] at hW' hlt
  rw [Array.toArray_toList] at hcall
  have hlen := trodAll_len hA
  rw [npar] at hlen
  refine hcall.mono fun e W' ⟨he, hg⟩ => ?_
  subst he
  match ds, hlen with
  | [d1, d2], _ =>
    exact ⟨_, rfl, post_of_below (pa := p) (pv := []) hW' (fun _ _ _ => (trodAll_cons_mk (shut_bool Try.underlying4 _) trodAll_mk0)) (fun sp hsp => trodAll_stays Facts.laid hg reads hA hlt hsp) (fun _ _ => rfl) (List.append_nil p).symm
      hg (ok_one (by kernel_rfl) rfl (okWide_bool_mk Try.underlying4 _))⟩

set_option maxRecDepth 100000 in
theorem named : Try.prog.funcNamed Rows.improveValuationMatchesRow.func = some 3 := by kernel_rfl
set_option maxRecDepth 100000 in
theorem inplace : (Rows.improveValuationMatchesRow.inPlace == Try.prog.inPlace 3) = true := by kernel_rfl
set_option maxRecDepth 100000 in
theorem unfollowed : Try.prog.unfollowed 3 = true := by kernel_rfl
theorem recurses : (Rows.improveValuationMatchesRow.recurses == Try.prog.recurses 3) = true := by unfold Program.recurses; rw [unfollowed]; rfl
set_option maxRecDepth 100000 in
theorem varsn : (Rows.improveValuationMatchesRow.named == Try.prog.varsNamed 3) = true := by kernel_rfl
set_option maxRecDepth 100000 in
theorem closed : joinedFacts Try.prog 3 Try.f3 Rows.improveValuationMatchesSpec Rows.improveValuationMatchesRow = true := by
  simp only [joinedFacts, Bool.and_eq_true]
  repeat' apply And.intro
  all_goals first
    | with_reducible exact Facts.laid
    | with_reducible exact Facts.mapsR
    | with_reducible exact Facts.stops
    | with_reducible exact Facts.stopKnobs
    | with_reducible exact inplace
    | with_reducible exact recurses
    | with_reducible exact varsn
    | with_reducible exact Facts.heard
    | with_reducible exact Facts.may
    | (rw [unfollowed]; rfl)
    | (rw [Facts.plainK]; rfl)
    | (rw [Facts.lifts]; rfl)
    | (rw [Facts.make]; rfl)
    | kernel_rfl

theorem over : Rows.improveValuationMatchesRow.holds Try.pinned (OpenSpec.ofChange Rows.improveValuationMatchesSpec) :=
  OpenClaim.holds_of_wide 3 Try.f3 rfl rfl rfl rfl rfl rfl rfl ⟨rfl, rfl, rfl, rfl, rfl⟩ rfl rfl rfl rfl rfl named Try.func3 closed
    (of_decide_eq_true (by kernel_rfl)) (by unfold Func.isWrapper; first | (rw [if_pos (by decide +kernel)]; kernel_rfl) | (rw [if_neg (by decide +kernel)]; exact ⟨rfl, rfl⟩))
    (fun os started H enc _ => lifted os started H enc)

theorem proved : Rows.ImproveValuationMatchesSaid := over
#print axioms proved
end Go.Proofs.Ytgapkfaikhlipaa.improveValuationMatches
