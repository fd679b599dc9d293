/- The law SubsetReturns returns true for all arguments: its run on plain data is shown in the texts that this one imports; the examples that it evaluates are run by the kernel. -/
import Derived.Test.YtbcdfmecpjbeaaaDoorRows
import Derived.Test.YtbcdfmecpjbeaaaDoorAmEnd2

import Derived.Test.YtbcdfmecpjbeaaaDoorSubsetReturnsTab
import Derived.Test.YtbcdfmecpjbeaaaDoorSubsetReturnsG6
import Derived.Test.YtbcdfmecpjbeaaaDoorMzDoor
import Derived.Test.YtbcdfmecpjbeaaaDoorCards
import Derived.Test.YtbcdfmecpjbeaaaDoorTie
import Derived.SevenTiedAt
set_option linter.unusedVariables false
namespace Go.Proofs.YtbcdfmecpjbeaaaDoor.subsetReturns
open Go.Am Go.ChangeShapes Go.WideShapes Go.ChangeAt Go.RowKit

theorem tys : tysOf Tryd.prog 20 Tryd.f11.params.toList = some [Go.Am.Ar.dfaTy, .slice (.int .u8)] := by kernel_rfl
theorem reads : (Tryd.f11.params.toList.all fun t => Tryd.prog.readableRec t && decide (t < Tryd.prog.types.size)) = true := by kernel_rfl
theorem npar : Tryd.f11.params.toList.length = 2 := by kernel_rfl

set_option maxRecDepth 100000 in
theorem lifted (os : Os) (started : os.Started) (H : Type) (enc : TypeId × Value → H) :
    ReturnsInHanded {} Tryd.checked os 11 .any (fun w args => (Rows.subsetReturnsSpec.pre enc Tryd.prog Tryd.f11 Rows.subsetReturnsRow.domain false w args ∧ laidMetH Tryd.prog Rows.subsetReturnsRow.laid w) ∧ sizedMet enc Tryd.prog Tryd.f11 (OpenSpec.ofChange Rows.subsetReturnsSpec) false w args) (Rows.subsetReturnsSpec.post enc Tryd.prog Tryd.f11 false true false false) := by
  refine returnsInHanded_of_change_and (C := Tryd.checked) (X := fun w _ => laidMetH Tryd.prog Rows.subsetReturnsRow.laid w) (fun _ _ _ hh h => h.of_heap hh) Facts.own started (by kernel_rfl) Tryd.func11
    (ChangeSpec.witness_at (enc := enc) (C := Tryd.checked) (os := os) (X := fun w _ => laidMetH Tryd.prog Rows.subsetReturnsRow.laid w) false (Door.laidWorld os) #[.agg #[.int .i64 0, .int .i64 0, .slice none 0 0, .slice none 0 0], .slice none 0 0] 8 rfl (by kernel_rfl) (by kernel_rfl) (by kernel_rfl) (by kernel_rfl) (by kernel_rfl) (Door.met os _)) ?_
  intro W base args ds gs before hval0 hW hcnd hwt hL _
  have hW' := hW
  have hlt := hW.lt
  obtain ⟨p, q, hA, hV, rfl, hfz, hnd⟩ := hW
  obtain ⟨rfl, rfl⟩ := trodVars_none hV
  have hcall := calls_law (KT.tabOk SubsetReturnsTab.tree_ok) (g := 11) (m := 20) tys (fun a h hs => Go.Am.Ar.returns_all SubsetReturnsTab.has a h hs) hA (r := .any) (base := base) (fun j t v ht hv => hval0 j t v (by simpa using ht) (by simpa using hv)) (Door.glb hL)
  simp only [List.append_nil] at hW' hlt
  rw [Array.toArray_toList] at hcall
  have hlen := trodAll_len hA
  rw [npar] at hlen
  refine hcall.mono fun e W' ⟨he, hg⟩ => ?_
  subst he
  match ds, hlen with
  | [d1, d2], _ =>
    exact ⟨_, rfl, post_of_below (pa := p) (pv := []) hW' (fun _ _ _ => (trodAll_cons_mk (shut_bool Tryd.underlying4 _) trodAll_mk0)) (fun sp hsp => trodAll_stays Facts.laid hg reads hA hlt hsp) (fun _ _ => rfl) (List.append_nil p).symm
      hg (ok_one (by kernel_rfl) rfl (okWide_bool_mk Tryd.underlying4 _))⟩

set_option maxRecDepth 100000 in
theorem named : Tryd.prog.funcNamed Rows.subsetReturnsRow.func = some 11 := by kernel_rfl
set_option maxRecDepth 100000 in
theorem inplace : (Rows.subsetReturnsRow.inPlace == Tryd.prog.inPlace 11) = true := by kernel_rfl
set_option maxRecDepth 100000 in
theorem unfollowed : Tryd.prog.unfollowed 11 = true := by kernel_rfl
theorem recurses : (Rows.subsetReturnsRow.recurses == Tryd.prog.recurses 11) = true := by unfold Program.recurses; rw [unfollowed]; rfl
set_option maxRecDepth 100000 in
theorem varsn : (Rows.subsetReturnsRow.named == Tryd.prog.varsNamed 11) = true := by kernel_rfl
set_option maxRecDepth 100000 in
theorem closed : joinedFacts Tryd.prog 11 Tryd.f11 Rows.subsetReturnsSpec Rows.subsetReturnsRow = true := by
  simp only [joinedFacts, Bool.and_eq_true]
  repeat' apply And.intro
  all_goals first
    | with_reducible exact Facts.laid
    | with_reducible exact Facts.mapsR
    | with_reducible exact Facts.stops
    | with_reducible exact Facts.stopKnobs
    | with_reducible exact inplace
    | with_reducible exact recurses
    | with_reducible exact varsn
    | with_reducible exact Facts.heard
    | with_reducible exact Facts.may
    | (rw [unfollowed]; rfl)
    | (rw [Facts.plainK]; rfl)
    | (rw [Facts.lifts]; rfl)
    | (rw [Facts.make]; rfl)
    | kernel_rfl

theorem over : Rows.subsetReturnsRow.holds Tryd.pinned (OpenSpec.ofChange Rows.subsetReturnsSpec) :=
  OpenClaim.holds_of_wide 11 Tryd.f11 rfl rfl rfl rfl rfl rfl rfl ⟨rfl, rfl, rfl, rfl, rfl⟩ rfl rfl rfl rfl rfl named Tryd.func11 closed
    (of_decide_eq_true (by kernel_rfl)) (by unfold Func.isWrapper; first | (rw [if_pos (by decide +kernel)]; kernel_rfl) | (rw [if_neg (by decide +kernel)]; exact ⟨rfl, rfl⟩))
    (fun os started H enc _ => lifted os started H enc)

theorem row : Rows.SubsetReturnsSaid := over
theorem proved : Rows.SubsetReturnsCardSaid :=
  Claim7.holds_tied_plain_at .later [] [.data, .data, .data] true (true, "ab7c33b2f60790b3b55b036a80be96e66cd236564e034e5de6f39e429f85cf44") false
    row (fun _ h => by cases h) (by kernel_rfl) (fun _ h => by cases h) subsetReturns_row_tie rfl ⟨rfl, rfl⟩ (by kernel_rfl) rfl
    (fun f fn hf hfn => by
      obtain rfl : f = 11 := (Option.some.inj (named.symm.trans hf)).symm
      obtain rfl : fn = Tryd.f11 := (Option.some.inj (Tryd.func11.symm.trans hfn)).symm
      exact ⟨by kernel_rfl, fun j t ht => by
        have hm : t ∈ Tryd.f11.params.toList := List.mem_of_getElem? (by rw [Array.getElem?_toList]; exact ht)
        exact (show Tryd.prog.wantsStandIn t = false from (Bool.not_eq_true' _).mp (List.all_eq_true.1 (show (Tryd.f11.params.toList.all fun t => !Tryd.prog.wantsStandIn t) = true by kernel_rfl) t hm))⟩)
    (by kernel_rfl)
#print axioms proved
end Go.Proofs.YtbcdfmecpjbeaaaDoor.subsetReturns
