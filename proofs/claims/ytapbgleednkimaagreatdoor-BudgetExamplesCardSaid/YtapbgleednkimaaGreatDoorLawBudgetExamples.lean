/- The law BudgetExamples returns true for all arguments: its run on plain data is shown in the texts that this one imports; the examples that it evaluates are run by the kernel. -/
import Derived.Test.YtapbgleednkimaaGreatDoorRows
import Derived.Test.YtapbgleednkimaaGreatDoorAmKEnd

import Derived.Test.YtapbgleednkimaaGreatDoorBudgetExamplesTab
import Derived.Test.YtapbgleednkimaaGreatDoorBudgetExamplesG2
import Derived.Test.YtapbgleednkimaaGreatDoorMzDoor
import Derived.Test.YtapbgleednkimaaGreatDoorCards
import Derived.Test.YtapbgleednkimaaGreatDoorTie
import Derived.SevenTiedAt
set_option linter.unusedVariables false
namespace Go.Proofs.YtapbgleednkimaaGreatDoor.budgetExamples
open Go.Am Go.ChangeShapes Go.WideShapes Go.ChangeAt Go.RowKit

theorem tys : tysOf Tryz.prog 20 Tryz.f5.params.toList = some [] := by kernel_rfl
theorem reads : (Tryz.f5.params.toList.all fun t => Tryz.prog.readableRec t && decide (t < Tryz.prog.types.size)) = true := by kernel_rfl
theorem npar : Tryz.f5.params.toList.length = 0 := by kernel_rfl

set_option maxRecDepth 100000 in
theorem lifted (os : Os) (started : os.Started) (H : Type) (enc : TypeId × Value → H) :
    ReturnsInHanded {} Tryz.checked os 5 .any (fun w args => (Rows.budgetExamplesSpec.pre enc Tryz.prog Tryz.f5 Rows.budgetExamplesRow.domain false w args ∧ laidMetH Tryz.prog Rows.budgetExamplesRow.laid w) ∧ sizedMet enc Tryz.prog Tryz.f5 (OpenSpec.ofChange Rows.budgetExamplesSpec) false w args) (Rows.budgetExamplesSpec.post enc Tryz.prog Tryz.f5 false true false false) := by
  refine returnsInHanded_of_change_and (C := Tryz.checked) (X := fun w _ => laidMetH Tryz.prog Rows.budgetExamplesRow.laid w) (fun _ _ _ hh h => h.of_heap hh) Facts.own started (by kernel_rfl) Tryz.func5
    (ChangeSpec.witness_at (enc := enc) (C := Tryz.checked) (os := os) (X := fun w _ => laidMetH Tryz.prog Rows.budgetExamplesRow.laid w) false (Door.laidWorld os) #[] 8 rfl (by kernel_rfl) (by kernel_rfl) (by kernel_rfl) (by kernel_rfl) (by kernel_rfl) (Door.met os _)) ?_
  intro W base args ds gs before hval0 hW hcnd hwt hL _
  have hW' := hW
  have hlt := hW.lt
  obtain ⟨p, q, hA, hV, rfl, hfz, hnd⟩ := hW
  obtain ⟨rfl, rfl⟩ := trodVars_none hV
  have hcall := calls_law (KT.tabOk BudgetExamplesTab.tree_ok) (g := 5) (m := 20) tys (fun a h hs => Go.Am.Ar.bexamples_all BudgetExamplesTab.has a h hs) hA (r := .any) (base := base) (fun j t v ht hv => hval0 j t v (by simp at ht) (by simpa using hv)) (Door.glb hL)
  simp only [List.append_nil] at hW' hlt
  rw [Array.toArray_toList] at hcall
  have hlen := trodAll_len hA
  rw [npar] at hlen
  refine hcall.mono fun e W' ⟨he, hg⟩ => ?_
  subst he
  match ds, hlen with
  | [], _ =>
    exact ⟨_, rfl, post_of_below (pa := p) (pv := []) hW' (fun _ _ _ => (trodAll_cons_mk (shut_bool Tryz.underlying4 _) trodAll_mk0)) (fun sp hsp => trodAll_stays Facts.laid hg reads hA hlt hsp) (fun _ _ => rfl) (List.append_nil p).symm
      hg (ok_one (by kernel_rfl) rfl (okWide_bool_mk Tryz.underlying4 _))⟩

set_option maxRecDepth 100000 in
theorem named : Tryz.prog.funcNamed Rows.budgetExamplesRow.func = some 5 := by kernel_rfl
set_option maxRecDepth 100000 in
theorem inplace : (Rows.budgetExamplesRow.inPlace == Tryz.prog.inPlace 5) = true := by kernel_rfl
set_option maxRecDepth 100000 in
theorem unfollowed : Tryz.prog.unfollowed 5 = true := by kernel_rfl
theorem recurses : (Rows.budgetExamplesRow.recurses == Tryz.prog.recurses 5) = true := by unfold Program.recurses; rw [unfollowed]; rfl
set_option maxRecDepth 100000 in
theorem varsn : (Rows.budgetExamplesRow.named == Tryz.prog.varsNamed 5) = true := by kernel_rfl
set_option maxRecDepth 100000 in
theorem closed : joinedFacts Tryz.prog 5 Tryz.f5 Rows.budgetExamplesSpec Rows.budgetExamplesRow = true := by
  simp only [joinedFacts, Bool.and_eq_true]
  repeat' apply And.intro
  all_goals first
    | with_reducible exact Facts.laid
    | with_reducible exact Facts.mapsR
    | with_reducible exact Facts.stops
    | with_reducible exact Facts.stopKnobs
    | with_reducible exact inplace
    | with_reducible exact recurses
    | with_reducible exact varsn
    | with_reducible exact Facts.heard
    | with_reducible exact Facts.may
    | (rw [unfollowed]; rfl)
    | (rw [Facts.plainK]; rfl)
    | (rw [Facts.lifts]; rfl)
    | (rw [Facts.make]; rfl)
    | kernel_rfl

theorem over : Rows.budgetExamplesRow.holds Tryz.pinned (OpenSpec.ofChange Rows.budgetExamplesSpec) :=
  OpenClaim.holds_of_wide 5 Tryz.f5 rfl rfl rfl rfl rfl rfl rfl ⟨rfl, rfl, rfl, rfl, rfl⟩ rfl rfl rfl rfl rfl named Tryz.func5 closed
    (of_decide_eq_true (by kernel_rfl)) (by unfold Func.isWrapper; first | (rw [if_pos (by decide +kernel)]; kernel_rfl) | (rw [if_neg (by decide +kernel)]; exact ⟨rfl, rfl⟩))
    (fun os started H enc _ => lifted os started H enc)

theorem row : Rows.BudgetExamplesSaid := over
theorem proved : Rows.BudgetExamplesCardSaid :=
  Claim7.holds_tied_plain_at .later [] [.data, .data, .data, .data, .sentinel, .sentinel, .pinned] true (true, "0137b628aa86d612a358cfe5ff37f0b27116895c6b54020c3e3b9ba80f4bc2b1") true
    row (fun _ h => by cases h) (by kernel_rfl) (fun _ h => by cases h) budgetExamples_row_tie rfl ⟨rfl, rfl⟩ (by kernel_rfl) rfl
    (fun f fn hf hfn => by
      obtain rfl : f = 5 := (Option.some.inj (named.symm.trans hf)).symm
      obtain rfl : fn = Tryz.f5 := (Option.some.inj (Tryz.func5.symm.trans hfn)).symm
      exact ⟨by kernel_rfl, fun j t ht => by
        have hm : t ∈ Tryz.f5.params.toList := List.mem_of_getElem? (by rw [Array.getElem?_toList]; exact ht)
        exact (show Tryz.prog.wantsStandIn t = false from (Bool.not_eq_true' _).mp (List.all_eq_true.1 (show (Tryz.f5.params.toList.all fun t => !Tryz.prog.wantsStandIn t) = true by kernel_rfl) t hm))⟩)
    (by kernel_rfl)
#print axioms proved
end Go.Proofs.YtapbgleednkimaaGreatDoor.budgetExamples
