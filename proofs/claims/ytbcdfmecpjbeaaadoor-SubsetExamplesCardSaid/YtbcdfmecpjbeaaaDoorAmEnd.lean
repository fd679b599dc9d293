/- From the abstract machine's run to a contract of the program's function, and to what a row asks. -/
import Derived.Test.YtbcdfmecpjbeaaaDoorAmMain
import Derived.WalkKit
import Derived.ProofKit
import Derived.OpenShut
import Derived.Below
import Derived.Carry
set_option linter.unusedVariables false
set_option linter.unusedSimpArgs false
namespace Go.Am
open Go.ChangeShapes Go.WideShapes Go.ChangeAt Go.RowKit

/-- A table of functions, to be looked up by number. -/
inductive BT where
  | leaf
  | node (l : BT) (k : Nat) (f : AFn) (r : BT)

def BT.find : BT → Nat → Option AF
  | .leaf, _ => none
  | .node l k f r, g => bif Nat.beq g k then some (.fn f) else bif Nat.ble g k then l.find g else r.find g

/-- What is asked of an entry. -/
def EntOk (P : Program) (g : Nat) (F : AFn) : Prop := ∃ fn, P.funcs[g]? = some fn ∧ trFn P fn = some F ∧ (fn.name == "runtime.NumGoroutine") = false

def BT.Ok (P : Program) : BT → Prop
  | .leaf => True
  | .node l k f r => EntOk P k f ∧ l.Ok P ∧ r.Ok P

theorem BT.find_ok {P : Program} : ∀ {t : BT} {g : Nat} {a : AF}, t.Ok P → t.find g = some a → ∃ F, a = .fn F ∧ EntOk P g F
  | .leaf, _, _, _, h => by cases h
  | .node l k f r, g, a, hok, h => by
    unfold BT.find at h
    cases hb : Nat.beq g k with
    | true =>
      rw [hb] at h; simp only [cond_true] at h; cases h
      have := Nat.eq_of_beq_eq_true hb
      subst this
      exact ⟨f, rfl, hok.1⟩
    | false =>
      rw [hb] at h; simp only [cond_false] at h
      cases hc : Nat.ble g k with
      | true => rw [hc] at h; exact BT.find_ok hok.2.1 h
      | false => rw [hc] at h; exact BT.find_ok hok.2.2 h

theorem BT.tabOk {P : Program} {t : BT} (h : t.Ok P) : TabOk P t.find where
  fn g F hg := by
    obtain ⟨F', e, fn, h1, h2, h3⟩ := BT.find_ok h hg
    cases e
    exact ⟨fn, h1, h2, h3⟩
  prim g f hg := by
    obtain ⟨F', e, _⟩ := BT.find_ok h hg
    cases e

/-- What a run of the abstract machine that writes to no given object says of the program's function. -/
theorem calls_of_run {P : Program} {tab : FuncId → Option AF} (ht : TabOk P tab) {n : Nat} {g : FuncId} {args : List AV} {h h' : H} {v : AV} (hrun : (run tab n).call g args h = some (v, h'))
    {ρ : Emb} {w : World} {us : List Value} (hv : VRs ρ args us) (hr : HR P ρ h w) (hfr : Fresh ρ h h') (hro : ∀ x l o, ρ x = some l → h.get x = some o → o.rwlive = false) :
    Calls P g us.toArray w fun e w' => ∃ u ρ', e = .returned u ∧ VR ρ' v u ∧ Below w.heap.size w w' := by
  have hc := callsIn_wide.1 ((run_ok ht n).call g args h v h' hrun ρ w us hv hr hfr)
  refine hc.mono ?_
  rintro e w' ⟨u, ρ', rfl, h1, h2, s⟩
  refine ⟨u, ρ', rfl, h1, ⟨s.os, s.tape, s.output, s.size, fun b hb => s.frame b hb ?_⟩⟩
  intro x l o hx hg hl
  rw [hro x l o hx hg] at hl
  cases hl

theorem true_of_VR {ρ : Emb} {b : Bool} {u : Value} (h : VR ρ (.bool b) u) : u = .bool b := h.bool_inv

/-- A law of no argument. -/
theorem calls_closed {P : Program} {tab : FuncId → Option AF} (ht : TabOk P tab) {n : Nat} {g : FuncId} (hrun : (match (run tab n).call g [] H.empty with | some (.bool b, _) => b | _ => false) = true) (w : World) (hgl : GlbAt P w) :
    Calls P g #[] w fun e w' => e = .returned (.bool true) ∧ Below w.heap.size w w' := by
  split at hrun
  · rename_i b h' hr
    subst hrun
    refine (calls_of_run ht hr (ρ := fun _ => none) (us := []) (VRs.nil _) ⟨hgl, fun _ _ _ _ _ _ h => by (cases h), fun _ _ h => by (cases h), fun _ _ _ h => by (cases h), fun _ _ _ _ _ _ h => by (cases h)⟩ (fun _ _ _ => rfl) (fun _ _ _ h => by cases h)).mono ?_
    rintro e w' ⟨u, ρ', rfl, h1, h2⟩
    rw [true_of_VR h1]
    exact ⟨rfl, h2⟩
  · cases hrun

section
variable {H : Type} {enc : TypeId × Value → H} {P : Program}

/-- 'post_of_same', of a call that leaves the old blocks as they were. -/
theorem post_of_below {f : Func} {s : ChangeSpec} {apart fresh handsOn again : Bool} {W W' : World} {args : Array Value} {v : Value} {ds gs : List (DataW H)} {before pa pv : List MemPlace}
    (hW : DataW.Whole enc P f.params.toList s.vars apart W args.toList ds gs before)
    (hres : ∀ (b : Nat) (sp : Nat → Bool) (hd : Bool), DataW.TrodAll enc P W' b sp hd f.resultTypes.toList (v.resultList f.resultTypes.size) (s.fn H (ds ++ gs)).results [])
    (hargs : ∀ sp : Nat → Bool, (∀ p ∈ before, sp p.block = true) → DataW.TrodAll enc P W' 0 sp true f.params.toList args.toList (s.fn H (ds ++ gs)).args pa)
    (hvars : ∀ sp : Nat → Bool, (∀ p ∈ before, sp p.block = true) → DataW.TrodVars enc P W' sp s.vars (s.fn H (ds ++ gs)).vars pv)
    (hps : before = pa ++ pv) (hB : Below W.heap.size W W')
    (hok : ∀ (j : Nat) (t : TypeId) (r : Value), f.resultTypes[j]? = some t → (v.resultList f.resultTypes.size)[j]? = some r → Value.okWide P W' .any 0 t r) :
    s.post enc P f apart fresh handsOn again W args v W' := by
  have hold : ∀ p ∈ before, (fun b => decide (b < W.heap.size)) p.block = true := fun p hp => by simpa using hW.lt p hp
  refine ⟨ds, gs, before, [], pa, pv, hW, hres _ _ _, hargs _ hold, hvars _ hold, hB.frame _, fun _ => ?_⟩
  have hlt := hW.lt
  obtain ⟨_, _, _, _, _, hz, hn⟩ := hW
  refine ⟨hok, _, _, ([] ++ pa) ++ pv, ⟨[] ++ pa, pv, trodAll_append (hargs _ (fun _ _ => rfl)) (hres _ _ _), hvars _ (fun _ _ => rfl), rfl, ?_, ?_⟩, ?_⟩
  · intro b off hp
    have hp' : MemPlace.cell b off ∈ before := by rw [hps]; simpa using hp
    rw [hB.frozen (hlt _ hp')]
    exact hz b off hp'
  · intro ha
    have := hn ha
    rw [hps] at this
    simpa using this
  · intro p hp _
    rw [hps]
    simpa using hp
end
end Go.Am
