/- Laws with arguments: slices among the arguments are no larger than memory. -/
import Derived.Test.YtbcdfmecpjbeaaaDoorAmEnd2
set_option linter.unusedVariables false
set_option linter.unusedSimpArgs false
namespace Go.Am
open Go.ChangeShapes Go.WideShapes Go.ChangeAt Go.RowKit
theorem trodAll_size {H0 : Type} {enc : TypeId × Value → H0} {P : Program} {W : World} {sp : Nat → Bool} {held : Bool} : ∀ {ts : List TypeId} {vs : List Value} {ds : List (DataW H0)} {ps : List MemPlace},
    DataW.TrodAll enc P W 0 sp held ts vs ds ps → (DataW.weightsEach P ts ds).all (· ≤ reachBytes) = true → ∀ (j : Nat) (t e : TypeId) (ad : Addr) (n c : Nat), ts[j]? = some t → P.underlying t = some (.slice e) → 1 ≤ P.bytesOf e → vs[j]? = some (.slice (some ad) n c) → n ≤ reachBytes
  | [], vs, ds, ps, h, hw, j, t, e, ad, n, c, h1, _, _, _ => by simp at h1
  | t0 :: ts, vs, ds, ps, h, hw, j, t, e, ad, n, c, h1, h2, h3, h4 => by
    obtain ⟨v, vs', d, ds', p, q, rfl, rfl, rfl, hv, hvs⟩ := trodAll_cons h
    simp only [DataW.weightsEach, List.all_append, Bool.and_eq_true] at hw
    cases j with
    | succ j => exact trodAll_size hvs hw.2 j t e ad n c (by simpa using h1) h2 h3 (by simpa using h4)
    | zero =>
      simp only [List.getElem?_cons_zero, Option.some.injEq] at h1 h4
      subst h1; subst h4
      obtain ⟨fuel, hf⟩ := hv
      rcases DataW.trod_slice h2 hf with ⟨h5, _⟩ | ⟨a, len, cap, elems, rest, m, _, h5, h6, _, h7, _, h8, _⟩
      · exact absurd (show [Value.slice (some ad) n c] = [Value.slice none 0 0] from h5) (by simp)
      · replace h5 : [Value.slice (some ad) n c] = [Value.slice (some a) len cap] := h5
        simp only [List.cons.injEq, Value.slice.injEq, and_true] at h5
        obtain ⟨_, rfl, rfl⟩ := h5
        have hd := congrArg Prod.fst h6
        simp only at hd
        have hw1 := hw.1
        rw [hd] at hw1
        simp only [DataW.weights, h2, List.all_cons, Bool.and_eq_true, decide_eq_true_eq, List.length_map] at hw1
        have h9 := hw1.1
        have : n * 1 ≤ (elems.length + rest.length) * P.bytesOf e := Nat.mul_le_mul (by omega) h3
        omega
def jsB (P : Program) (ts : List TypeId) (js : List Nat) : Bool := js.all fun j => match ts[j]? with
  | some t => match P.underlying t with
    | some (.slice e) => decide (1 ≤ P.bytesOf e)
    | _ => false
  | none => false
theorem js_of {P : Program} {ts : List TypeId} {js : List Nat} (h : jsB P ts js = true) : ∀ j ∈ js, ∃ t e, ts[j]? = some t ∧ P.underlying t = some (.slice e) ∧ 1 ≤ P.bytesOf e := fun j hj => by
  have := (List.all_eq_true.1 h) j hj
  split at this
  · rename_i t ht
    split at this
    · rename_i e he; exact ⟨t, e, ht, he, of_decide_eq_true this⟩
    · cases this
  · cases this
theorem calls_lawS {P : Program} {tab : FuncId → Option AF} (ht : TabOk P tab) {g : FuncId} {m : Nat} {ts : List TypeId} {Ts : List Ty} (hT : tysOf P m ts = some Ts) (js : List Nat)
    (hjs : ∀ j ∈ js, ∃ t e, ts[j]? = some t ∧ P.underlying t = some (.slice e) ∧ 1 ≤ P.bytesOf e)
    (hlaw : ∀ args h, ShVs Ts args h → (∀ j ∈ js, ∀ fl sz b o n, args[j]? = some (.slice fl sz b o n) → n ≤ 140737488351232) → ∃ n h', (run tab n).call g args h = some (.bool true, h')) {H0 : Type} {enc : TypeId × Value → H0} {w : World} {r : Reach} {base : Nat} {vs : List Value} {ds : List (DataW H0)} {ps : List MemPlace}
    (hx : DataW.TrodAll enc P w 0 (fun _ => true) true ts vs ds ps) (hok : ∀ (j : Nat) t v, ts[j]? = some t → vs[j]? = some v → Value.okWide P w r base t v) (hgl : GlbAt P w) (hwt : (DataW.weightsEach P ts ds).all (· ≤ reachBytes) = true) :
    Calls P g vs.toArray w fun e w' => e = .returned (.bool true) ∧ Below w.heap.size w w' := by
  obtain ⟨ρ, h, args, hl, _, _, hv, hs⟩ := args_laid hT hx hok _ _ (Laid.empty w hgl)
  obtain ⟨n, h', hrun⟩ := hlaw args h hs (fun j hj fl sz b o n ha => by
    obtain ⟨t, e, h1, h2, h3⟩ := hjs j hj
    obtain ⟨u, hu⟩ : ∃ u, vs[j]? = some u := ⟨_, List.getElem?_eq_getElem (by rw [hv.1]; exact (List.getElem?_eq_some_iff.1 ha).1)⟩
    have := hv.2 j _ _ ha hu
    cases this with
    | slice fl sz b o n cap ad q1 q2 q3 q4 => exact trodAll_size hx hwt j t e ad n cap h1 h2 h3 hu)
  refine (calls_of_run ht hrun hv hl.hr (fun y hy _ => hl.dom y hy) (fun x l o _ hg => hl.ro x o hg)).mono ?_
  rintro e w' ⟨u, ρ', rfl, h1, h2⟩
  rw [true_of_VR h1]
  exact ⟨rfl, h2⟩
end Go.Am

