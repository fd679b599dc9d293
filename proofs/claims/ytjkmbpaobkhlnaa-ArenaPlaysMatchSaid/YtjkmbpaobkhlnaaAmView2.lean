/- Views of slices: what is appended, cloned, cut. -/
import Derived.Test.YtjkmbpaobkhlnaaAmView
set_option linter.unusedVariables false
set_option linter.unusedSimpArgs false
namespace Go.Am

/-- The old objects are as they were. -/
structure Ext (h h' : H) : Prop where
  next : h.next ≤ h'.next
  get : ∀ x, x < h.next → h'.get x = h.get x
theorem Ext.refl (h : H) : Ext h h := ⟨Nat.le_refl _, fun _ _ => rfl⟩
theorem Ext.trans {a b c : H} (p : Ext a b) (q : Ext b c) : Ext a c := ⟨Nat.le_trans p.next q.next, fun x hx => by rw [q.get x (Nat.lt_of_lt_of_le hx p.next), p.get x hx]⟩
theorem Ext.grows {h h' : H} (e : Ext h h') : Grows h h' := ⟨e.next, fun x o hg => by rw [e.get x (H.lt_of_get hg)]; exact hg⟩
theorem Ext.alloc (h : H) (o : AObj) : Ext h (h.alloc o) := ⟨by simp, fun x hx => by rw [H.get_alloc, if_neg (by omega)]⟩
theorem Ext.set {h0 h : H} (e : Ext h0 h) {b : Nat} (hb : h0.next ≤ b) (o : AObj) : Ext h0 (h.set b o) := ⟨by simpa using e.next, fun x hx => by rw [H.get_set_ne (by omega)]; exact e.get x hx⟩
theorem SlV.ext {v : AV} {vs : List AV} {h h' : H} (hs : SlV v vs h) (e : Ext h h') : SlV v vs h' := hs.mono e.grows

/-- A slice that grows by appends: nil, or its object is one's own and behind a bound. -/
def GrV (n0 : Nat) (v : AV) (vs : List AV) (h : H) : Prop :=
  (v = .nilslice ∧ vs = []) ∨ ∃ b ver, v = .slice false 1 b 0 vs.length ∧ h.get b = some (.cells ver true vs) ∧ n0 ≤ b
theorem GrV.nil (n0 : Nat) (h : H) : GrV n0 .nilslice [] h := .inl ⟨rfl, rfl⟩
theorem GrV.sl {n0 : Nat} {v : AV} {vs : List AV} {h : H} (hs : GrV n0 v vs h) : SlV v vs h := by
  rcases hs with hs | ⟨b, ver, rfl, hg, _⟩
  · exact .inl hs
  · exact .inr ⟨false, b, 0, ver, true, vs, rfl, hg, by omega, by simp⟩
theorem GrV.ext {n0 : Nat} {v : AV} {vs : List AV} {h h' : H} (hs : GrV n0 v vs h) (e : Ext h h') : GrV n0 v vs h' := by
  rcases hs with hs | ⟨b, ver, rfl, hg, hb⟩
  · exact .inl hs
  · exact .inr ⟨b, ver, rfl, by rw [e.get b (H.lt_of_get hg)]; exact hg, hb⟩

theorem SlV.cells {v : AV} {vs : List AV} {h : H} (hs : SlV v vs h) (hn : vs ≠ []) : ∃ fl, v = .slice fl 1 v.blk v.off vs.length ∧ getCells h v.blk v.off (vs.length * 1) = some vs := by
  rcases hs with ⟨rfl, rfl⟩ | ⟨fl, b, o, ver, rw, cs, rfl, h2, h3, h4⟩
  · exact absurd rfl hn
  · refine ⟨fl, rfl, ?_⟩
    show getCells h b o (vs.length * 1) = some vs
    unfold getCells
    rw [h2]
    simp only [Nat.mul_one]
    rw [if_pos h3, h4]

theorem src_of_sl {x : AV} {vs : List AV} {h : H} (hs : SlV x vs h) : srcOf [] h 1 (.const x) = some (vs, vs.length) := by
  rcases hs with ⟨rfl, rfl⟩ | ⟨fl, b, o, ver, rw, cs, rfl, h2, h3, h4⟩
  · rfl
  · simp only [srcOf, ev, if_true]
    unfold getCells
    rw [h2]
    simp only [Nat.mul_one]
    rw [if_pos h3, h4]

/-- A slice that grows, with more values behind it. -/
theorem GrV.app {n0 : Nat} {s x : AV} {ss vs : List AV} {h0 h : H} {bytes : Nat} (hs : GrV n0 s ss h) (hx : SlV x vs h) (h1 : vs.all AV.one = true) (he : Ext h0 h) (hn : n0 = h0.next) (hb : (ss.length + vs.length) * bytes ≤ 140737488355328) (hb2 : ss.length + vs.length ≤ 9223372036854775807) :
    ∃ r h' rd, appV 1 bytes s x h = some (r, h', rd) ∧ GrV n0 r (ss ++ vs) h' ∧ Ext h0 h' := by
  subst hn
  unfold appV
  simp only [aop, src_of_sl hx, ev]
  rcases hs with ⟨rfl, rfl⟩ | ⟨b, ver, rfl, hg, hbn⟩
  · simp only
    by_cases hz : vs.length = 0
    · have : vs = [] := List.length_eq_zero_iff.1 hz
      subst this
      rw [if_pos hz]
      exact ⟨_, _, _, rfl, .inl ⟨rfl, rfl⟩, he⟩
    · rw [if_neg hz, if_pos ⟨by simpa using hb, by simpa [maxLenA] using hb2, h1, by simp⟩]
      exact ⟨_, _, _, rfl, .inr ⟨h.next, 0, by simp, by simpa using H.get_alloc_new h _, he.next⟩, he.trans (Ext.alloc _ _)⟩
  · simp only
    by_cases hz : vs.length = 0
    · have : vs = [] := List.length_eq_zero_iff.1 hz
      subst this
      rw [if_pos hz]
      exact ⟨_, _, _, rfl, .inr ⟨b, ver, by simp, by simpa using hg, hbn⟩, he⟩
    · rw [if_neg hz, if_pos ⟨trivial, hb, by simpa [maxLenA] using hb2, h1, by simp⟩]
      have hgc : getCells h b 0 (ss.length * 1) = some ss := by
        unfold getCells; rw [hg]; simp
      simp only [hgc, Bool.false_eq_true, if_false, kill, hg]
      exact ⟨_, _, _, rfl, .inr ⟨h.next, 0, by simp, by simpa using H.get_alloc_new (h.set b .dead) _, he.next⟩, (he.set hbn _).trans (Ext.alloc _ _)⟩

/-- A copy: an append to nil, or to a new empty slice. -/
theorem app_nil {x : AV} {vs : List AV} {h : H} {bytes : Nat} (hx : SlV x vs h) (h1 : vs.all AV.one = true) (hb : vs.length * bytes ≤ 140737488355328) (hb2 : vs.length ≤ 9223372036854775807) :
    ∃ r h' rd, appV 1 bytes .nilslice x h = some (r, h', rd) ∧ GrV h.next r vs h' ∧ Ext h h' := by
  obtain ⟨r, h', rd, e1, e2, e3⟩ := (GrV.nil h.next h).app hx h1 (Ext.refl h) rfl (by simpa using hb) (by simpa using hb2)
  exact ⟨r, h', rd, e1, by simpa using e2, e3⟩

theorem app_empty {x : AV} {vs : List AV} {h : H} {bytes b ver : Nat} {rw_ : Bool} {cs : List AV} (hg : h.get b = some (.cells ver rw_ cs)) (hx : SlV x vs h) (h1 : vs.all AV.one = true) (hb : vs.length * bytes ≤ 140737488355328) (hb2 : vs.length ≤ 9223372036854775807) :
    ∃ r h' rd, appV 1 bytes (.slice true 1 b 0 0) x h = some (r, h', rd) ∧ SlV r vs h' ∧ Ext h h' := by
  unfold appV
  simp only [aop, src_of_sl hx, ev]
  by_cases hz : vs.length = 0
  · have : vs = [] := List.length_eq_zero_iff.1 hz
    subst this
    rw [if_pos hz]
    exact ⟨_, _, _, rfl, .inr ⟨true, b, 0, ver, rw_, cs, rfl, hg, by simp, by simp⟩, Ext.refl h⟩
  · rw [if_neg hz, if_pos ⟨trivial, by simpa using hb, by simpa [maxLenA] using hb2, h1, by simp⟩]
    have hgc : getCells h b 0 (0 * 1) = some [] := by
      unfold getCells; rw [hg]; simp
    simp only [hgc, if_true]
    exact ⟨_, _, _, rfl, .inr ⟨false, h.next, 0, 0, true, vs, by simp, by simpa using H.get_alloc_new h _, by simp, by simp⟩, Ext.alloc _ _⟩

/-- A part of a slice. -/
theorem SlV.take {v : AV} {vs : List AV} {h : H} (hs : SlV v vs h) {k : Nat} (hk : k ≤ vs.length) (hn : vs ≠ []) : ∃ r, sliceOf 1 v none (some (k : Int)) none = some r ∧ SlV r (vs.take k) h ∧ r ≠ .nilslice := by
  rcases hs with ⟨rfl, rfl⟩ | ⟨fl, b, o, ver, rw, cs, rfl, h2, h3, h4⟩
  · exact absurd rfl hn
  · have hc : (True ∧ (0 : Int) ≤ (none : Option Int).getD 0 ∧ (none : Option Int).getD 0 ≤ (some (k : Int)).getD (vs.length : Int) ∧ (some (k : Int)).getD (vs.length : Int) ≤ (none : Option Int).getD ((some (k : Int)).getD (vs.length : Int)) ∧ (none : Option Int).getD ((some (k : Int)).getD (vs.length : Int)) ≤ (vs.length : Int)) := by
      refine ⟨trivial, by simp, by simp, by simp, by simpa using hk⟩
    unfold sliceOf
    simp only [Option.isSome_none, Option.isNone_some, Bool.and_self, Bool.false_eq_true, if_false]
    rw [if_pos hc]
    refine ⟨_, rfl, .inr ⟨fl && ((some (k : Int)).getD (vs.length : Int) == (vs.length : Int)), b, o, ver, rw, cs, ?_, h2, ?_, ?_⟩, by simp⟩
    · simp only [Option.getD_some, Option.getD_none, List.length_take]
      congr 1
      simp; omega
    · simp only [List.length_take]; omega
    · have : ((cs.drop o).take vs.length).take k = vs.take k := by rw [h4]
      rw [List.take_take] at this
      simp only [List.length_take]
      rw [← this]

theorem SlV.drop {v : AV} {vs : List AV} {h : H} (hs : SlV v vs h) {k : Nat} (hk : k ≤ vs.length) (hn : vs ≠ []) : ∃ r, sliceOf 1 v (some (k : Int)) none none = some r ∧ SlV r (vs.drop k) h ∧ r ≠ .nilslice := by
  rcases hs with ⟨rfl, rfl⟩ | ⟨fl, b, o, ver, rw, cs, rfl, h2, h3, h4⟩
  · exact absurd rfl hn
  · have hc : (True ∧ (0 : Int) ≤ (some (k : Int)).getD 0 ∧ (some (k : Int)).getD 0 ≤ (none : Option Int).getD (vs.length : Int) ∧ (none : Option Int).getD (vs.length : Int) ≤ (none : Option Int).getD ((none : Option Int).getD (vs.length : Int)) ∧ (none : Option Int).getD ((none : Option Int).getD (vs.length : Int)) ≤ (vs.length : Int)) := by
      refine ⟨trivial, by simp, by simpa using hk, by simp, by simp⟩
    unfold sliceOf
    simp only [Option.isSome_none, Bool.false_and, Bool.false_eq_true, if_false]
    rw [if_pos hc]
    refine ⟨_, rfl, .inr ⟨fl && ((none : Option Int).getD (vs.length : Int) == (vs.length : Int)), b, o + k, ver, rw, cs, ?_, h2, ?_, ?_⟩, by simp⟩
    · simp only [Option.getD_some, Option.getD_none, List.length_drop]
      congr 1
      · simp
      · omega
    · simp only [List.length_drop]; omega
    · have : ((cs.drop o).take vs.length).drop k = vs.drop k := by rw [h4]
      rw [List.drop_take, List.drop_drop] at this
      simp only [List.length_drop]
      exact this

/-- A literal slice of one cell. -/
def fill1 (v : AV) : Option (List AV) := if v.cells.length = 1 && v.cells.all AV.one then some v.cells else none
theorem fill_one (a : List AV) (c : AV) (x : AR) : fillA a (repl 1 [c]) [(0, 1, x)] = fill1 (ev a x) := by
  simp only [fillA, repl, List.append_nil, List.length_cons, List.length_nil, over, fill1]
  by_cases h1 : (ev a x).cells.length = 1
  · simp [h1]
  · simp [h1]
theorem fill1_int (k : IntKind) (n : Int) : fill1 (.int k n) = some [.int k n] := rfl
theorem lit_sl (h : H) (c : AV) : SlV (.slice true 1 h.next 0 1) [c] (h.alloc (.cells 0 true [c])) := .inr ⟨true, h.next, 0, 0, true, [c], rfl, H.get_alloc_new _ _, by simp, by simp⟩

theorem all_one_map_int (k : IntKind) (xs : List Int) : (xs.map (AV.int k)).all AV.one = true := by
  simp [AV.one]

theorem drop_get {α : Type} {xs : List α} {k : Nat} (h : k < xs.length) : xs.drop k = xs[k] :: xs.drop (k + 1) := List.drop_eq_getElem_cons h

end Go.Am
