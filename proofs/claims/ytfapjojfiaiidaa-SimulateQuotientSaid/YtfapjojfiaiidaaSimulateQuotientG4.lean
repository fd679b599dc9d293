/- Plain law: the quotient, and what goes with it. -/
import Derived.Test.YtfapjojfiaiidaaSimulateQuotientG3
import Derived.Test.YtfapjojfiaiidaaSimulateQuotientG0
import Derived.Test.YtfapjojfiaiidaaSimulateQuotientG1
set_option linter.unusedVariables false
namespace Go.Am.Ar
def idL (m : Nat) : List Int := (List.range m).map fun (k : Nat) => (k : Int)
def rpQ (l : List Int) (c : Nat) : Nat := l.idxOf (c : Int)
def rsQ (rs : List (List Bool)) (l : List Int) (m : Nat) : List (List Bool) := (List.range m).map fun a => (List.range m).map fun b => rAt rs (rpQ l a) (rpQ l b)
theorem idL_get {m k : Nat} (h : k < m) : (idL m)[k]? = some (k : Int) := by simp [idL, h]
theorem idL_at {m : Nat} {c : Int} (h0 : 0 ≤ c) (h : c < m) : clAt (idL m) c = c := by
  rw [clAt_some (idL_get (k := c.toNat) (by omega))]; omega
section
variable {N : NF} {rs : List (List Bool)} {l : List Int} {m : Nat} (C : NOk N) (R : RelOk N rs) (hC : ClsI rs N.n.toNat l m)
include C R hC
theorem cl_iff {p q : Int} (p0 : 0 ≤ p) (pn : p < N.n) (q0 : 0 ≤ q) (qn : q < N.n) : clAt l p = clAt l q ↔ rAt rs p q = true ∧ rAt rs q p = true := by
  have n0 := C.n0
  have h := hC.iff (R.eqv C (n := N.n.toNat) (by omega)) (Nat.le_refl _) p.toNat q.toNat _ _ (cl_at C hC p0 pn).1 (cl_at C hC q0 qn).1
  rw [h]
  unfold simB
  rw [Bool.and_eq_true, Int.toNat_of_nonneg p0, Int.toNat_of_nonneg q0]
theorem cl_surj {c : Int} (c0 : 0 ≤ c) (cm : c < m) : ∃ p : Int, 0 ≤ p ∧ p < N.n ∧ clAt l p = c := by
  have _ := C
  have _ := R
  have _ := hC
  have h := hC.surj c.toNat (by omega)
  have hl := hC.len
  obtain ⟨k, hk⟩ := List.getElem?_of_mem h
  have := getSome_lt hk
  exact ⟨k, by omega, by omega, by rw [clAt_some (by simpa using hk)]; omega⟩
theorem rAt_tr {p q s : Int} (p0 : 0 ≤ p) (pn : p < N.n) (q0 : 0 ≤ q) (qn : q < N.n) (s0 : 0 ≤ s) (sn : s < N.n) (h1 : rAt rs p q = true) (h2 : rAt rs q s = true) : rAt rs p s = true := by
  have _ := C
  have _ := R
  have _ := hC
  have := R.trans C (p := p.toNat) (q := q.toNat) (s := s.toNat) (by omega) (by omega) (by omega) (by rw [Int.toNat_of_nonneg p0, Int.toNat_of_nonneg q0]; exact h1) (by rw [Int.toNat_of_nonneg q0, Int.toNat_of_nonneg s0]; exact h2)
  rwa [Int.toNat_of_nonneg p0, Int.toNat_of_nonneg s0] at this
theorem rp_at {c : Nat} (cm : c < m) : ((rpQ l c : Nat) : Int) < N.n ∧ clAt l (rpQ l c) = c := by
  have _ := C
  have _ := R
  have _ := hC
  have h := hC.surj c cm
  have hl := hC.len
  have n0 := C.n0
  have h1 : l.idxOf (c : Int) < l.length := List.idxOf_lt_length_of_mem h
  refine ⟨by show ((l.idxOf (c : Int) : Nat) : Int) < N.n; omega, ?_⟩
  have h2 : l[l.idxOf (c : Int)]? = some (c : Int) := by rw [List.getElem?_eq_getElem h1, List.getElem_idxOf]
  exact clAt_some (by simpa [rpQ] using h2)
theorem rsQ_at {p q : Int} (p0 : 0 ≤ p) (pn : p < N.n) (q0 : 0 ≤ q) (qn : q < N.n) : rAt (rsQ rs l m) (clAt l p) (clAt l q) = true ↔ rAt rs p q = true := by
  obtain ⟨_, a0, am⟩ := cl_at C hC p0 pn
  obtain ⟨_, b0, bm⟩ := cl_at C hC q0 qn
  obtain ⟨a, ha⟩ : ∃ a : Nat, clAt l p = a := ⟨(clAt l p).toNat, by omega⟩
  obtain ⟨b, hb⟩ : ∃ b : Nat, clAt l q = b := ⟨(clAt l q).toNat, by omega⟩
  rw [ha, hb]
  have am' : a < m := by omega
  have bm' : b < m := by omega
  have e : rAt (rsQ rs l m) a b = rAt rs (rpQ l a) (rpQ l b) := by simp [rAt, rsQ, List.getD, am', bm']
  rw [e]
  obtain ⟨r1, r2⟩ := rp_at C R hC am'
  obtain ⟨s1, s2⟩ := rp_at C R hC bm'
  have h1 := (cl_iff C R hC (by omega) r1 p0 pn).1 (by rw [r2, ha])
  have h2 := (cl_iff C R hC (by omega) s1 q0 qn).1 (by rw [s2, hb])
  exact ⟨fun h => rAt_tr C R hC p0 pn (by omega) r1 q0 qn h1.2 (rAt_tr C R hC (by omega) r1 (by omega) s1 q0 qn h h2.1), fun h => rAt_tr C R hC (by omega) r1 p0 pn (by omega) s1 h1.1 (rAt_tr C R hC p0 pn q0 qn (by omega) s1 h h2.2)⟩
omit C R hC in
theorem matQ {x : Nat} {e' : Eg} : e' ∈ matE (edsQ l N.es) x ↔ ∃ e ∈ matE N.es x, edQ l e = e' := by
  unfold matE
  rw [List.mem_filter, mem_edsQ]
  constructor
  · rintro ⟨⟨e, h1, rfl⟩, h2⟩
    exact ⟨e, List.mem_filter.2 ⟨h1, h2⟩, rfl⟩
  · rintro ⟨e, h1, rfl⟩
    obtain ⟨h2, h3⟩ := List.mem_filter.1 h1
    exact ⟨⟨e, h2, rfl⟩, h3⟩
omit C R hC in
theorem mvQ {x : Nat} {c u : Int} : (x, u) ∈ mvL (quoN N l m).vs c (quoN N l m).es ↔ x < 2 ^ N.vs.toNat ∧ ∃ e ∈ matE N.es x, clAt l e.fr = c ∧ clAt l e.to = u := by
  rw [mem_mvL]
  show _ ∧ (∃ e ∈ matE (edsQ l N.es) x, _) ↔ _
  refine and_congr Iff.rfl ⟨?_, ?_⟩
  · rintro ⟨e', h1, h2, h3⟩
    obtain ⟨e, h4, rfl⟩ := matQ.1 h1
    exact ⟨e, h4, h2, h3⟩
  · rintro ⟨e, h1, h2, h3⟩
    exact ⟨edQ l e, matQ.2 ⟨e, h1, rfl⟩, h2, h3⟩
theorem sim_mv {x : Nat} {p q u : Int} (hx : x < 2 ^ N.vs.toNat) (p0 : 0 ≤ p) (pn : p < N.n) (q0 : 0 ≤ q) (qn : q < N.n) (h : rAt rs p q = true) {e : Eg} (he : e ∈ matE N.es x) (hp : e.fr = p) :
    ∃ e' ∈ matE N.es x, e'.fr = q ∧ rAt rs e.to e'.to = true := by
  have _ := C
  have _ := R
  have _ := hC
  have hs := R.s p.toNat q.toNat (by omega) (by omega) (by rw [Int.toNat_of_nonneg p0, Int.toNat_of_nonneg q0]; exact h)
  rw [Int.toNat_of_nonneg p0, Int.toNat_of_nonneg q0] at hs
  obtain ⟨⟨y, v⟩, k1, k2, k3⟩ := hs.2 (x, e.to) (mem_mvL.2 ⟨hx, e, he, hp, rfl⟩)
  simp only at k2 k3
  subst k2
  obtain ⟨_, e', m1, m2, m3⟩ := mem_mvL.1 k1
  exact ⟨e', m1, m2, by rw [m3]; exact k3⟩
theorem sim_fi {p q : Int} (p0 : 0 ≤ p) (pn : p < N.n) (q0 : 0 ≤ q) (qn : q < N.n) (h : rAt rs p q = true) (hf : p ∈ N.fi) : q ∈ N.fi := by
  have _ := C
  have _ := R
  have _ := hC
  have hs := R.s p.toNat q.toNat (by omega) (by omega) (by rw [Int.toNat_of_nonneg p0, Int.toNat_of_nonneg q0]; exact h)
  rw [Int.toNat_of_nonneg p0, Int.toNat_of_nonneg q0] at hs
  exact hs.1 hf
theorem fiQ {p : Int} (p0 : 0 ≤ p) (pn : p < N.n) : clAt l p ∈ (quoN N l m).fi ↔ p ∈ N.fi := by
  show clAt l p ∈ setQ l N.fi m ↔ _
  rw [mem_setQ]
  have hfi := posM_mem C.fi
  constructor
  · rintro ⟨_, q, h1, h2⟩
    have hq := hfi q h1
    exact sim_fi C R hC hq.1 hq.2 p0 pn ((cl_iff C R hC hq.1 hq.2 p0 pn).1 h2).1 h1
  · intro h
    exact ⟨(cl_at C hC p0 pn).2, p, h, rfl⟩
open Classical in
theorem quo_rel : RelOk (quoN N l m) (rsQ rs l m) := by
  have hn : (quoN N l m).n = m := rfl
  have edm : ∀ {x : Nat} {e : Eg}, e ∈ matE N.es x → 0 ≤ e.fr ∧ e.fr < N.n ∧ 0 ≤ e.to ∧ e.to < N.n := fun h => by
    obtain ⟨q1, q2, q3, q4, _⟩ := C.ed _ (List.mem_filter.1 h).1
    exact ⟨q1, q2, q3, q4⟩
  refine ⟨⟨by simp [rsQ, hn], fun r hr => ?_⟩, ?_, ?_⟩
  · obtain ⟨a, _, rfl⟩ := List.mem_map.1 hr
    simp [hn]
  · intro a b ha hb hab
    rw [hn] at ha hb
    obtain ⟨p, p0, pn, hp⟩ := cl_surj C R hC (c := a) (by omega) ha
    obtain ⟨q, q0, qn, hq⟩ := cl_surj C R hC (c := b) (by omega) hb
    rw [← hp, ← hq] at hab ⊢
    rw [rsQ_at C R hC p0 pn q0 qn] at hab
    refine ⟨fun h => ?_, fun xu hxu => ?_⟩
    · rw [fiQ C R hC q0 qn]
      rw [fiQ C R hC p0 pn] at h
      exact sim_fi C R hC p0 pn q0 qn hab h
    · obtain ⟨x, u⟩ := xu
      obtain ⟨hx, e, h1, h2, h3⟩ := mvQ.1 hxu
      obtain ⟨f0, fn, t0, tn⟩ := edm h1
      have h4 := ((cl_iff C R hC f0 fn p0 pn).1 h2).1
      have h5 := rAt_tr C R hC f0 fn p0 pn q0 qn h4 hab
      obtain ⟨e', k1, k2, k3⟩ := sim_mv C R hC (u := u) hx f0 fn q0 qn h5 h1 rfl
      obtain ⟨f0', fn', t0', tn'⟩ := edm k1
      refine ⟨(x, clAt l e'.to), mvQ.2 ⟨hx, e', k1, by rw [k2], rfl⟩, rfl, ?_⟩
      show rAt (rsQ rs l m) u (clAt l e'.to) = true
      rw [← h3, rsQ_at C R hC t0 tn t0' tn']; exact k3
  · intro S hS a b ha hb hab
    rw [hn] at ha hb
    obtain ⟨p, p0, pn, hp⟩ := cl_surj C R hC (c := a) (by omega) ha
    obtain ⟨q, q0, qn, hq⟩ := cl_surj C R hC (c := b) (by omega) hb
    rw [← hp, ← hq] at hab ⊢
    rw [rsQ_at C R hC p0 pn q0 qn]
    have key := R.u (fun p q => decide (∃ q0 : Int, 0 ≤ q0 ∧ q0 < N.n ∧ S (clAt l p) (clAt l q0) = true ∧ rAt rs q0 q = true)) (fun p q hp hq h => ?_) p.toNat q.toNat (by omega) (by omega) (decide_eq_true ⟨q, q0, qn, by rw [Int.toNat_of_nonneg p0]; exact hab, by
      rw [Int.toNat_of_nonneg q0]
      have := R.refl (p := q.toNat) (by omega)
      rwa [Int.toNat_of_nonneg q0] at this⟩)
    · rwa [Int.toNat_of_nonneg p0, Int.toNat_of_nonneg q0] at key
    · obtain ⟨z, z0, zn, h1, h2⟩ := of_decide_eq_true h
      have p0' : (0 : Int) ≤ p := by omega
      have q0' : (0 : Int) ≤ q := by omega
      obtain ⟨_, c0, cm⟩ := cl_at C hC p0' hp
      obtain ⟨_, d0, dm⟩ := cl_at C hC z0 zn
      have hs := hS (clAt l p).toNat (clAt l z).toNat (by omega) (by omega) (by rw [Int.toNat_of_nonneg c0, Int.toNat_of_nonneg d0]; exact h1)
      rw [Int.toNat_of_nonneg c0, Int.toNat_of_nonneg d0] at hs
      refine ⟨fun hf => ?_, fun xu hxu => ?_⟩
      · have := hs.1 ((fiQ C R hC p0' hp).2 hf)
        rw [fiQ C R hC z0 zn] at this
        exact sim_fi C R hC z0 zn q0' hq h2 this
      · obtain ⟨x, u⟩ := xu
        obtain ⟨hx, e, k1, k2, k3⟩ := mem_mvL.1 hxu
        obtain ⟨⟨y, v⟩, g1, g2, g3⟩ := hs.2 (x, clAt l e.to) (mvQ.2 ⟨hx, e, k1, by rw [k2], rfl⟩)
        simp only at g2 g3
        subst g2
        obtain ⟨_, e2, j1, j2, j3⟩ := mvQ.1 g1
        obtain ⟨f0, fn, t0, tn⟩ := edm j1
        have h4 := ((cl_iff C R hC f0 fn z0 zn).1 j2).1
        have h5 := rAt_tr C R hC f0 fn z0 zn q0' hq h4 h2
        obtain ⟨e3, i1, i2, i3⟩ := sim_mv C R hC (u := u) hx f0 fn q0' hq h5 j1 rfl
        refine ⟨(x, e3.to), mem_mvL.2 ⟨hx, e3, i1, i2, rfl⟩, rfl, decide_eq_true ⟨e2.to, t0, tn, ?_, i3⟩⟩
        show S (clAt l u) (clAt l e2.to) = true
        rw [← k3, j3]; exact g3
theorem quo_hom : ∀ (w : List Int) (p : Int), 0 ≤ p → p < N.n → accF N.es N.fi w p.toNat → accF (quoN N l m).es (quoN N l m).fi w (clAt l p).toNat
  | [], p, p0, pn, h => by
    have c0 := (cl_at C hC p0 pn).2.1
    show (((clAt l p).toNat : Nat) : Int) ∈ _
    rw [Int.toNat_of_nonneg c0, fiQ C R hC p0 pn]
    have h : ((p.toNat : Nat) : Int) ∈ N.fi := h
    rwa [Int.toNat_of_nonneg p0] at h
  | x :: w, p, p0, pn, ⟨e, h1, h2, h3⟩ => by
    obtain ⟨q1, q2, q3, q4, _⟩ := C.ed e (List.mem_filter.1 h1).1
    have c0 := (cl_at C hC p0 pn).2.1
    exact ⟨edQ l e, matQ.2 ⟨e, h1, rfl⟩, by rw [Int.toNat_of_nonneg c0]; show clAt l e.fr = _; rw [h2, Int.toNat_of_nonneg p0], quo_hom w e.to q3 q4 h3⟩
theorem quo_back : ∀ (w : List Int), WdOk N.vs w → ∀ (p : Int), 0 ≤ p → p < N.n → accF (quoN N l m).es (quoN N l m).fi w (clAt l p).toNat → accF N.es N.fi w p.toNat
  | [], _, p, p0, pn, h => by
    have c0 := (cl_at C hC p0 pn).2.1
    have h : (((clAt l p).toNat : Nat) : Int) ∈ (quoN N l m).fi := h
    rw [Int.toNat_of_nonneg c0, fiQ C R hC p0 pn] at h
    show ((p.toNat : Nat) : Int) ∈ N.fi
    rwa [Int.toNat_of_nonneg p0]
  | x :: w, hw, p, p0, pn, ⟨e', h1, h2, h3⟩ => by
    have c0 := (cl_at C hC p0 pn).2.1
    obtain ⟨e, h4, rfl⟩ := matQ.1 h1
    obtain ⟨q1, q2, q3, q4, _⟩ := C.ed e (List.mem_filter.1 h4).1
    rw [Int.toNat_of_nonneg c0] at h2
    have h5 := ((cl_iff C R hC q1 q2 p0 pn).1 h2).1
    have h6 : accF N.es N.fi (x :: w) e.fr.toNat := ⟨e, h4, by omega, quo_back w (fun z hz => hw z (by simp [hz])) e.to q3 q4 h3⟩
    exact sim_acc C R.s (x :: w) hw e.fr.toNat p.toNat (by omega) (by omega) (by rw [Int.toNat_of_nonneg q1, Int.toNat_of_nonneg p0]; exact h5) h6
theorem quo_acc {w : List Int} (hw : WdOk N.vs w) : accP N w ↔ accP (quoN N l m) w := by
  rw [accP_iff C, accP_iff (quo_nok C hC)]
  have hst := posM_mem C.st
  constructor
  · rintro ⟨p, h1, h2⟩
    have hp := hst p h1
    have c := (cl_at C hC hp.1 hp.2).2
    refine ⟨(clAt l p).toNat, ?_, ?_⟩
    · rw [Int.toNat_of_nonneg c.1]
      exact mem_setQ.2 ⟨c, p, h1, rfl⟩
    · have := quo_hom C R hC w p hp.1 hp.2
      simp only [Int.toNat_natCast] at this
      exact this h2
  · rintro ⟨c, h1, h2⟩
    obtain ⟨_, p, h3, h4⟩ := mem_setQ.1 h1
    have hp := hst p h3
    refine ⟨p.toNat, by rw [Int.toNat_of_nonneg hp.1]; exact h3, quo_back C R hC w hw p hp.1 hp.2 ?_⟩
    rw [h4]; simpa using h2
theorem quo_cls : ClsI (rsQ rs l m) m (idL m) m := by
  have key : ∀ k, k ≤ m → ClsI (rsQ rs l m) k (idL k) k := by
    intro k
    induction k with
    | zero => intro _; exact .nil
    | succ k ih =>
      intro hk
      have e : idL (k + 1) = idL k ++ [(k : Int)] := by simp [idL, List.range_succ]
      rw [e]
      refine .new (ih (by omega)) fun j hj => ?_
      obtain ⟨p, p0, pn, hp⟩ := cl_surj C R hC (c := (k : Int)) (by omega) (by omega)
      obtain ⟨q, q0, qn, hq⟩ := cl_surj C R hC (c := (j : Int)) (by omega) (by omega)
      rw [Bool.eq_false_iff]
      intro h
      unfold simB at h
      rw [Bool.and_eq_true, ← hp, ← hq, rsQ_at C R hC p0 pn q0 qn, rsQ_at C R hC q0 qn p0 pn] at h
      have := (cl_iff C R hC p0 pn q0 qn).2 h
      omega
  exact key m (Nat.le_refl _)
end
theorem addE_nodup {acc : List Eg} {e : Eg} (h : acc.Nodup) : (addE acc e).Nodup := by
  unfold addE
  split
  · exact h
  · rename_i q
    rw [List.nodup_append]
    refine ⟨h, by simp, fun a ha b hb => ?_⟩
    simp at hb
    subst hb
    rintro rfl
    exact q ha
theorem edsQ_nodup (l : List Int) (es : List Eg) : (edsQ l es).Nodup := by
  have key : ∀ (es acc : List Eg), acc.Nodup → (es.foldl (fun acc e => addE acc (edQ l e)) acc).Nodup := by
    intro es
    induction es with
    | nil => intro acc h; exact h
    | cons e es ih => intro acc h; exact ih _ (addE_nodup h)
  exact key es [] List.nodup_nil
theorem edsQ_id {l : List Int} : ∀ (es : List Eg), es.Nodup → (∀ e ∈ es, edQ l e = e) → edsQ l es = es := by
  have key : ∀ (es acc : List Eg), (acc ++ es).Nodup → (∀ e ∈ es, edQ l e = e) → es.foldl (fun acc e => addE acc (edQ l e)) acc = acc ++ es := by
    intro es
    induction es with
    | nil => intro acc _ _; simp
    | cons e es ih =>
      intro acc h1 h2
      rw [List.foldl_cons, h2 e (by simp)]
      have hn : e ∉ acc := fun hm => by
        rw [List.nodup_append] at h1
        exact h1.2.2 e hm e (by simp) rfl
      have e1 : addE acc e = acc ++ [e] := by unfold addE; rw [if_neg hn]
      rw [e1, ih (acc ++ [e]) (by simpa using h1) (fun x hx => h2 x (by simp [hx]))]
      simp
  intro es h1 h2
  have := key es [] (by simpa using h1) h2
  simpa [edsQ] using this
theorem quo_self {N : NF} {rs : List (List Bool)} {l : List Int} {m : Nat} (C : NOk N) (hC : ClsI rs N.n.toNat l m) : quoN (quoN N l m) (idL m) m = quoN N l m := by
  have CQ := quo_nok C hC
  have hset : ∀ xs, setQ (idL m) (setQ l xs m) m = setQ l xs m := fun xs => by
    refine sorted_uniq (setQ_sorted _ _ _) (setQ_sorted _ _ _) fun c => ?_
    rw [mem_setQ]
    constructor
    · rintro ⟨_, x, h1, h2⟩
      have := (mem_setQ.1 h1).1
      rw [idL_at this.1 this.2] at h2
      rw [← h2]; exact h1
    · intro h
      have := (mem_setQ.1 h).1
      exact ⟨this, c, h, idL_at this.1 this.2⟩
  have hes : edsQ (idL m) (edsQ l N.es) = edsQ l N.es := edsQ_id _ (edsQ_nodup _ _) fun e he => by
    obtain ⟨q1, q2, q3, q4, _⟩ := CQ.ed e he
    unfold edQ
    rw [idL_at q1 q2, idL_at q3 q4]
  show NF.mk N.vs m (setQ (idL m) (setQ l N.st m) m) (setQ (idL m) (setQ l N.fi m) m) (edsQ (idL m) (edsQ l N.es)) = _
  rw [hset, hset, hes]; rfl
end Go.Am.Ar
set_option linter.unusedVariables false
set_option linter.unusedSimpArgs false
set_option maxRecDepth 10000
namespace Go.Am.Ar
open Go.Am renaming pchk → P1, pold → P2, PKNo → P3, ppack → P4, PObj.under → P5, pput → P6, ptset → P7, ptget → P8, pev → P9, ofAV → P10, ofAV1 → P11, ppad → P12, pfill → P13, prepl → P14, AO.effect → P15
open List renaming replicate → L1
open Nat renaming reduceAdd → N1, reduceSub → N2, reduceMul → N3, reduceLT → N4, reduceLeDiff → N5, reduceEqDiff → N6, reduceBEq → N7
open Int renaming reduceToNat → I1, reduceLT → I2, reduceLE → I3, reduceEq → I4, reduceAdd → I5, reduceSub → I6, reduceNeg → I7
theorem NF.ext' {N N' : NF} (h1 : N.vs = N'.vs) (h2 : N.n = N'.n) (h3 : N.st = N'.st) (h4 : N.fi = N'.fi) (h5 : N.es = N'.es) : N = N' := by
  cases N; cases N'; simp_all
section
variable {tab : FuncId → Option AF} (T : HasA tab)
include T
theorem equalE_p {M : Mem} {K : PV → Mem → Prop} {f o f' o' : Bool} {xs ys : List Eg} (hm : xs.length < big) (h1 : ∀ x ∈ xs, x.fit) (h2 : ∀ x ∈ ys, x.fit) (hk : K (.bool (decide (xs = ys))) M) :
    SemC tab 38 [slE f o xs, slE f' o' ys] M K := by
  refine SemC_pure T.h38 (by simp only [PP, P1, P2, P3, P4, P5, P6, P7, P8, P9, P10, P11, P12, P13, P14, L1, P15, N1, N2, N3, N4, N5, N6, N7, I1, I2, I3, I4, I5, I6, I7, reduceIte, reduceCtorEq, under_slE]) ?_
  simp only [af38, PP, P1, P2, P3, P4, P5, P6, P7, P8, P9, P10, P11, P12, P13, P14, L1, P15, N1, N2, N3, N4, N5, N6, N7, I1, I2, I3, I4, I5, I6, I7, reduceIte, reduceCtorEq]
  refine QIf.intro (fun c1 => ?_) (fun c1 => ?_)
  · simp only [PP, P1, P2, P3, P4, P5, P6, P7, P8, P9, P10, P11, P12, P13, P14, L1, P15, N1, N2, N3, N4, N5, N6, N7, I1, I2, I3, I4, I5, I6, I7, reduceIte, reduceCtorEq, c1]
    have hl : xs.length = ys.length := by omega
    refine loop1 (fun (k : Nat) => k ≤ xs.length ∧ K (.bool (decide (xs.drop k = ys.drop k))) M) (fun k => [slE f o xs, slE f' o' ys, .junk, .junk, .junk, p64 k, .junk, .junk, .junk, .junk, .junk, .junk, .junk, .junk, .junk, .junk, .junk, .junk, .junk, .junk, .junk, .junk, .junk, .junk, .junk, .junk]) (fun _ => []) (fun k => xs.length - k) 0 ⟨by omega, hk⟩ (by simp only [PWeak_nil, PWeak_junk, PWeak_same, Int.cast_ofNat_Int, List.length_append, List.length_cons, List.length_nil, Nat.zero_add]) rfl ?_
    intro k ⟨hle, hq⟩ ih
    refine SemW_go (by kernel_rfl) ?_
    simp only [PP, P1, P2, P3, P4, P5, P6, P7, P8, P9, P10, P11, P12, P13, P14, L1, P15, N1, N2, N3, N4, N5, N6, N7, I1, I2, I3, I4, I5, I6, I7, reduceIte, reduceCtorEq]
    refine QIf.intro (fun c => ?_) (fun c => ?_)
    · have hk' : k < xs.length := by omega
      have hk2 : k < ys.length := by omega
      obtain ⟨x, gx⟩ := some_of hk'
      obtain ⟨y, gy⟩ := some_of hk2
      rw [drop_some gx, drop_some gy] at hq
      have hw := wrap_succ (k := k) (by omega)
      have h0 : (0 : Int) ≤ k := by omega
      have cy : (k : Int) < ys.length := by omega
      have hx4 := psub_egL gx
      have hy4 := psub_egL gy
      have lx : k * 4 + 4 ≤ (egL xs).length := by rw [egL_len]; exact eg_le gx
      have ly : k * 4 + 4 ≤ (egL ys).length := by rw [egL_len]; exact eg_le gy
      have hpe := peq_eg (h1 x (List.mem_of_getElem? gx)) (h2 y (List.mem_of_getElem? gy))
      simp only [PP, P1, P2, P3, P4, P5, P6, P7, P8, P9, P10, P11, P12, P13, P14, L1, P15, N1, N2, N3, N4, N5, N6, N7, I1, I2, I3, I4, I5, I6, I7, reduceIte, reduceCtorEq, c, hx4, hy4, lx, ly, hw, h0, cy, hpe]
      by_cases e : x = y
      · simp only [PP, P1, P2, P3, P4, P5, P6, P7, P8, P9, P10, P11, P12, P13, P14, L1, P15, N1, N2, N3, N4, N5, N6, N7, I1, I2, I3, I4, I5, I6, I7, reduceIte, reduceCtorEq, e, hw, List.cons.injEq] at hq ⊢
        exact SemW_weak (ih (k + 1) ⟨by omega, hq⟩ (by omega)) (by simp only [PWeak_nil, PWeak_junk, PWeak_same, Int.cast_ofNat_Int, List.length_append, List.length_cons, List.length_nil, Nat.zero_add])
      · simp only [PP, P1, P2, P3, P4, P5, P6, P7, P8, P9, P10, P11, P12, P13, P14, L1, P15, N1, N2, N3, N4, N5, N6, N7, I1, I2, I3, I4, I5, I6, I7, reduceIte, reduceCtorEq, e, List.cons.injEq] at hq ⊢
        exact hq
    · simp only [PP, P1, P2, P3, P4, P5, P6, P7, P8, P9, P10, P11, P12, P13, P14, L1, P15, N1, N2, N3, N4, N5, N6, N7, I1, I2, I3, I4, I5, I6, I7, reduceIte, reduceCtorEq, c]
      rw [List.drop_eq_nil_of_le (by omega), List.drop_eq_nil_of_le (by omega)] at hq
      simp only [PP, P1, P2, P3, P4, P5, P6, P7, P8, P9, P10, P11, P12, P13, P14, L1, P15, N1, N2, N3, N4, N5, N6, N7, I1, I2, I3, I4, I5, I6, I7, reduceIte, reduceCtorEq] at hq
      exact hq
  · have hne : xs ≠ ys := fun e => c1 (by rw [e])
    simp only [PP, P1, P2, P3, P4, P5, P6, P7, P8, P9, P10, P11, P12, P13, P14, L1, P15, N1, N2, N3, N4, N5, N6, N7, I1, I2, I3, I4, I5, I6, I7, reduceIte, reduceCtorEq, c1]
    rw [decide_eq_false hne] at hk
    exact hk
theorem equalN_p {M : Mem} {K : PV → Mem → Prop} {f1 o1 f2 o2 f3 o3 g1 p1 g2 p2 g3 p3 : Bool} {N N' : NF} (B : BnN N) (h1 : ∀ x ∈ N.es, x.fit) (h2 : ∀ x ∈ N'.es, x.fit) (hk : ∀ b, (b = true ↔ N = N') → K (.bool b) M) :
    SemC tab 23 [.agg (nfC f1 o1 f2 o2 f3 o3 N), .agg (nfC g1 p1 g2 p2 g3 p3 N')] M K := by
  refine SemC_pure T.h23 (by simp only [PP, P1, P2, P3, P4, P5, P6, P7, P8, P9, P10, P11, P12, P13, P14, L1, P15, N1, N2, N3, N4, N5, N6, N7, I1, I2, I3, I4, I5, I6, I7, reduceIte, reduceCtorEq, under_slE]) ?_
  simp only [af23, PP, P1, P2, P3, P4, P5, P6, P7, P8, P9, P10, P11, P12, P13, P14, L1, P15, N1, N2, N3, N4, N5, N6, N7, I1, I2, I3, I4, I5, I6, I7, reduceIte, reduceCtorEq]
  have no : N ≠ N' → K (.bool false) M := fun h => hk false ⟨(fun q => Bool.noConfusion q), fun q => absurd q h⟩
  refine QIf.intro (fun c1 => ?_) (fun c1 => ?_)
  rotate_left
  · simp only [PP, P1, P2, P3, P4, P5, P6, P7, P8, P9, P10, P11, P12, P13, P14, L1, P15, N1, N2, N3, N4, N5, N6, N7, I1, I2, I3, I4, I5, I6, I7, reduceIte, reduceCtorEq, c1]
    exact no fun e => c1 (by rw [e])
  simp only [PP, P1, P2, P3, P4, P5, P6, P7, P8, P9, P10, P11, P12, P13, P14, L1, P15, N1, N2, N3, N4, N5, N6, N7, I1, I2, I3, I4, I5, I6, I7, reduceIte, reduceCtorEq, c1]
  refine QIf.intro (fun c2 => ?_) (fun c2 => ?_)
  rotate_left
  · simp only [PP, P1, P2, P3, P4, P5, P6, P7, P8, P9, P10, P11, P12, P13, P14, L1, P15, N1, N2, N3, N4, N5, N6, N7, I1, I2, I3, I4, I5, I6, I7, reduceIte, reduceCtorEq, c2]
    exact no fun e => c2 (by rw [e])
  simp only [PP, P1, P2, P3, P4, P5, P6, P7, P8, P9, P10, P11, P12, P13, P14, L1, P15, N1, N2, N3, N4, N5, N6, N7, I1, I2, I3, I4, I5, I6, I7, reduceIte, reduceCtorEq, c2]
  refine equalInts_p T B.s ?_
  by_cases c3 : N.st = N'.st
  rotate_left
  · simp only [PP, P1, P2, P3, P4, P5, P6, P7, P8, P9, P10, P11, P12, P13, P14, L1, P15, N1, N2, N3, N4, N5, N6, N7, I1, I2, I3, I4, I5, I6, I7, reduceIte, reduceCtorEq, c3]
    exact no fun e => c3 (by rw [e])
  simp only [PP, P1, P2, P3, P4, P5, P6, P7, P8, P9, P10, P11, P12, P13, P14, L1, P15, N1, N2, N3, N4, N5, N6, N7, I1, I2, I3, I4, I5, I6, I7, reduceIte, reduceCtorEq, c3]
  refine equalInts_p T B.f ?_
  by_cases c4 : N.fi = N'.fi
  rotate_left
  · simp only [PP, P1, P2, P3, P4, P5, P6, P7, P8, P9, P10, P11, P12, P13, P14, L1, P15, N1, N2, N3, N4, N5, N6, N7, I1, I2, I3, I4, I5, I6, I7, reduceIte, reduceCtorEq, c4]
    exact no fun e => c4 (by rw [e])
  simp only [PP, P1, P2, P3, P4, P5, P6, P7, P8, P9, P10, P11, P12, P13, P14, L1, P15, N1, N2, N3, N4, N5, N6, N7, I1, I2, I3, I4, I5, I6, I7, reduceIte, reduceCtorEq, c4]
  refine equalE_p T B.e h1 h2 ?_
  by_cases c5 : N.es = N'.es
  rotate_left
  · simp only [PP, P1, P2, P3, P4, P5, P6, P7, P8, P9, P10, P11, P12, P13, P14, L1, P15, N1, N2, N3, N4, N5, N6, N7, I1, I2, I3, I4, I5, I6, I7, reduceIte, reduceCtorEq, c5]
    exact no fun e => c5 (by rw [e])
  simp only [PP, P1, P2, P3, P4, P5, P6, P7, P8, P9, P10, P11, P12, P13, P14, L1, P15, N1, N2, N3, N4, N5, N6, N7, I1, I2, I3, I4, I5, I6, I7, reduceIte, reduceCtorEq, c5]
  exact hk true ⟨fun _ => NF.ext' c1 c2 c3 c4 c5, fun _ => rfl⟩
end
end Go.Am.Ar
set_option linter.unusedVariables false
set_option linter.unusedSimpArgs false
set_option maxRecDepth 10000
namespace Go.Am.Ar
open Go.Am renaming pchk → P1, pold → P2, PKNo → P3, ppack → P4, PObj.under → P5, pput → P6, ptset → P7, ptget → P8, pev → P9, ofAV → P10, ofAV1 → P11, ppad → P12, pfill → P13, prepl → P14, AO.effect → P15
open List renaming replicate → L1
open Nat renaming reduceAdd → N1, reduceSub → N2, reduceMul → N3, reduceLT → N4, reduceLeDiff → N5, reduceEqDiff → N6, reduceBEq → N7
open Int renaming reduceToNat → I1, reduceLT → I2, reduceLE → I3, reduceEq → I4, reduceAdd → I5, reduceSub → I6, reduceNeg → I7
section
variable {tab : FuncId → Option AF} (T : HasA tab)
include T
set_option maxHeartbeats 1000000 in
theorem squotient_p {N : NF} {w : List Int} (A : NumN N) (hw : ∀ x ∈ w, 0 ≤ x ∧ x ≤ 255) :
    SemC tab 7 [.agg (nfF N), slI false false .u8 w] [] fun r _ => r = .bool true := by
  refine SemC_fn T.h7 ?_
  simp only [af7, PP, P1, P2, P3, P4, P5, P6, P7, P8, P9, P10, P11, P12, P13, P14, L1, P15, N1, N2, N3, N4, N5, N6, N7, I1, I2, I3, I4, I5, I6, I7, reduceIte, reduceCtorEq]
  refine longOne_p T A ?_
  cases hl : longN N with
  | true =>
    simp only [PP, P1, P2, P3, P4, P5, P6, P7, P8, P9, P10, P11, P12, P13, P14, L1, P15, N1, N2, N3, N4, N5, N6, N7, I1, I2, I3, I4, I5, I6, I7, reduceIte, reduceCtorEq]
    refine SemC_true T.awake ?_
    simp only [PP, P1, P2, P3, P4, P5, P6, P7, P8, P9, P10, P11, P12, P13, P14, L1, P15, N1, N2, N3, N4, N5, N6, N7, I1, I2, I3, I4, I5, I6, I7, reduceIte, reduceCtorEq]
  | false =>
  have B := longN_bn A hl
  simp only [PP, P1, P2, P3, P4, P5, P6, P7, P8, P9, P10, P11, P12, P13, P14, L1, P15, N1, N2, N3, N4, N5, N6, N7, I1, I2, I3, I4, I5, I6, I7, reduceIte, reduceCtorEq]
  refine QIf.intro (fun c1 => ?_) (fun c1 => ?_)
  · simp only [PP, P1, P2, P3, P4, P5, P6, P7, P8, P9, P10, P11, P12, P13, P14, L1, P15, N1, N2, N3, N4, N5, N6, N7, I1, I2, I3, I4, I5, I6, I7, reduceIte, reduceCtorEq, c1]
    refine SemC_true T.awake ?_
    simp only [PP, P1, P2, P3, P4, P5, P6, P7, P8, P9, P10, P11, P12, P13, P14, L1, P15, N1, N2, N3, N4, N5, N6, N7, I1, I2, I3, I4, I5, I6, I7, reduceIte, reduceCtorEq]
  have hwl : w.length < 1000000000000 := by omega
  have h12 : checkN N = 0 → N.n ≤ 12 := fun e => by have := longN_sm hl e; omega
  simp only [PP, P1, P2, P3, P4, P5, P6, P7, P8, P9, P10, P11, P12, P13, P14, L1, P15, N1, N2, N3, N4, N5, N6, N7, I1, I2, I3, I4, I5, I6, I7, reduceIte, reduceCtorEq, c1]
  refine SemC_true T.awake ?_
  simp only [PP, P1, P2, P3, P4, P5, P6, P7, P8, P9, P10, P11, P12, P13, P14, L1, P15, N1, N2, N3, N4, N5, N6, N7, I1, I2, I3, I4, I5, I6, I7, reduceIte, reduceCtorEq]
  refine quotientZ_p T B h12 (fun Q e hQ => ?_)
  simp only [PP, P1, P2, P3, P4, P5, P6, P7, P8, P9, P10, P11, P12, P13, P14, L1, P15, N1, N2, N3, N4, N5, N6, N7, I1, I2, I3, I4, I5, I6, I7, reduceIte, reduceCtorEq]
  rcases hQ with ⟨h1, rfl, rfl⟩ | ⟨h1, rfl, rs, l, m, R, hC, rfl⟩
  · simp only [PP, P1, P2, P3, P4, P5, P6, P7, P8, P9, P10, P11, P12, P13, P14, L1, P15, N1, N2, N3, N4, N5, N6, N7, I1, I2, I3, I4, I5, I6, I7, reduceIte, reduceCtorEq, h1]
    refine check_p T B ?_
    simp only [PP, P1, P2, P3, P4, P5, P6, P7, P8, P9, P10, P11, P12, P13, P14, L1, P15, N1, N2, N3, N4, N5, N6, N7, I1, I2, I3, I4, I5, I6, I7, reduceIte, reduceCtorEq, zeroN]
  have C := nok_of h1
  have n0 := C.n0
  have CQ := quo_nok C hC
  have fQ := quo_fit C B hC
  have BQ := nok_bn CQ fQ
  have ckQ := check_of CQ
  have hml := hC.lt.1
  have n6 := (longN_sm hl h1).1
  have hmn : (m : Int) ≤ N.n := by omega
  have hQn : (quoN N l m).n = m := rfl
  obtain ⟨Q, hQe⟩ : ∃ Q, Q = quoN N l m := ⟨_, rfl⟩
  have RQ : RelOk Q (rsQ rs l m) := by rw [hQe]; exact quo_rel C R hC
  have hcQ : ClsI (rsQ rs l m) Q.n.toNat (idL m) m := by rw [hQe]; exact quo_cls C R hC
  have hself : quoN Q (idL m) m = Q := by rw [hQe]; exact quo_self C hC
  have hacc : WdOk N.vs w → (accP N w ↔ accP Q w) := fun h => by rw [hQe]; exact quo_acc C R hC h
  rw [← hQe] at CQ fQ BQ ckQ hQn
  have hvs : Q.vs = N.vs := by rw [hQe]; rfl
  rw [← hQe]
  simp only [PP, P1, P2, P3, P4, P5, P6, P7, P8, P9, P10, P11, P12, P13, P14, L1, P15, N1, N2, N3, N4, N5, N6, N7, I1, I2, I3, I4, I5, I6, I7, reduceIte, reduceCtorEq]
  refine accepts_p T B hw hwl (fun a f hA => ?_)
  simp only [PP, P1, P2, P3, P4, P5, P6, P7, P8, P9, P10, P11, P12, P13, P14, L1, P15, N1, N2, N3, N4, N5, N6, N7, I1, I2, I3, I4, I5, I6, I7, reduceIte, reduceCtorEq]
  refine accepts_p T BQ hw hwl (fun b g hB => ?_)
  simp only [PP, P1, P2, P3, P4, P5, P6, P7, P8, P9, P10, P11, P12, P13, P14, L1, P15, N1, N2, N3, N4, N5, N6, N7, I1, I2, I3, I4, I5, I6, I7, reduceIte, reduceCtorEq]
  refine classesZ_p T BQ (fun l2 e2 hL => ?_)
  obtain ⟨rfl, rfl⟩ := hL.eq (.inr ⟨ckQ, rfl, _, m, RQ, hcQ⟩)
  simp only [PP, P1, P2, P3, P4, P5, P6, P7, P8, P9, P10, P11, P12, P13, P14, L1, P15, N1, N2, N3, N4, N5, N6, N7, I1, I2, I3, I4, I5, I6, I7, reduceIte, reduceCtorEq]
  refine quotientZ_p T BQ (fun _ => by rw [hQn]; omega) (fun Q2 e3 hQ2 => ?_)
  obtain ⟨rfl, rfl⟩ := hQ2.eq (.inr ⟨ckQ, rfl, _, _, m, RQ, hcQ, hself.symm⟩)
  have ea : accE N w = wordE N.vs w := by unfold accE; rw [if_pos h1]
  have eb : accE Q2 w = wordE N.vs w := by unfold accE; rw [if_pos ckQ, hvs]
  obtain ⟨rfl, ha⟩ := hA
  obtain ⟨rfl, hb⟩ := hB
  rw [ea] at ha ⊢
  rw [eb] at hb ⊢
  obtain rfl : a = b := by
    rw [Bool.eq_iff_iff, ha, hb]
    exact and_congr_right fun h => hacc (word_ok h)
  have hil : (idL m).length = m := by simp [idL]
  simp only [PP, P1, P2, P3, P4, P5, P6, P7, P8, P9, P10, P11, P12, P13, P14, L1, P15, N1, N2, N3, N4, N5, N6, N7, I1, I2, I3, I4, I5, I6, I7, reduceIte, reduceCtorEq]
  obtain ⟨Y, hY⟩ : ∃ Y, Y = nfC false true false true false true Q2 := ⟨_, rfl⟩
  refine loop1 (fun (k : Nat) => k ≤ m) (fun k => [.junk, .junk, .ptr 0 0 0, .junk, .junk, .ptr 1 0 0, .junk, .bool a, p64 (wordE N.vs w), .bool a, p64 (wordE N.vs w), slI false true .i64 (idL m), p64 0, .ptr 2 0 0, p64 0, p64 k, .junk, .junk, .junk, .junk, .junk, .junk, .junk, .junk, .junk, .junk, .junk, .junk, .junk, .junk, .junk, .junk, .junk, .junk, .junk, .junk, .junk, .junk, .junk, .junk, .junk, .junk, .junk, .junk, .junk, .junk, .junk, .junk, .junk, .junk, .junk, .junk, .junk, .junk, .junk, .junk, .junk, .junk, .junk, .junk, .junk, .junk, .junk, .junk, .junk, .junk, .junk, .junk, .junk, .junk, .junk, .junk, .junk, .junk, .junk, .junk, .junk, .junk, .junk, .junk, .junk, .junk, .junk, .junk, .junk, .junk, .junk, .junk, .junk, .junk, .junk, .junk, .junk, .junk, .junk, .junk, .junk, .junk, .junk, .junk, .junk, .junk, .junk, .junk, .junk, .junk, .junk, .junk, .junk, .junk, .junk, .junk, .junk, .junk]) (fun _ => [.cells 0 0 (nfF N), .cells 0 1 Y, .cells 0 1 Y]) (fun k => m - k) 0 (by omega) (by simp only [PWeak_nil, PWeak_junk, PWeak_same, Int.cast_ofNat_Int, List.length_append, List.length_cons, List.length_nil, Nat.zero_add]) (by rw [hY]) ?_
  intro k hk ih
  refine SemW_go (by kernel_rfl) ?_
  simp only [PP, P1, P2, P3, P4, P5, P6, P7, P8, P9, P10, P11, P12, P13, P14, L1, P15, N1, N2, N3, N4, N5, N6, N7, I1, I2, I3, I4, I5, I6, I7, reduceIte, reduceCtorEq, hil]
  refine QIf.intro (fun d => ?_) (fun d => ?_)
  · have hk' : k < m := by omega
    have k0 : (0 : Int) ≤ k := by omega
    have gk := idL_get hk'
    have hwk := wrap_succ (k := k) (by show _ < 1000000000000; omega)
    simp only [PP, P1, P2, P3, P4, P5, P6, P7, P8, P9, P10, P11, P12, P13, P14, L1, P15, N1, N2, N3, N4, N5, N6, N7, I1, I2, I3, I4, I5, I6, I7, reduceIte, reduceCtorEq, d, k0, gk, hil, hwk]
    exact SemW_weak (ih (k + 1) hk' (by omega)) (by simp only [PWeak_nil, PWeak_junk, PWeak_same, Int.cast_ofNat_Int, List.length_append, List.length_cons, List.length_nil, Nat.zero_add])
  · subst hY
    have hmn2 : Q2.n ≤ N.n := by omega
    have hmq : (m : Int) = Q2.n := hQn.symm
    simp only [PP, P1, P2, P3, P4, P5, P6, P7, P8, P9, P10, P11, P12, P13, P14, L1, P15, N1, N2, N3, N4, N5, N6, N7, I1, I2, I3, I4, I5, I6, I7, reduceIte, reduceCtorEq, d, hil, hmq, hmn2]
    refine equalN_p T BQ fQ fQ (fun b hb => ?_)
    rw [hb.2 rfl]
    simp only [PP, P1, P2, P3, P4, P5, P6, P7, P8, P9, P10, P11, P12, P13, P14, L1, P15, N1, N2, N3, N4, N5, N6, N7, I1, I2, I3, I4, I5, I6, I7, reduceIte, reduceCtorEq]
theorem squotient_all (args : List AV) (h : H) (hs : ShVs [nfaTy, .slice (.int .u8)] args h) :
    ∃ n h', (run tab n).call 7 args h = some (.bool true, h') := by
  obtain ⟨a, b, rfl, ha, hb⟩ := shVs2 hs
  obtain ⟨N, r1, A⟩ := arg_nfa ha
  obtain ⟨w, r2, _, hw⟩ := arg_ints hb
  exact run_of_C (law_of_sem (.cons r1 (.cons r2 (.nil _))) (squotient_p T A hw))
end
end Go.Am.Ar

