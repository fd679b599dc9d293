/- The pure machine: all objects from some number on are frozen at once, wherever they are named, and what goes with it. -/
import Derived.Test.YtkbdnbmnopmhdaaPmR
set_option linter.unusedVariables false
set_option linter.unusedSimpArgs false
namespace Go.Am
def pfrzO (n : Nat) (M : Mem) : PObj → Option PObj
  | .cells g ver cs => (pfrzL n M cs).map (.cells g ver)
  | .gone => some .gone
  | _ => none
def pfrzM (n : Nat) (M : Mem) : Mem → Option Mem
  | [] => some []
  | o :: l => match pfrzO n M o, pfrzM n M l with
    | some x, some xs => some (x :: xs)
    | _, _ => none
theorem pfrzM_get {n : Nat} {M : Mem} : ∀ {l N : Mem}, pfrzM n M l = some N → N.length = l.length ∧ ∀ (i : Nat) (o : PObj), N[i]? = some o → ∃ o0, l[i]? = some o0 ∧ pfrzO n M o0 = some o
  | [], N, h => by simp only [pfrzM] at h; cases h; exact ⟨rfl, fun i o h => by simp at h⟩
  | o :: l, N, h => by
    simp only [pfrzM] at h
    split at h
    · rename_i x xs h1 h2
      cases h
      obtain ⟨p, q⟩ := pfrzM_get h2
      refine ⟨by simp [p], fun i o' hi => ?_⟩
      cases i with
      | zero => simp at hi; subst hi; exact ⟨o, rfl, h1⟩
      | succ i => obtain ⟨o0, q1, q2⟩ := q i o' (by simpa using hi); exact ⟨o0, by simpa using q1, q2⟩
    · cases h
open Classical in
theorem PSt.cutF {w : PWd} {h : H} {M N : Mem} (s : PSt w h M) {m n : Nat} (h0 : w.id0 ≤ n) (hm : n ≤ M.length) (hN : pfrzM n M (M.take n) = some N) :
    PSt (w.cut h n M) h N ∧ ∀ m, m ≤ n → PStp m w h M (w.cut h n M) h N := by
  obtain ⟨hlen, hget⟩ := pfrzM_get hN
  have hlen : N.length = n := by rw [hlen]; simp; omega
  have live : ∀ {id x : Nat}, LiveAt (w.cut h n M) N id x → id < n ∧ LiveAt w M id x := by
    rintro id x ⟨o, e, h1, h2, h3, h4⟩
    obtain ⟨o0, p1, p2⟩ := hget id o h1
    have hi : id < n := by have := getSome_lt h1; omega
    rw [cut_env hi] at h3
    rw [List.getElem?_take, if_pos hi] at p1
    refine ⟨hi, o0, e, p1, ?_, h3, h4⟩
    rintro rfl
    simp only [pfrzO] at p2
    cases p2
    exact h2 rfl
  refine ⟨⟨?_, ?_, ?_, ?_, ?_, ?_, s.base⟩, fun m hmn => ⟨by omega, ⟨rfl, rfl, cut_imm s n, fun id hi e he => ⟨e, by rw [cut_env (by omega)]; exact he, .inr rfl⟩⟩, Nat.le_refl _, fun _ _ _ => rfl, fun id x hl _ => (live hl).2, ?_⟩⟩
  · intro b o hbo
    have hbo : (if ∃ id, n ≤ id ∧ LiveAt w M id b then h.get b else w.imm b) = some o := hbo
    split at hbo
    · exact hbo
    · exact s.imm b o hbo
  · intro id e he
    have he : (if id < n then w.env id else none) = some e := he
    split at he
    · omega
    · cases he
  · intro id e b he hbl
    have he : (if id < n then w.env id else none) = some e := he
    split at he
    · exact s.blk id e b he hbl
    · cases he
  · intro id o ho
    have hi : id < n := by have := getSome_lt ho; omega
    obtain ⟨o0, p1, p2⟩ := hget id o ho
    rw [List.getElem?_take, if_pos hi] at p1
    have r := s.obj id o0 p1
    cases o0 with
    | cells g ver cs =>
      simp only [pfrzO] at p2
      cases hq : pfrzL n M cs with
      | none => rw [hq] at p2; cases p2
      | some cs2 =>
        rw [hq] at p2; cases p2
        obtain ⟨e, h1, h2, h3⟩ := r
        refine ⟨e, by rw [cut_env hi]; exact h1, h2, ?_⟩
        cases hbl : e.blk with
        | none =>
          rw [hbl] at h3
          have h3 : cs = [] := h3
          subst h3
          simp only [pfrzL] at hq; cases hq; rfl
        | some b =>
          rw [hbl] at h3
          obtain ⟨bcs, h4, h5⟩ := h3
          exact ⟨bcs, h4, frzL_rep s h0 h5 hq⟩
    | gone => simp only [pfrzO] at p2; cases p2; trivial
    | _ => simp [pfrzO] at p2
  · intro i j x h1 h2; exact s.inj i j x (live h1).2 (live h2).2
  · intro i x h1
    obtain ⟨hi, hl⟩ := live h1
    refine ⟨?_, (s.sep i x hl).2⟩
    show (if _ then _ else _) = _
    split
    · rename_i hc
      obtain ⟨j, hj, hl2⟩ := hc
      have := s.inj i j x hl hl2
      omega
    · exact (s.sep i x hl).1
  · intro x hx
    have hx : (if ∃ id, n ≤ id ∧ LiveAt w M id x then h.get x else w.imm x) ≠ none := hx
    split at hx
    · rename_i hc
      obtain ⟨id, hid, hl⟩ := hc
      exact .inr (.inr ⟨id, by omega, hl⟩)
    · exact .inl hx
theorem GStep.cutF {m : Nat} {a b c : List PV} {M N : Mem} (n : Nat) (hn : m ≤ n) (hl : n ≤ M.length) (hw : PWeak a b) (ha : pfrzL n M b = some c) (hN : pfrzM n M (M.take n) = some N) : GStep m a M c N :=
  ⟨fun hm => by obtain ⟨q, _⟩ := pfrzM_get hN; rw [q]; simp; omega, fun w hh a' h0 hm s hr => by
    obtain ⟨s1, s2⟩ := s.cutF (m := m) (Nat.le_trans h0 hn) hl hN
    exact ⟨_, s2 m hn, s1, frzL_rep s (Nat.le_trans h0 hn) (hw.rep hr) ha⟩⟩
section
variable {tab : FuncId → Option AF}
theorem SemC_gh {g : FuncId} {args : List PV} {M : Mem} {K : PV → Mem → Prop} (h : SemC tab g args M fun r M' => Gh M.length (fun a N => ∃ r', a = [r'] ∧ K r' N) [r] M') : SemC tab g args M K := by
  intro w hh args' h0 s ha
  refine C_mono (h w hh args' h0 s ha) ?_
  rintro v h' ⟨w1, r, M1, p1, p2, p3, p4⟩
  unfold Gh at p4
  obtain ⟨b, N, gs, r', rfl, hk⟩ := p4
  obtain ⟨w2, t2, s2, r2⟩ := gs.go w1 h' [v] (by rw [p1.le.id0]; exact h0) p1.len p2 (.cons p3 (.nil _))
  exact ⟨w2, r', N, p1.trans t2 (Nat.le_refl _), s2, r2.hd, hk⟩
end
theorem pfrz1_ref' {n : Nat} {M : Mem} {id g sz off k ver : Nat} {cs : List PV} (hi : n ≤ id) (hM : M[id]? = some (.cells g ver cs)) (h1 : off + k * sz ≤ cs.length) (h2 : underL n cs = true) : pfrz1 n M (.ref id g sz off k) = some (.sl false true sz k (psub cs off (k * sz))) := by
  unfold pfrz1
  simp only
  rw [if_neg (by omega), hM]
  simp only
  rw [if_pos ⟨trivial, h1, h2⟩]
theorem pfrzL_nil' (n : Nat) (M : Mem) : pfrzL n M [] = some [] := rfl
theorem pfrzL_cons' (n : Nat) (M : Mem) (v : PV) (l : List PV) : pfrzL n M (v :: l) = oCons (pfrz1 n M v) (pfrzL n M l) := by
  simp only [pfrzL, oCons]
  all_goals (split <;> simp_all)
end Go.Am
set_option linter.unusedVariables false
set_option linter.unusedSimpArgs false
namespace Go.Am
def PV.flat1 : PV → Bool
  | .bool _ | .int _ _ | .nilptr | .nils | .nilmap | .nilfunc | .niliface => true
  | _ => false
def PV.flatA : PV → Bool
  | .agg vs => vs.all PV.flat1
  | v => v.flat1
def PV.flat : PV → Bool
  | .tuple vs => vs.all PV.flatA
  | v => v.flatA
theorem flat1_rep {w w' : PWd} {r : PV} {x : AV} (hf : r.flat1 = true) (h : RepV w r x) : RepV w' r x := by
  cases h <;> first | (simp [PV.flat1] at hf; done) | constructor
theorem flatA_rep {w w' : PWd} {r : PV} {x : AV} (hf : r.flatA = true) (h : RepV w r x) : RepV w' r x := by
  cases r with
  | agg vs =>
    cases h with
    | agg h1 h2 =>
      refine .agg h1 fun i y z hy hz => flat1_rep ?_ (h2 i y z hy hz)
      exact (List.all_eq_true.1 hf) y (List.mem_of_getElem? hy)
  | _ => exact flat1_rep hf h
theorem flat_rep {w w' : PWd} {r : PV} {x : AV} (hf : r.flat = true) (h : RepV w r x) : RepV w' r x := by
  cases r with
  | tuple vs =>
    cases h with
    | tuple h1 h2 =>
      refine .tuple h1 fun i y z hy hz => flatA_rep ?_ (h2 i y z hy hz)
      exact (List.all_eq_true.1 hf) y (List.mem_of_getElem? hy)
  | _ => exact flatA_rep hf h
inductive PBor (M : Mem) : List PV → List PV → Prop
  | nil : PBor M [] []
  | same {v : PV} {a b : List PV} : v.under 0 = true → PBor M a b → PBor M (v :: a) (v :: b)
  | ref {id g ver sz off n : Nat} {cs cs2 : List PV} {a b : List PV} : M[id]? = some (.cells g ver cs) → off + n * sz ≤ cs.length → underL 0 cs2 = true → psub cs off (n * sz) = cs2 → PBor M a b →
      PBor M (.ref id g sz off n :: a) (.sl true false sz n cs2 :: b)
  | agg {cs cs2 a b : List PV} : PBor M cs cs2 → PBor M a b → PBor M (.agg cs :: a) (.agg cs2 :: b)
section
variable {tab : FuncId → Option AF}
theorem SemC_bor {g : FuncId} {args args2 : List PV} {M : Mem} {K : PV → Mem → Prop} (hb : PBor M args args2) (hc : SemC tab g args2 [] fun r _ => r.flat = true ∧ K r M) : SemC tab g args M K := by
  intro w h args' h0 s ha
  classical
  let w0 : PWd := { n0 := w.n0, env := fun _ => none, id0 := 0, imm := fun b => if ∃ id, LiveAt w M id b then h.get b else w.imm b }
  have him : ∀ b o, w.imm b = some o → w0.imm b = some o := fun b o hbo => by
    show (if _ then _ else _) = _
    split
    · exact s.imm b o hbo
    · exact hbo
  have s0 : PSt w0 h [] := ⟨(fun b o hbo => by
      have hbo : (if ∃ id, LiveAt w M id b then h.get b else w.imm b) = some o := hbo
      split at hbo
      · exact hbo
      · exact s.imm b o hbo), (fun id e he => by cases he), (fun id e b he => by cases he), (fun id o ho => by simp at ho), (fun i j x ⟨_, _, h1, _⟩ => by simp at h1), (fun i x ⟨_, _, h1, _⟩ => by simp at h1), s.base⟩
  have a0 : RepL w0 args2 args' := by
    clear hc
    induction hb generalizing args' with
    | nil => exact ⟨ha.len, fun i y z hy => by simp at hy⟩
    | @same v a b hv _ ih =>
      match args', ha with
      | x :: l, ha => exact .cons (ha.hd.low (w := w) (w' := w0) (m := 0) rfl him (fun id hi => by omega) hv) (ih l ha.tl)
      | [], ha => exact absurd ha.len (by simp)
    | @ref id g ver sz off n cs cs2 a b hm hl hu hps _ ih =>
      match args', ha with
      | x :: l, ha =>
        refine .cons ?_ (ih l ha.tl)
        subst hps
        obtain ⟨e, p1, p2, p3⟩ := s.refAt hm ha.hd
        rcases p3 with ⟨rfl, rfl, rfl, _, _⟩ | ⟨fl, b, bcs, rfl, p4, p5, p6, p7⟩
        · simpa [psub] using RepV.slN
        · have hl2 : (psub cs off (n * sz)).length = n * sz := by simp [psub]; omega
          have hg : w0.imm b = h.get b := by
            show (if _ then _ else _) = _
            rw [if_pos ⟨id, p7⟩]
          have hs := (rep_sub p6 off (n * sz)).low (w := w) (w' := w0) (m := 0) rfl him (fun id hi => by omega) hu
          refine .sl (hg.trans p5) (by rw [hl2, ← p6.len]; exact hl) hl2 (fun _ q => by cases q) (fun q => by cases q) (fun _ q => by cases q) (fun i y z hy hz => hs.get i y z hy ?_)
          rw [List.getElem?_take, if_pos (by have := getSome_lt hy; omega), List.getElem?_drop]; exact hz
      | [], ha => exact absurd ha.len (by simp)
    | @agg cs cs2 a b _ _ ih1 ih =>
      match args', ha with
      | x :: l, ha =>
        refine .cons ?_ (ih l ha.tl)
        cases ha.hd with
        | agg h1 h2 => exact .agg (ih1 _ ⟨h1, h2⟩).len (ih1 _ ⟨h1, h2⟩).get
      | [], ha => exact absurd ha.len (by simp)
  refine C_mono (hc w0 h args' (Nat.le_refl _) s0 a0) ?_
  rintro v h' ⟨w1, r, M1, p1, p2, p3, p5, p6⟩
  have hnl : ∀ x id, ¬ LiveAt w0 [] id x := fun x id ⟨_, _, h1, _⟩ => by simp at h1
  have hkeep : ∀ x, x < h.next → h'.get x = h.get x := fun x hx => p1.keep x hx (hnl x)
  refine ⟨w, r, M, ⟨Nat.le_refl _, Le.refl _ _, p1.next, fun x hx _ => hkeep x hx, fun id x hlv _ => hlv, fun x hx => .inl hx⟩, ⟨fun b o hbo => ?_, s.env, fun id e b he hbl => Nat.lt_of_lt_of_le (s.blk id e b he hbl) p1.next, fun id o ho => ?_, s.inj, s.sep, Nat.le_trans s.base p1.next⟩, flat_rep p5 p3, p6⟩
  · exact p2.imm b o (p1.le.imm b o (him b o hbo))
  · exact RepO.mono s (Le.refl _ _) (s.obj id o ho) (fun e he => he) (fun e b he hbl => hkeep b (s.blk id e b he hbl))
end
theorem PBor.ints {M : Mem} {k : IntKind} {id g ver n : Nat} {xs : List Int} {a b : List PV} (hm : M[id]? = some (.cells g ver (xs.map (PV.int k)))) (hn : xs.length = n) (h : PBor M a b) : PBor M (.ref id g 1 0 n :: a) (slI true false k xs :: b) := by
  subst hn
  exact .ref hm (by simp) (underL_ints _ _ _) (by rw [Nat.mul_one, psub_map]) h
end Go.Am
set_option linter.unusedVariables false
set_option linter.unusedSimpArgs false
namespace Go.Am
def psetAll (a : List PV) : List Nat → List PV → List PV
  | t :: ts, v :: vs => psetAll (ptset a t v) ts vs
  | _, _ => a
theorem RepL.setAll {w : PWd} : ∀ (ts : List Nat) {a : List PV} {a' : List AV} {vs : List PV} {vs' : List AV}, RepL w a a' → RepL w vs vs' → RepL w (psetAll a ts vs) (_root_.Go.Am.setAll a' ts vs')
  | [], a, a', vs, vs', h, hv => by simpa [psetAll, _root_.Go.Am.setAll] using h
  | t :: ts, a, a', [], [], h, hv => by simpa [psetAll, _root_.Go.Am.setAll] using h
  | t :: ts, a, a', [], _ :: _, h, hv => by have := hv.len; simp at this
  | t :: ts, a, a', _ :: _, [], h, hv => by have := hv.len; simp at this
  | t :: ts, a, a', v :: vs, x :: xs, h, hv => RepL.setAll ts (h.tset t hv.hd) hv.tl
section
variable {tab : FuncId → Option AF}
end
end Go.Am
namespace Go.Am
section
variable {tab : FuncId → Option AF} {m : Nat} {a : List PV} {M : Mem} {Qn Qr : List PV → Mem → Prop} {Qe : Nat → List PV → Mem → Prop}
theorem SemW_seq {x y : AC} (h : SemW tab m x a M (fun b N => SemW tab m y b N Qn Qr Qe) Qr Qe) : SemW tab m (.seq x y) a M Qn Qr Qe := by
  intro w hh a' h0 hm s ha
  rw [W_seq]
  refine W_mono (h w hh a' h0 hm s ha) (fun a1 h1 hl => ?_) (fun _ _ h => h) (fun _ _ _ h => h)
  obtain ⟨w1, b, N, t1, s1, r1, q⟩ := hl
  rw [KSeq_eq]
  exact W_mono (q w1 h1 a1 (by rw [t1.le.id0]; exact h0) t1.len s1 r1) (fun _ _ h => h.trans t1) (fun _ _ h => h.trans t1) (fun _ _ _ h => h.trans t1)
theorem SemW_blk {id : Nat} {x : AC} (h : SemW tab m x a M Qn Qr (PKBlk id Qn Qe)) : SemW tab m (.block id x) a M Qn Qr Qe := by
  intro w hh a' h0 hm s ha
  rw [W_block]
  refine W_mono (h w hh a' h0 hm s ha) (fun _ _ h => h) (fun _ _ h => h) (fun i a1 h1 hl => ?_)
  obtain ⟨w1, b, N, t1, s1, r1, q⟩ := hl
  rw [KBlock_eq]
  unfold PKBlk at q
  by_cases e : i = id
  · rw [if_pos e] at q ⊢; exact ⟨w1, b, N, t1, s1, r1, q⟩
  · rw [if_neg e] at q ⊢; exact ⟨w1, b, N, t1, s1, r1, q⟩
theorem SemW_loop {sc : List Nat} {x : AC} (hj : jchk 0 sc a = true) (h : SemW tab m x a M (fun b N => SemW tab m (.loop sc x) b N Qn Qr Qe) Qr Qe) : SemW tab m (.loop sc x) a M Qn Qr Qe := by
  intro w hh a' h0 hm s ha
  rw [W_loop _ _ _ _ _ _ _ _ (lim_code tab)]
  have e := pscrub_same sc a fun s hs => by simpa using (jchk_get a 0 sc hj s hs).2
  have ha2 := RepL.scrub sc ha
  rw [e] at ha2
  refine W_mono (h w hh _ h0 hm s ha2) (fun a1 h1 hl => ?_) (fun _ _ h => h) (fun _ _ _ h => h)
  obtain ⟨w1, b, N, t1, s1, r1, q⟩ := hl
  rw [WL_eq]
  exact W_mono (q w1 h1 a1 (by rw [t1.le.id0]; exact h0) t1.len s1 r1) (fun _ _ h => h.trans t1) (fun _ _ h => h.trans t1) (fun _ _ _ h => h.trans t1)
theorem SemW_of {c : AC} (h : RX tab m c a M Qn Qr Qe) : SemW tab m c a M Qn Qr Qe := RX_sound m c h
theorem SemW_mono {c : AC} {Qn' Qr' : List PV → Mem → Prop} {Qe' : Nat → List PV → Mem → Prop} (h : SemW tab m c a M Qn Qr Qe) (h1 : ∀ b N, Qn b N → Qn' b N) (h2 : ∀ b N, Qr b N → Qr' b N) (h3 : ∀ i b N, Qe i b N → Qe' i b N) : SemW tab m c a M Qn' Qr' Qe' := by
  intro w hh a' h0 hm s ha
  refine W_mono (h w hh a' h0 hm s ha) ?_ ?_ ?_
  · rintro a1 hh1 ⟨w1, b, N, t1, s1, r1, q⟩; exact ⟨w1, b, N, t1, s1, r1, h1 _ _ q⟩
  · rintro a1 hh1 ⟨w1, b, N, t1, s1, r1, q⟩; exact ⟨w1, b, N, t1, s1, r1, h2 _ _ q⟩
  · rintro i a1 hh1 ⟨w1, b, N, t1, s1, r1, q⟩; exact ⟨w1, b, N, t1, s1, r1, h3 _ _ _ q⟩
end
end Go.Am
namespace Go.Am
def tabA {α : Type} (n : Nat) (f : Nat → α) : List α := (List.range n).map f
theorem tabA_len {α : Type} (n : Nat) (f : Nat → α) : (tabA n f).length = n := by simp [tabA]
theorem tabA_get {α : Type} {n : Nat} {f : Nat → α} {v : Nat} (h : v < n) : (tabA n f)[v]? = some (f v) := by simp [tabA, h]
theorem tabA_none {α : Type} {n : Nat} {f : Nat → α} {v : Nat} (h : n ≤ v) : (tabA n f)[v]? = none := List.getElem?_eq_none (by rw [tabA_len]; exact h)
theorem tabA_ext {α : Type} {n : Nat} {f : Nat → α} {a : List α} (hl : a.length = n) (h : ∀ v, v < n → a[v]? = some (f v)) : a = tabA n f := by
  apply List.ext_getElem?
  intro v
  rcases Nat.lt_or_ge v n with q | q
  · rw [h v q, tabA_get q]
  · rw [List.getElem?_eq_none (by omega), tabA_none q]
theorem tabA_congr {α : Type} {n : Nat} {f g : Nat → α} (h : ∀ v, v < n → f v = g v) : tabA n f = tabA n g := tabA_ext (tabA_len _ _) fun v hv => by rw [tabA_get hv, h v hv]
theorem tabA_set {α : Type} {n : Nat} {f : Nat → α} {u : Nat} (x : α) (h : u < n) : (tabA n f).set u x = tabA n (fun v => if v = u then x else f v) := tabA_ext (by rw [List.length_set, tabA_len]) fun v hv => by
  rw [List.getElem?_set]
  by_cases e : u = v
  · subst e; rw [if_pos rfl, if_pos (by rw [tabA_len]; exact h), if_pos rfl]
  · rw [if_neg e, tabA_get hv, if_neg (fun q => e q.symm)]
theorem tabA_rep {α : Type} (n : Nat) (x : α) : List.replicate n x = tabA n (fun _ => x) := tabA_ext (by simp) fun v hv => by simp [hv]
theorem tabA_mem {α : Type} {n : Nat} {f : Nat → α} {x : α} (h : x ∈ tabA n f) : ∃ v, v < n ∧ f v = x := by
  obtain ⟨v, hv, e⟩ := List.mem_map.1 h
  exact ⟨v, List.mem_range.1 hv, e⟩
theorem tabA_succ {α : Type} (n : Nat) (f : Nat → α) : tabA (n + 1) f = tabA n f ++ [f n] := by simp [tabA, List.range_succ]
theorem PWeak.refl : ∀ a : List PV, PWeak a a
  | [] => trivial
  | _ :: a => ⟨.inr rfl, PWeak.refl a⟩
theorem pfrz1_under {n : Nat} {M : Mem} {v : PV} (h : v.under n = true) : pfrz1 n M v = some v := by
  cases v <;> simp_all [pfrz1, PV.under]
theorem pfrzL_under {n : Nat} {M : Mem} : ∀ {l : List PV}, underL n l = true → pfrzL n M l = some l
  | [], _ => rfl
  | v :: l, h => by
    have h2 := (underL_iff n (v :: l)).1 h
    rw [pfrzL_cons', pfrz1_under (h2 v (by simp)), pfrzL_under ((underL_iff n l).2 fun x hx => h2 x (by simp [hx]))]
    rfl
def cutOk (n : Nat) : PObj → Bool
  | .cells _ _ cs => underL n cs
  | .gone => true
  | _ => false
theorem pfrzO_ok {n : Nat} {M : Mem} {o : PObj} (h : cutOk n o = true) : pfrzO n M o = some o := by
  cases o with
  | cells g ver cs => simp only [cutOk] at h; simp only [pfrzO, pfrzL_under h, Option.map_some]
  | gone => rfl
  | _ => simp [cutOk] at h
theorem pfrzM_cons {n : Nat} {M l xs : Mem} {o x : PObj} (h1 : pfrzO n M o = some x) (h2 : pfrzM n M l = some xs) : pfrzM n M (o :: l) = some (x :: xs) := by
  simp only [pfrzM, h1, h2]
theorem pfrzM_ok {n : Nat} {M : Mem} : ∀ {l r xs : Mem}, l.all (cutOk n) = true → pfrzM n M r = some xs → pfrzM n M (l ++ r) = some (l ++ xs)
  | [], r, xs, _, h => h
  | o :: l, r, xs, ho, h => by
    simp only [List.all_cons, Bool.and_eq_true] at ho
    exact pfrzM_cons (pfrzO_ok ho.1) (pfrzM_ok ho.2 h)
theorem Gh_ret {M : Mem} {K : PV → Mem → Prop} {k : IntKind} {ys : List Int} {g ver n : Nat} (hc : M.all (cutOk M.length) = true) (hn : ys.length = n) (hk : K (slI false true k ys) M) :
    Gh M.length (fun a N => ∃ r', a = [r'] ∧ K r' N) [.ref M.length g 1 0 n] (M ++ [.cells g ver (ys.map (PV.int k))]) := by
  subst hn
  have h1 : (M ++ [PObj.cells g ver (ys.map (PV.int k))])[M.length]? = some (.cells g ver (ys.map (PV.int k))) := by simp
  refine Gh.step (GStep.cutF M.length (Nat.le_refl _) (by simp) (PWeak.refl _) (c := [slI false true k ys]) ?_ (N := M) ?_) (Gh.same ⟨_, rfl, hk⟩)
  · rw [pfrzL_cons', pfrz1_ref' (Nat.le_refl _) h1 (by simp) (underL_ints _ _ _), pfrzL_nil']
    simp only [oCons, Nat.mul_one, psub_map, slI]
  · rw [List.take_left']
    · have := pfrzM_ok (M := M ++ [PObj.cells g ver (ys.map (PV.int k))]) (r := []) (xs := []) hc rfl
      simpa using this
    · rfl
end Go.Am
set_option linter.unusedVariables false
set_option linter.unusedSimpArgs false
namespace Go.Am
section
variable {tab : FuncId → Option AF}
end
end Go.Am
set_option linter.unusedVariables false
set_option linter.unusedSimpArgs false
namespace Go.Am
section
variable {tab : FuncId → Option AF}
theorem aops_one {L : Rec} {o : AOper} {os : List AOper} {a b : List AV} {h h1 : H} (e : aops L [o] a h = some (b, h1)) : aops L (o :: os) a h = aops L os b h1 := by
  simp only [aops] at e ⊢
  cases hw : wantedA a o.guard with
  | none => rw [hw] at e; cases e
  | some t =>
    rw [hw] at e
    cases t with
    | false => simp only [Option.some.injEq, Prod.mk.injEq] at e ⊢; obtain ⟨rfl, rfl⟩ := e; rfl
    | true =>
      simp only at e ⊢
      split at e
      · rename_i v h' rd q
        simp only [Option.some.injEq, Prod.mk.injEq] at e
        obtain ⟨rfl, rfl⟩ := e
        rfl
      · cases e
theorem SemW_lit {m : Nat} {a : List PV} {M : Mem} {Qn Qr : List PV → Mem → Prop} {Qe : Nat → List PV → Mem → Prop} {o1 : AOper} {os : List AOper} {d size len : Nat} {z : List AV} {ps : List (Nat × Nat × AR)} {chk : List Nat}
    (h : RO tab [o1] a M fun b N => ∃ cs, pfill b (prepl len (z.map ofAV1)) ps = some cs ∧ RO tab os (ptset b d (.ref N.length 0 size 0 len)) (N ++ [.cells 0 0 cs]) Qn) :
    SemW tab m (.region (o1 :: ⟨some d, .buildSlice size len z ps, none, chk⟩ :: os)) a M Qn Qr Qe := by
  intro w hh a' h0 hm s ha
  rw [W_region]
  delta RO at h
  obtain ⟨a1', h1, e1, w1, b, N, t1, s1, r1, cs, q1, q2⟩ := PO_sound [o1] (Nat.le_trans h0 hm) s ha h
  obtain ⟨cs', f1, f2⟩ := rep_fill r1 ps (rep_repl (repL_ofAV1 w1 z) len) q1
  obtain ⟨s2, t2⟩ := s1.alloc (o := .cells 0 0 cs) (o' := .cells 0 true cs') (e := ⟨some h1.next, 0, 0⟩) rfl (fun w' hl he => ⟨_, he, rfl, _, H.get_alloc_new _ _, f2.mono hl s1.env⟩)
  have hv : RepV (w1.withEnv N.length ⟨some h1.next, 0, 0⟩) (.ref N.length 0 size 0 len) (.slice true size h1.next 0 len) := .ref (e := ⟨some h1.next, 0, 0⟩) (by show (if _ = _ then _ else _) = _; rw [if_pos rfl]) rfl rfl
  obtain ⟨a2', h2, e2, w2, a2, M2, t3, s3, r3, q3⟩ := PO_sound os (by rw [t2.le.id0, t1.le.id0]; have := t1.len; have := t2.len; omega) s2 ((r1.mono t2.le s1.env).tset d hv) q2
  unfold WO
  refine ⟨a2', h2, ?_, w2, a2, M2, ((t1.trans t2 t1.len).trans t3 (Nat.le_trans t1.len t2.len)).weaken hm, s3, r3, q3⟩
  rw [aops_one e1]
  simp only [aops, wantedA, astep, aop, f1]
  exact e2
theorem SemC_pureS {g : FuncId} {F : AFn} (hg : tab g = some (.fn F)) {args : List PV} {M : Mem} {K : PV → Mem → Prop} (hb : underL 0 args = true)
    (hp : SemW tab 0 F.body (ppad args F.ntmps) [] (PKPure F.results fun r => K r M) (PKPure F.results fun r => K r M) PKNo) : SemC tab g args M K := by
  refine SemC_frame hb (SemC_sem hg (SemW_mono hp (fun b N q => ?_) (fun b N q => ?_) fun i b N q => ?_))
  · unfold PKPure at q; exact q
  · unfold PKPure at q; exact q
  · unfold PKNo at q; exact q
end
end Go.Am
set_option linter.unusedVariables false
set_option linter.unusedSimpArgs false
namespace Go.Am
def ZMp (o : Option PObj) (k : Nat → List (PV × PV) → Prop) (t : KTag k) : Prop := QMp o k
def ZLook (kd : Nat) (ok : Bool) (z x i : PV) (M : Mem) (K : PV → Mem → List Nat → List Nat → Prop) (t : KTag K) : Prop := QLook kd ok z x i M K
def ZMapU (kd : Nat) (m i v : PV) (M : Mem) (K : PV → Mem → List Nat → List Nat → Prop) (t : KTag K) : Prop := QMapU kd m i v M K
theorem ZMp_map (ver : Nat) (es : List (PV × PV)) (k : Nat → List (PV × PV) → Prop) (t : KTag k) : ZMp (some (.map ver es)) k t = k ver es := by
  apply propext
  constructor
  · rintro ⟨_, _, e, h⟩; cases e; exact h
  · intro h; exact ⟨_, _, rfl, h⟩
section
variable (tab : FuncId → Option AF) (a : List PV) (M : Mem) (K : PV → Mem → List Nat → List Nat → Prop)
theorem PS_makeMap : RS tab .makeMap a M K = K (.map M.length) (M ++ [.map 0 []]) [] [] := by delta RS; rfl
theorem PS_lookup (kd : Nat) (ok : Bool) (z : AV) (x i : AR) : RS tab (.lookup kd ok z x i) a M K = ZLook kd ok (ofAV1 z) (pev a x) (pev a i) M K ⟨0⟩ := by delta RS; rfl
theorem PS_mapUpdate (kd : Nat) (m i v : AR) : RS tab (.mapUpdate kd m i v) a M K = ZMapU kd (pev a m) (pev a i) (pev a v) M K ⟨0⟩ := by delta RS; rfl
end
theorem ZLook_map (kd : Nat) (ok : Bool) (z : PV) (id : Nat) (k : IntKind) (n : Int) (M : Mem) (K : PV → Mem → List Nat → List Nat → Prop) (t : KTag K) :
    ZLook kd ok z (.map id) (.int k n) M K t = ZMp M[id]? (fun _ es => ZSome (pmapFind kd (.int k n) es) (fun r => K (plook ok z r) M [id] []) ⟨0⟩) ⟨0⟩ := by unfold ZMp; delta ZSome; rfl
theorem ZMapU_map (kd : Nat) (id : Nat) (k : IntKind) (n : Int) (v : PV) (M : Mem) (K : PV → Mem → List Nat → List Nat → Prop) (t : KTag K) :
    ZMapU kd (.map id) (.int k n) v M K t = ZMp M[id]? (fun ver es => ZSome (pmapFind kd (.int k n) es) (fun _ => v.one = true ∧ K (.tuple []) (M.set id (.map (ver + 1) (pmapPut kd (.int k n) (.int k n) v es))) [] [id]) ⟨0⟩) ⟨0⟩ := by unfold ZMp; delta ZSome; rfl
theorem plook_st (z v : PV) : plook true z (some v) = .tuple [v, .bool true] := (rfl)
theorem plook_sf (z v : PV) : plook false z (some v) = v := (rfl)
theorem plook_nt (z : PV) : plook true z none = .tuple [z, .bool false] := (rfl)
theorem plook_nf (z : PV) : plook false z none = z := (rfl)
def mpE (l : List (Nat × Nat)) : List (PV × PV) := l.map fun p => (PV.int .i64 (p.1 : Int), PV.int .i64 (p.2 : Int))
def mlook (k : Nat) : List (Nat × Nat) → Option Nat
  | [] => none
  | p :: l => if k = p.1 then some p.2 else mlook k l
theorem mpE_find (k : Nat) : ∀ l : List (Nat × Nat), pmapFind 0 (.int .i64 (k : Int)) (mpE l) = some ((mlook k l).map fun (v : Nat) => PV.int .i64 (v : Int))
  | [] => rfl
  | p :: l => by
    show (match (if IntKind.i64 = IntKind.i64 then some ((k : Int) == (p.1 : Int)) else none) with | some true => some (some _) | some false => pmapFind 0 (.int .i64 (k : Int)) (mpE l) | none => none) = _
    rw [if_pos rfl]
    unfold mlook
    by_cases e : k = p.1
    · rw [if_pos e, show ((k : Int) == (p.1 : Int)) = true by rw [e]; simp]; rfl
    · rw [if_neg e, show ((k : Int) == (p.1 : Int)) = false by simp; omega]
      exact mpE_find k l
theorem mpE_put (k v : Nat) : ∀ l : List (Nat × Nat), mlook k l = none → pmapPut 0 (.int .i64 (k : Int)) (.int .i64 (k : Int)) (.int .i64 (v : Int)) (mpE l) = mpE (l ++ [(k, v)])
  | [], _ => rfl
  | p :: l, h => by
    unfold mlook at h
    by_cases e : k = p.1
    · rw [if_pos e] at h; cases h
    · rw [if_neg e] at h
      show (match (if IntKind.i64 = IntKind.i64 then some ((k : Int) == (p.1 : Int)) else none) with | some true => _ | _ => _ :: pmapPut 0 (.int .i64 (k : Int)) (.int .i64 (k : Int)) (.int .i64 (v : Int)) (mpE l)) = _
      rw [if_pos rfl, show ((k : Int) == (p.1 : Int)) = false by simp; omega, mpE_put k v l h]
      rfl
attribute [irreducible] ZMp ZLook ZMapU
end Go.Am
set_option linter.unusedVariables false
set_option linter.unusedSimpArgs false
namespace Go.Am
def PFrzP (id g : Nat) (cs : List PV) : List PV → List PV → Prop
  | [], [] => True
  | x :: a, y :: b => (y = .junk ∨ x = y ∨ ∃ o, x = .ptr id g o ∧ y = .cp cs o) ∧ PFrzP id g cs a b
  | _, _ => False
theorem PFrzP_nil (id g : Nat) (cs : List PV) : PFrzP id g cs [] [] = True := (rfl)
theorem PFrzP_junk (id g : Nat) (cs : List PV) (x : PV) (a b : List PV) : PFrzP id g cs (x :: a) (.junk :: b) = PFrzP id g cs a b := by simp [PFrzP]
theorem PFrzP_same (id g : Nat) (cs : List PV) (x : PV) (a b : List PV) : PFrzP id g cs (x :: a) (x :: b) = PFrzP id g cs a b := by simp [PFrzP]
theorem PFrzP_ptr (id g o : Nat) (cs : List PV) (a b : List PV) : PFrzP id g cs (.ptr id g o :: a) (.cp cs o :: b) = PFrzP id g cs a b := by
  simp [PFrzP]
theorem PSt.freezeP {w : PWd} {h : H} {M : Mem} (s : PSt w h M) {id g ver : Nat} {cs : List PV} (hm : M[id]? = some (.cells g ver cs)) (h0 : w.id0 ≤ id) :
    ∃ w', PSt w' h (M.set id .gone) ∧ (∀ m, m ≤ id → PStp m w h M w' h (M.set id .gone)) ∧ Le M.length w w' ∧ ∀ o x, RepV w (.ptr id g o) x → RepV w' (.cp cs o) x := by
  obtain ⟨e, h1, h2, h3⟩ := s.cellsAt hm
  have hid := getSome_lt hm
  rcases h3 with ⟨hb, rfl⟩ | ⟨b, bcs, hb, hg, hr, hlv⟩
  · have live : ∀ i x, LiveAt w (M.set id .gone) i x → LiveAt w M i x := by
      rintro i x ⟨ob, e', p1, p2, p3, p4⟩
      by_cases hi : id = i
      · subst hi; rw [List.getElem?_set_self hid] at p1; cases p1; exact absurd rfl p2
      · rw [List.getElem?_set_ne hi] at p1; exact ⟨ob, e', p1, p2, p3, p4⟩
    refine ⟨w, ⟨s.imm, fun i e' he => by simpa using s.env i e' he, s.blk, ?_, fun i j x q1 q2 => s.inj i j x (live i x q1) (live j x q2), fun i x q1 => s.sep i x (live i x q1), s.base⟩, fun m hmm => ⟨by simp; omega, Le.refl _ _, Nat.le_refl _, fun _ _ _ => rfl, fun i x q1 _ => live i x q1, fun x hx => .inl hx⟩, Le.refl _ _, ?_⟩
    · intro i ob hi
      by_cases hid2 : id = i
      · subst hid2; rw [List.getElem?_set_self hid] at hi; cases hi; trivial
      · rw [List.getElem?_set_ne hid2] at hi; exact s.obj i ob hi
    · intro o x hx
      cases hx with
      | ptr q1 q2 q3 => rw [h1] at q1; cases q1; rw [hb] at q3; cases q3
      | ptrS x q0 q1 q2 => rw [h1] at q1; cases q1; omega
  · let w' := w.withImm b (.cells (e.v0 + ver) true bcs)
    have hsep := s.sep id b hlv
    have hl : Le M.length w w' := le_withImm hsep.1
    have him : ∀ x, x ≠ b → w'.imm x = w.imm x := fun x hx => by show (if _ = _ then _ else _) = _; rw [if_neg hx]
    have hnew : w'.imm b = some (.cells (e.v0 + ver) true bcs) := by show (if _ = _ then _ else _) = _; rw [if_pos rfl]
    have live : ∀ i x, LiveAt w' (M.set id .gone) i x → i ≠ id ∧ LiveAt w M i x := by
      rintro i x ⟨ob, e', p1, p2, p3, p4⟩
      by_cases hi : id = i
      · subst hi; rw [List.getElem?_set_self hid] at p1; cases p1; exact absurd rfl p2
      · rw [List.getElem?_set_ne hi] at p1; exact ⟨fun q => hi q.symm, ob, e', p1, p2, p3, p4⟩
    refine ⟨w', ⟨?_, fun i e' he => by simpa using s.env i e' he, s.blk, ?_, fun i j x q1 q2 => s.inj i j x (live i x q1).2 (live j x q2).2, ?_, s.base⟩, fun m hmm => ⟨by simp; omega, ⟨hl.n0, hl.id0, hl.imm, fun i hi => hl.env i (by omega)⟩, Nat.le_refl _, fun _ _ _ => rfl, fun i x q1 _ => (live i x q1).2, ?_⟩, hl, ?_⟩
    · intro x o hx
      by_cases e1 : x = b
      · subst e1; rw [hnew] at hx; cases hx; exact hg
      · rw [him x e1] at hx; exact s.imm x o hx
    · intro i ob hi
      by_cases hid2 : id = i
      · subst hid2; rw [List.getElem?_set_self hid] at hi; cases hi; trivial
      · rw [List.getElem?_set_ne hid2] at hi
        exact RepO.mono s hl (s.obj i ob hi) (fun e' he => he) (fun _ _ _ _ => rfl)
    · intro i x q1
      obtain ⟨hne, q2⟩ := live i x q1
      have : x ≠ b := by rintro rfl; exact hne (s.inj i id x q2 hlv)
      exact ⟨by rw [him x this]; exact (s.sep i x q2).1, (s.sep i x q2).2⟩
    · intro x hx
      by_cases e1 : x = b
      · subst e1; exact .inr (.inr ⟨id, hmm, hlv⟩)
      · rw [him x e1] at hx; exact .inl hx
    · intro o x hx
      cases hx with
      | ptr q1 q2 q3 =>
        rw [h1] at q1; cases q1
        rw [hb] at q3; cases q3
        have hs := hr.mono hl s.env
        have := RepV.cp (o := o) (off := 0) hnew (by rw [hr.len]; omega) (fun i y z hy hz => hs.get i y z hy (by simpa using hz))
        simpa using this
      | ptrS x q0 q1 q2 => rw [h1] at q1; cases q1; omega
theorem PFrzP.rep {w w' : PWd} {M : Mem} {id g : Nat} {cs : List PV} (hl : Le M.length w w') (hd : ∀ i e, w.env i = some e → i < M.length) (hf : ∀ o x, RepV w (.ptr id g o) x → RepV w' (.cp cs o) x) :
    ∀ {a b : List PV} {a' : List AV}, PFrzP id g cs a b → RepL w a a' → RepL w' b a'
  | [], [], a', _, h => ⟨h.len, fun i y z q => by simp at q⟩
  | x :: a, y :: b, [], _, h => by have := h.len; simp at this
  | x :: a, y :: b, v :: a', ⟨h1, h2⟩, h => by
    refine .cons ?_ (PFrzP.rep hl hd hf h2 h.tl)
    rcases h1 with rfl | rfl | ⟨o, rfl, rfl⟩
    · exact .junk _
    · exact h.hd.mono hl hd
    · exact hf o v h.hd
  | [], _ :: _, a', hw, h => hw.elim
  | _ :: _, [], a', hw, h => hw.elim
theorem GStep.freezeP {m : Nat} {a b : List PV} {M N : Mem} (id : Nat) {g ver : Nat} {cs : List PV} (hid : m ≤ id) (hM : M[id]? = some (.cells g ver cs)) (hf : PFrzP id g cs a b) (hN : M.set id .gone = N) : GStep m a M b N := by
  subst hN
  refine ⟨fun hm => by simpa using hm, fun w hh a' h0 hm s ha => ?_⟩
  obtain ⟨w', s1, s2, hl, hr⟩ := s.freezeP hM (Nat.le_trans h0 hid)
  exact ⟨w', s2 m hid, s1, hf.rep hl s.env hr ha⟩
end Go.Am

