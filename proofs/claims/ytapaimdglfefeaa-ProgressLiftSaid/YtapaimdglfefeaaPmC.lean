/- The pure machine: all objects from some number on are frozen at once, wherever they are named, and what goes with it. -/
import Derived.Test.YtapaimdglfefeaaPmR
set_option linter.unusedVariables false
set_option linter.unusedSimpArgs false
namespace Go.Am
def pfrzO (n : Nat) (M : Mem) : PObj → Option PObj
  | .cells g ver cs => (pfrzL n M cs).map (.cells g ver)
  | .gone => some .gone
  | _ => none
def pfrzM (n : Nat) (M : Mem) : Mem → Option Mem
  | [] => some []
  | o :: l => match pfrzO n M o, pfrzM n M l with
    | some x, some xs => some (x :: xs)
    | _, _ => none
theorem pfrzM_get {n : Nat} {M : Mem} : ∀ {l N : Mem}, pfrzM n M l = some N → N.length = l.length ∧ ∀ (i : Nat) (o : PObj), N[i]? = some o → ∃ o0, l[i]? = some o0 ∧ pfrzO n M o0 = some o
  | [], N, h => by simp only [pfrzM] at h; cases h; exact ⟨rfl, fun i o h => by simp at h⟩
  | o :: l, N, h => by
    simp only [pfrzM] at h
    split at h
    · rename_i x xs h1 h2
      cases h
      obtain ⟨p, q⟩ := pfrzM_get h2
      refine ⟨by simp [p], fun i o' hi => ?_⟩
      cases i with
      | zero => simp at hi; subst hi; exact ⟨o, rfl, h1⟩
      | succ i => obtain ⟨o0, q1, q2⟩ := q i o' (by simpa using hi); exact ⟨o0, by simpa using q1, q2⟩
    · cases h
open Classical in
theorem PSt.cutF {w : PWd} {h : H} {M N : Mem} (s : PSt w h M) {m n : Nat} (h0 : w.id0 ≤ n) (hm : n ≤ M.length) (hN : pfrzM n M (M.take n) = some N) :
    PSt (w.cut h n M) h N ∧ ∀ m, m ≤ n → PStp m w h M (w.cut h n M) h N := by
  obtain ⟨hlen, hget⟩ := pfrzM_get hN
  have hlen : N.length = n := by rw [hlen]; simp; omega
  have live : ∀ {id x : Nat}, LiveAt (w.cut h n M) N id x → id < n ∧ LiveAt w M id x := by
    rintro id x ⟨o, e, h1, h2, h3, h4⟩
    obtain ⟨o0, p1, p2⟩ := hget id o h1
    have hi : id < n := by have := getSome_lt h1; omega
    rw [cut_env hi] at h3
    rw [List.getElem?_take, if_pos hi] at p1
    refine ⟨hi, o0, e, p1, ?_, h3, h4⟩
    rintro rfl
    simp only [pfrzO] at p2
    cases p2
    exact h2 rfl
  refine ⟨⟨?_, ?_, ?_, ?_, ?_, ?_, s.base⟩, fun m hmn => ⟨by omega, ⟨rfl, rfl, cut_imm s n, fun id hi e he => ⟨e, by rw [cut_env (by omega)]; exact he, .inr rfl⟩⟩, Nat.le_refl _, fun _ _ _ => rfl, fun id x hl _ => (live hl).2, ?_⟩⟩
  · intro b o hbo
    have hbo : (if ∃ id, n ≤ id ∧ LiveAt w M id b then h.get b else w.imm b) = some o := hbo
    split at hbo
    · exact hbo
    · exact s.imm b o hbo
  · intro id e he
    have he : (if id < n then w.env id else none) = some e := he
    split at he
    · omega
    · cases he
  · intro id e b he hbl
    have he : (if id < n then w.env id else none) = some e := he
    split at he
    · exact s.blk id e b he hbl
    · cases he
  · intro id o ho
    have hi : id < n := by have := getSome_lt ho; omega
    obtain ⟨o0, p1, p2⟩ := hget id o ho
    rw [List.getElem?_take, if_pos hi] at p1
    have r := s.obj id o0 p1
    cases o0 with
    | cells g ver cs =>
      simp only [pfrzO] at p2
      cases hq : pfrzL n M cs with
      | none => rw [hq] at p2; cases p2
      | some cs2 =>
        rw [hq] at p2; cases p2
        obtain ⟨e, h1, h2, h3⟩ := r
        refine ⟨e, by rw [cut_env hi]; exact h1, h2, ?_⟩
        cases hbl : e.blk with
        | none =>
          rw [hbl] at h3
          have h3 : cs = [] := h3
          subst h3
          simp only [pfrzL] at hq; cases hq; rfl
        | some b =>
          rw [hbl] at h3
          obtain ⟨bcs, h4, h5⟩ := h3
          exact ⟨bcs, h4, frzL_rep s h0 h5 hq⟩
    | gone => simp only [pfrzO] at p2; cases p2; trivial
    | _ => simp [pfrzO] at p2
  · intro i j x h1 h2; exact s.inj i j x (live h1).2 (live h2).2
  · intro i x h1
    obtain ⟨hi, hl⟩ := live h1
    refine ⟨?_, (s.sep i x hl).2⟩
    show (if _ then _ else _) = _
    split
    · rename_i hc
      obtain ⟨j, hj, hl2⟩ := hc
      have := s.inj i j x hl hl2
      omega
    · exact (s.sep i x hl).1
  · intro x hx
    have hx : (if ∃ id, n ≤ id ∧ LiveAt w M id x then h.get x else w.imm x) ≠ none := hx
    split at hx
    · rename_i hc
      obtain ⟨id, hid, hl⟩ := hc
      exact .inr (.inr ⟨id, by omega, hl⟩)
    · exact .inl hx
theorem GStep.cutF {m : Nat} {a b c : List PV} {M N : Mem} (n : Nat) (hn : m ≤ n) (hl : n ≤ M.length) (hw : PWeak a b) (ha : pfrzL n M b = some c) (hN : pfrzM n M (M.take n) = some N) : GStep m a M c N :=
  ⟨fun hm => by obtain ⟨q, _⟩ := pfrzM_get hN; rw [q]; simp; omega, fun w hh a' h0 hm s hr => by
    obtain ⟨s1, s2⟩ := s.cutF (m := m) (Nat.le_trans h0 hn) hl hN
    exact ⟨_, s2 m hn, s1, frzL_rep s (Nat.le_trans h0 hn) (hw.rep hr) ha⟩⟩
section
variable {tab : FuncId → Option AF}
end
theorem pfrzL_cons' (n : Nat) (M : Mem) (v : PV) (l : List PV) : pfrzL n M (v :: l) = oCons (pfrz1 n M v) (pfrzL n M l) := by
  simp only [pfrzL, oCons]
  all_goals (split <;> simp_all)
end Go.Am
set_option linter.unusedVariables false
set_option linter.unusedSimpArgs false
namespace Go.Am
def PV.flat1 : PV → Bool
  | .bool _ | .int _ _ | .nilptr | .nils | .nilmap | .nilfunc | .niliface => true
  | _ => false
def PV.flatA : PV → Bool
  | .agg vs => vs.all PV.flat1
  | v => v.flat1
def PV.flat : PV → Bool
  | .tuple vs => vs.all PV.flatA
  | v => v.flatA
theorem flat1_rep {w w' : PWd} {r : PV} {x : AV} (hf : r.flat1 = true) (h : RepV w r x) : RepV w' r x := by
  cases h <;> first | (simp [PV.flat1] at hf; done) | constructor
theorem flatA_rep {w w' : PWd} {r : PV} {x : AV} (hf : r.flatA = true) (h : RepV w r x) : RepV w' r x := by
  cases r with
  | agg vs =>
    cases h with
    | agg h1 h2 =>
      refine .agg h1 fun i y z hy hz => flat1_rep ?_ (h2 i y z hy hz)
      exact (List.all_eq_true.1 hf) y (List.mem_of_getElem? hy)
  | _ => exact flat1_rep hf h
theorem flat_rep {w w' : PWd} {r : PV} {x : AV} (hf : r.flat = true) (h : RepV w r x) : RepV w' r x := by
  cases r with
  | tuple vs =>
    cases h with
    | tuple h1 h2 =>
      refine .tuple h1 fun i y z hy hz => flatA_rep ?_ (h2 i y z hy hz)
      exact (List.all_eq_true.1 hf) y (List.mem_of_getElem? hy)
  | _ => exact flatA_rep hf h
inductive PBor (M : Mem) : List PV → List PV → Prop
  | nil : PBor M [] []
  | same {v : PV} {a b : List PV} : v.under 0 = true → PBor M a b → PBor M (v :: a) (v :: b)
  | ref {id g ver sz off n : Nat} {cs cs2 : List PV} {a b : List PV} : M[id]? = some (.cells g ver cs) → off + n * sz ≤ cs.length → underL 0 cs2 = true → psub cs off (n * sz) = cs2 → PBor M a b →
      PBor M (.ref id g sz off n :: a) (.sl true false sz n cs2 :: b)
  | agg {cs cs2 a b : List PV} : PBor M cs cs2 → PBor M a b → PBor M (.agg cs :: a) (.agg cs2 :: b)
section
variable {tab : FuncId → Option AF}
theorem SemC_bor {g : FuncId} {args args2 : List PV} {M : Mem} {K : PV → Mem → Prop} (hb : PBor M args args2) (hc : SemC tab g args2 [] fun r _ => r.flat = true ∧ K r M) : SemC tab g args M K := by
  intro w h args' h0 s ha
  classical
  let w0 : PWd := { n0 := w.n0, env := fun _ => none, id0 := 0, imm := fun b => if ∃ id, LiveAt w M id b then h.get b else w.imm b }
  have him : ∀ b o, w.imm b = some o → w0.imm b = some o := fun b o hbo => by
    show (if _ then _ else _) = _
    split
    · exact s.imm b o hbo
    · exact hbo
  have s0 : PSt w0 h [] := ⟨(fun b o hbo => by
      have hbo : (if ∃ id, LiveAt w M id b then h.get b else w.imm b) = some o := hbo
      split at hbo
      · exact hbo
      · exact s.imm b o hbo), (fun id e he => by cases he), (fun id e b he => by cases he), (fun id o ho => by simp at ho), (fun i j x ⟨_, _, h1, _⟩ => by simp at h1), (fun i x ⟨_, _, h1, _⟩ => by simp at h1), s.base⟩
  have a0 : RepL w0 args2 args' := by
    clear hc
    induction hb generalizing args' with
    | nil => exact ⟨ha.len, fun i y z hy => by simp at hy⟩
    | @same v a b hv _ ih =>
      match args', ha with
      | x :: l, ha => exact .cons (ha.hd.low (w := w) (w' := w0) (m := 0) rfl him (fun id hi => by omega) hv) (ih l ha.tl)
      | [], ha => exact absurd ha.len (by simp)
    | @ref id g ver sz off n cs cs2 a b hm hl hu hps _ ih =>
      match args', ha with
      | x :: l, ha =>
        refine .cons ?_ (ih l ha.tl)
        subst hps
        obtain ⟨e, p1, p2, p3⟩ := s.refAt hm ha.hd
        rcases p3 with ⟨rfl, rfl, rfl, _, _⟩ | ⟨fl, b, bcs, rfl, p4, p5, p6, p7⟩
        · simpa [psub] using RepV.slN
        · have hl2 : (psub cs off (n * sz)).length = n * sz := by simp [psub]; omega
          have hg : w0.imm b = h.get b := by
            show (if _ then _ else _) = _
            rw [if_pos ⟨id, p7⟩]
          have hs := (rep_sub p6 off (n * sz)).low (w := w) (w' := w0) (m := 0) rfl him (fun id hi => by omega) hu
          refine .sl (hg.trans p5) (by rw [hl2, ← p6.len]; exact hl) hl2 (fun _ q => by cases q) (fun q => by cases q) (fun _ q => by cases q) (fun i y z hy hz => hs.get i y z hy ?_)
          rw [List.getElem?_take, if_pos (by have := getSome_lt hy; omega), List.getElem?_drop]; exact hz
      | [], ha => exact absurd ha.len (by simp)
    | @agg cs cs2 a b _ _ ih1 ih =>
      match args', ha with
      | x :: l, ha =>
        refine .cons ?_ (ih l ha.tl)
        cases ha.hd with
        | agg h1 h2 => exact .agg (ih1 _ ⟨h1, h2⟩).len (ih1 _ ⟨h1, h2⟩).get
      | [], ha => exact absurd ha.len (by simp)
  refine C_mono (hc w0 h args' (Nat.le_refl _) s0 a0) ?_
  rintro v h' ⟨w1, r, M1, p1, p2, p3, p5, p6⟩
  have hnl : ∀ x id, ¬ LiveAt w0 [] id x := fun x id ⟨_, _, h1, _⟩ => by simp at h1
  have hkeep : ∀ x, x < h.next → h'.get x = h.get x := fun x hx => p1.keep x hx (hnl x)
  refine ⟨w, r, M, ⟨Nat.le_refl _, Le.refl _ _, p1.next, fun x hx _ => hkeep x hx, fun id x hlv _ => hlv, fun x hx => .inl hx⟩, ⟨fun b o hbo => ?_, s.env, fun id e b he hbl => Nat.lt_of_lt_of_le (s.blk id e b he hbl) p1.next, fun id o ho => ?_, s.inj, s.sep, Nat.le_trans s.base p1.next⟩, flat_rep p5 p3, p6⟩
  · exact p2.imm b o (p1.le.imm b o (him b o hbo))
  · exact RepO.mono s (Le.refl _ _) (s.obj id o ho) (fun e he => he) (fun e b he hbl => hkeep b (s.blk id e b he hbl))
end
end Go.Am
set_option linter.unusedVariables false
set_option linter.unusedSimpArgs false
namespace Go.Am
def psetAll (a : List PV) : List Nat → List PV → List PV
  | t :: ts, v :: vs => psetAll (ptset a t v) ts vs
  | _, _ => a
theorem RepL.setAll {w : PWd} : ∀ (ts : List Nat) {a : List PV} {a' : List AV} {vs : List PV} {vs' : List AV}, RepL w a a' → RepL w vs vs' → RepL w (psetAll a ts vs) (_root_.Go.Am.setAll a' ts vs')
  | [], a, a', vs, vs', h, hv => by simpa [psetAll, _root_.Go.Am.setAll] using h
  | t :: ts, a, a', [], [], h, hv => by simpa [psetAll, _root_.Go.Am.setAll] using h
  | t :: ts, a, a', [], _ :: _, h, hv => by have := hv.len; simp at this
  | t :: ts, a, a', _ :: _, [], h, hv => by have := hv.len; simp at this
  | t :: ts, a, a', v :: vs, x :: xs, h, hv => RepL.setAll ts (h.tset t hv.hd) hv.tl
section
variable {tab : FuncId → Option AF}
end
end Go.Am
namespace Go.Am
section
variable {tab : FuncId → Option AF} {m : Nat} {a : List PV} {M : Mem} {Qn Qr : List PV → Mem → Prop} {Qe : Nat → List PV → Mem → Prop}
end
end Go.Am
namespace Go.Am
def tabA {α : Type} (n : Nat) (f : Nat → α) : List α := (List.range n).map f
theorem tabA_len {α : Type} (n : Nat) (f : Nat → α) : (tabA n f).length = n := by simp [tabA]
theorem tabA_get {α : Type} {n : Nat} {f : Nat → α} {v : Nat} (h : v < n) : (tabA n f)[v]? = some (f v) := by simp [tabA, h]
theorem tabA_none {α : Type} {n : Nat} {f : Nat → α} {v : Nat} (h : n ≤ v) : (tabA n f)[v]? = none := List.getElem?_eq_none (by rw [tabA_len]; exact h)
theorem tabA_ext {α : Type} {n : Nat} {f : Nat → α} {a : List α} (hl : a.length = n) (h : ∀ v, v < n → a[v]? = some (f v)) : a = tabA n f := by
  apply List.ext_getElem?
  intro v
  rcases Nat.lt_or_ge v n with q | q
  · rw [h v q, tabA_get q]
  · rw [List.getElem?_eq_none (by omega), tabA_none q]
theorem tabA_congr {α : Type} {n : Nat} {f g : Nat → α} (h : ∀ v, v < n → f v = g v) : tabA n f = tabA n g := tabA_ext (tabA_len _ _) fun v hv => by rw [tabA_get hv, h v hv]
theorem tabA_set {α : Type} {n : Nat} {f : Nat → α} {u : Nat} (x : α) (h : u < n) : (tabA n f).set u x = tabA n (fun v => if v = u then x else f v) := tabA_ext (by rw [List.length_set, tabA_len]) fun v hv => by
  rw [List.getElem?_set]
  by_cases e : u = v
  · subst e; rw [if_pos rfl, if_pos (by rw [tabA_len]; exact h), if_pos rfl]
  · rw [if_neg e, tabA_get hv, if_neg (fun q => e q.symm)]
theorem tabA_mem {α : Type} {n : Nat} {f : Nat → α} {x : α} (h : x ∈ tabA n f) : ∃ v, v < n ∧ f v = x := by
  obtain ⟨v, hv, e⟩ := List.mem_map.1 h
  exact ⟨v, List.mem_range.1 hv, e⟩
theorem PWeak.refl : ∀ a : List PV, PWeak a a
  | [] => trivial
  | _ :: a => ⟨.inr rfl, PWeak.refl a⟩
theorem pfrz1_under {n : Nat} {M : Mem} {v : PV} (h : v.under n = true) : pfrz1 n M v = some v := by
  cases v <;> simp_all [pfrz1, PV.under]
theorem pfrzL_under {n : Nat} {M : Mem} : ∀ {l : List PV}, underL n l = true → pfrzL n M l = some l
  | [], _ => rfl
  | v :: l, h => by
    have h2 := (underL_iff n (v :: l)).1 h
    rw [pfrzL_cons', pfrz1_under (h2 v (by simp)), pfrzL_under ((underL_iff n l).2 fun x hx => h2 x (by simp [hx]))]
    rfl
def cutOk (n : Nat) : PObj → Bool
  | .cells _ _ cs => underL n cs
  | .gone => true
  | _ => false
theorem pfrzO_ok {n : Nat} {M : Mem} {o : PObj} (h : cutOk n o = true) : pfrzO n M o = some o := by
  cases o with
  | cells g ver cs => simp only [cutOk] at h; simp only [pfrzO, pfrzL_under h, Option.map_some]
  | gone => rfl
  | _ => simp [cutOk] at h
theorem pfrzM_cons {n : Nat} {M l xs : Mem} {o x : PObj} (h1 : pfrzO n M o = some x) (h2 : pfrzM n M l = some xs) : pfrzM n M (o :: l) = some (x :: xs) := by
  simp only [pfrzM, h1, h2]
theorem pfrzM_ok {n : Nat} {M : Mem} : ∀ {l r xs : Mem}, l.all (cutOk n) = true → pfrzM n M r = some xs → pfrzM n M (l ++ r) = some (l ++ xs)
  | [], r, xs, _, h => h
  | o :: l, r, xs, ho, h => by
    simp only [List.all_cons, Bool.and_eq_true] at ho
    exact pfrzM_cons (pfrzO_ok ho.1) (pfrzM_ok ho.2 h)
end Go.Am
set_option linter.unusedVariables false
set_option linter.unusedSimpArgs false
namespace Go.Am
section
variable {tab : FuncId → Option AF}
theorem SemC_res {g : FuncId} {args : List PV} {M : Mem} {K : PV → Mem → Prop} (h : SemC tab g args M fun r M' => ∃ r' N, pfrz M.length M' r = some r' ∧ pfrzM M.length M' (M'.take M.length) = some N ∧ K r' N) : SemC tab g args M K :=
  fun w hh args' h0 s ha => C_mono (h w hh args' h0 s ha) fun v h' ⟨w1, r, M1, p1, p2, p3, r', N, q1, q2, q3⟩ => by
    have hid : w1.id0 ≤ M.length := by rw [p1.le.id0]; exact h0
    obtain ⟨z1, z2⟩ := p2.cutF (m := M.length) hid p1.len q2
    exact ⟨w1.cut h' M.length M1, r', N, p1.trans (z2 M.length (Nat.le_refl _)) (Nat.le_refl _), z1, frz_rep p2 hid p3 q1, q3⟩
theorem pfrzM_all {n : Nat} {M l : Mem} (h : l.all (cutOk n) = true) : pfrzM n M l = some l := by
  have := pfrzM_ok (M := M) (r := []) (xs := []) h rfl
  simpa using this
end
end Go.Am
set_option linter.unusedVariables false
set_option linter.unusedSimpArgs false
namespace Go.Am
section
variable {tab : FuncId → Option AF}
end
end Go.Am
set_option linter.unusedVariables false
set_option linter.unusedSimpArgs false
namespace Go.Am
section
variable {tab : FuncId → Option AF}
open Classical in
theorem cut_ptr {w : PWd} {h : H} {M : Mem} (s : PSt w h M) {id g ver : Nat} {cs : List PV} (hm : M[id]? = some (.cells g ver cs)) (hu : underL 0 cs = true) {v : AV} (hv : RepV w (.ptr id g 0) v) : RepV (w.cut h 0 M) (.cp cs 0) v := by
  obtain ⟨e, h1, h2, h3⟩ := s.cellsAt hm
  cases hv with
  | @ptr _ _ _ e' b q1 q2 q3 =>
    rw [h1] at q1; cases q1
    rcases h3 with ⟨h3, _⟩ | ⟨b2, bcs, h3, h4, h5, h6⟩
    · rw [q3] at h3; cases h3
    · rw [q3] at h3; cases h3
      have hi : (w.cut h 0 M).imm b = some (.cells (e.v0 + ver) true bcs) := by
        show (if _ then _ else _) = _
        rw [if_pos ⟨id, Nat.zero_le _, h6⟩]; exact h4
      have hr : RepL (w.cut h 0 M) cs bcs := RepL.low (w := w) (w' := w.cut h 0 M) (m := 0) rfl (cut_imm s 0) (fun id hi => by omega) h5 hu
      have := RepV.cp (o := 0) (off := 0) hi (by rw [hr.len]; omega) (fun i y z hy hz => hr.get i y z hy (by simpa using hz))
      simpa using this
  | @ptrS _ _ _ e' _ q0 q1 q2 => rw [h1] at q1; cases q1; omega
theorem SemC_ptr {g : FuncId} {args : List PV} {M : Mem} {K : PV → Mem → Prop} (hb : underL 0 args = true) (hc : SemC tab g args [] fun r M' => ∃ id g ver cs, r = .ptr id g 0 ∧ M'[id]? = some (.cells g ver cs) ∧ underL 0 cs = true ∧ K (.cp cs 0) M) : SemC tab g args M K := by
  intro w h args' h0 s ha
  let w0 : PWd := { w with env := fun _ => none, id0 := 0 }
  have s0 : PSt w0 h [] := ⟨s.imm, (fun id e he => by cases he), (fun id e b he => by cases he), (fun id o ho => by simp at ho), (fun i j x ⟨_, _, h1, _⟩ => by simp at h1), (fun i x ⟨_, _, h1, _⟩ => by simp at h1), s.base⟩
  have a0 : RepL w0 args args' := ha.low (w := w) (w' := w0) rfl (fun _ _ h => h) (fun id hi => by omega) hb
  refine C_mono (hc w0 h args' (Nat.le_refl _) s0 a0) ?_
  rintro v h' ⟨w1, r, M1, p1, p2, p3, id, g, ver, cs, rfl, p4, p5, p6⟩
  have q1 := cut_ptr p2 p4 p5 p3
  obtain ⟨z1, z2⟩ := p2.cut (m := 0) (Nat.zero_le _) (by simp)
  have p1 := z2 w0 h [] p1
  have hle : w1.n0 = w.n0 := p1.le.n0
  have hnl : ∀ x id, ¬ LiveAt w0 [] id x := fun x id ⟨_, _, h1, _⟩ => by simp at h1
  have hkeep : ∀ x, x < h.next → h'.get x = h.get x := fun x hx => p1.keep x hx (hnl x)
  let w2 : PWd := { n0 := w.n0, id0 := w.id0, env := w.env, imm := (w1.cut h' 0 M1).imm }
  have hl : Le M.length w w2 := ⟨rfl, rfl, fun b o hbo => p1.le.imm b o hbo, fun id hi e he => ⟨e, he, .inr rfl⟩⟩
  have hr : RepV w2 (.cp cs 0) v := by
    exact q1.low (w := w1.cut h' 0 M1) (w' := w2) (m := 0) hle.symm (fun _ _ h => h) (fun id hi => by omega) (by simp only [PV.under]; exact p5)
  refine ⟨w2, _, M, ⟨Nat.le_refl _, hl, p1.next, fun x hx _ => hkeep x hx, fun id x hlv _ => hlv, ?_⟩, ⟨fun b o hbo => z1.imm b o hbo, s.env, ?_, ?_, s.inj, ?_, Nat.le_trans s.base p1.next⟩, hr, p6⟩
  · intro x hx
    rcases p1.new x hx with e | e | ⟨id, _, e⟩
    · exact .inl e
    · exact .inr (.inl e)
    · exact absurd e (hnl x id)
  · intro id e b he hbl; exact Nat.lt_of_lt_of_le (s.blk id e b he hbl) p1.next
  · intro id o ho
    exact RepO.mono s hl (s.obj id o ho) (fun e he => he) (fun e b he hbl => hkeep b (s.blk id e b he hbl))
  · intro i x hlv
    have hlv : LiveAt w M i x := hlv
    refine ⟨?_, (s.sep i x hlv).2⟩
    show (w1.cut h' 0 M1).imm x = none
    cases hc : (w1.cut h' 0 M1).imm x with
    | none => rfl
    | some o =>
      rcases p1.new x (by rw [hc]; simp) with e | e | ⟨id, _, e⟩
      · exact absurd (s.sep i x hlv).1 e
      · have := hlv.next s; omega
      · exact absurd e (hnl x id)
end
end Go.Am

