/- The pure machine: all objects from some number on are frozen at once, wherever they are named, and what goes with it. -/
import Derived.Test.YtbcdfmecpjbeaaaDoorPmR
set_option linter.unusedVariables false
set_option linter.unusedSimpArgs false
namespace Go.Am
def underE (n : Nat) (es : List (PV × PV)) : Bool := es.all fun p => p.1.under n && p.2.under n
theorem RepE.low {w w' : PWd} {m : Nat} (h0 : w'.n0 = w.n0) (hi : ∀ b o, w.imm b = some o → w'.imm b = some o) (he : ∀ id, id < m → w'.env id = w.env id) {l : List (PV × PV)} {l' : List (AV × AV)} (h : RepE w l l') (hb : underE m l = true) : RepE w' l l' :=
  ⟨h.len, fun i y z p q => by
    have hy := (List.all_eq_true.1 hb) y (List.mem_of_getElem? p)
    rw [Bool.and_eq_true] at hy
    obtain ⟨a, b⟩ := h.get i y z p q
    exact ⟨a.low h0 hi he hy.1, b.low h0 hi he hy.2⟩⟩
section
variable {tab : FuncId → Option AF}
end
end Go.Am
set_option linter.unusedVariables false
set_option linter.unusedSimpArgs false
namespace Go.Am
section
variable {tab : FuncId → Option AF}
end
end Go.Am
set_option linter.unusedVariables false
set_option linter.unusedSimpArgs false
namespace Go.Am
def psetAll (a : List PV) : List Nat → List PV → List PV
  | t :: ts, v :: vs => psetAll (ptset a t v) ts vs
  | _, _ => a
theorem RepL.setAll {w : PWd} : ∀ (ts : List Nat) {a : List PV} {a' : List AV} {vs : List PV} {vs' : List AV}, RepL w a a' → RepL w vs vs' → RepL w (psetAll a ts vs) (_root_.Go.Am.setAll a' ts vs')
  | [], a, a', vs, vs', h, hv => by simpa [psetAll, _root_.Go.Am.setAll] using h
  | t :: ts, a, a', [], [], h, hv => by simpa [psetAll, _root_.Go.Am.setAll] using h
  | t :: ts, a, a', [], _ :: _, h, hv => by have := hv.len; simp at this
  | t :: ts, a, a', _ :: _, [], h, hv => by have := hv.len; simp at this
  | t :: ts, a, a', v :: vs, x :: xs, h, hv => RepL.setAll ts (h.tset t hv.hd) hv.tl
section
variable {tab : FuncId → Option AF}
end
end Go.Am
namespace Go.Am
section
variable {tab : FuncId → Option AF} {m : Nat} {a : List PV} {M : Mem} {Qn Qr : List PV → Mem → Prop} {Qe : Nat → List PV → Mem → Prop}
theorem SemW_seq {x y : AC} (h : SemW tab m x a M (fun b N => SemW tab m y b N Qn Qr Qe) Qr Qe) : SemW tab m (.seq x y) a M Qn Qr Qe := by
  intro w hh a' h0 hm s ha
  rw [W_seq]
  refine W_mono (h w hh a' h0 hm s ha) (fun a1 h1 hl => ?_) (fun _ _ h => h) (fun _ _ _ h => h)
  obtain ⟨w1, b, N, t1, s1, r1, q⟩ := hl
  rw [KSeq_eq]
  exact W_mono (q w1 h1 a1 (by rw [t1.le.id0]; exact h0) t1.len s1 r1) (fun _ _ h => h.trans t1) (fun _ _ h => h.trans t1) (fun _ _ _ h => h.trans t1)
theorem SemW_of {c : AC} (h : RX tab m c a M Qn Qr Qe) : SemW tab m c a M Qn Qr Qe := RX_sound m c h
theorem SemW_mono {c : AC} {Qn' Qr' : List PV → Mem → Prop} {Qe' : Nat → List PV → Mem → Prop} (h : SemW tab m c a M Qn Qr Qe) (h1 : ∀ b N, Qn b N → Qn' b N) (h2 : ∀ b N, Qr b N → Qr' b N) (h3 : ∀ i b N, Qe i b N → Qe' i b N) : SemW tab m c a M Qn' Qr' Qe' := by
  intro w hh a' h0 hm s ha
  refine W_mono (h w hh a' h0 hm s ha) ?_ ?_ ?_
  · rintro a1 hh1 ⟨w1, b, N, t1, s1, r1, q⟩; exact ⟨w1, b, N, t1, s1, r1, h1 _ _ q⟩
  · rintro a1 hh1 ⟨w1, b, N, t1, s1, r1, q⟩; exact ⟨w1, b, N, t1, s1, r1, h2 _ _ q⟩
  · rintro i a1 hh1 ⟨w1, b, N, t1, s1, r1, q⟩; exact ⟨w1, b, N, t1, s1, r1, h3 _ _ _ q⟩
end
end Go.Am
namespace Go.Am
theorem PWeak.refl : ∀ a : List PV, PWeak a a
  | [] => trivial
  | _ :: a => ⟨.inr rfl, PWeak.refl a⟩
end Go.Am
set_option linter.unusedVariables false
set_option linter.unusedSimpArgs false
namespace Go.Am
section
variable {tab : FuncId → Option AF}
end
end Go.Am
set_option linter.unusedVariables false
set_option linter.unusedSimpArgs false
namespace Go.Am
theorem PFrz.len {id g : Nat} {cs : List PV} : ∀ {a b : List PV}, PFrz id g cs a b → b.length = a.length
  | [], [], _ => rfl
  | _ :: a, _ :: b, h => by simp [PFrz.len h.2]
  | [], _ :: _, h => h.elim
  | _ :: _, [], h => h.elim
end Go.Am
set_option linter.unusedVariables false
set_option linter.unusedSimpArgs false
namespace Go.Am
section
variable {tab : FuncId → Option AF}
theorem SemC_pureS {g : FuncId} {F : AFn} (hg : tab g = some (.fn F)) {args : List PV} {M : Mem} {K : PV → Mem → Prop} (hb : underL 0 args = true)
    (hp : SemW tab 0 F.body (ppad args F.ntmps) [] (PKPure F.results fun r => K r M) (PKPure F.results fun r => K r M) PKNo) : SemC tab g args M K := by
  refine SemC_frame hb (SemC_sem hg (SemW_mono hp (fun b N q => ?_) (fun b N q => ?_) fun i b N q => ?_))
  · unfold PKPure at q; exact q
  · unfold PKPure at q; exact q
  · unfold PKNo at q; exact q
end
end Go.Am
set_option linter.unusedVariables false
set_option linter.unusedSimpArgs false
namespace Go.Am
section
variable (tab : FuncId → Option AF) (a : List PV) (M : Mem) (K : PV → Mem → List Nat → List Nat → Prop)
end
end Go.Am
set_option linter.unusedVariables false
set_option linter.unusedSimpArgs false
namespace Go.Am
def PFrzP (id g : Nat) (cs : List PV) : List PV → List PV → Prop
  | [], [] => True
  | x :: a, y :: b => (y = .junk ∨ x = y ∨ ∃ o, x = .ptr id g o ∧ y = .cp cs o) ∧ PFrzP id g cs a b
  | _, _ => False
theorem PFrzP_nil (id g : Nat) (cs : List PV) : PFrzP id g cs [] [] = True := (rfl)
theorem PFrzP_junk (id g : Nat) (cs : List PV) (x : PV) (a b : List PV) : PFrzP id g cs (x :: a) (.junk :: b) = PFrzP id g cs a b := by simp [PFrzP]
theorem PFrzP_same (id g : Nat) (cs : List PV) (x : PV) (a b : List PV) : PFrzP id g cs (x :: a) (x :: b) = PFrzP id g cs a b := by simp [PFrzP]
theorem PFrzP_ptr (id g o : Nat) (cs : List PV) (a b : List PV) : PFrzP id g cs (.ptr id g o :: a) (.cp cs o :: b) = PFrzP id g cs a b := by
  simp [PFrzP]
theorem PSt.freezeP {w : PWd} {h : H} {M : Mem} (s : PSt w h M) {id g ver : Nat} {cs : List PV} (hm : M[id]? = some (.cells g ver cs)) (h0 : w.id0 ≤ id) :
    ∃ w', PSt w' h (M.set id .gone) ∧ (∀ m, m ≤ id → PStp m w h M w' h (M.set id .gone)) ∧ Le M.length w w' ∧ ∀ o x, RepV w (.ptr id g o) x → RepV w' (.cp cs o) x := by
  obtain ⟨e, h1, h2, h3⟩ := s.cellsAt hm
  have hid := getSome_lt hm
  rcases h3 with ⟨hb, rfl⟩ | ⟨b, bcs, hb, hg, hr, hlv⟩
  · have live : ∀ i x, LiveAt w (M.set id .gone) i x → LiveAt w M i x := by
      rintro i x ⟨ob, e', p1, p2, p3, p4⟩
      by_cases hi : id = i
      · subst hi; rw [List.getElem?_set_self hid] at p1; cases p1; exact absurd rfl p2
      · rw [List.getElem?_set_ne hi] at p1; exact ⟨ob, e', p1, p2, p3, p4⟩
    refine ⟨w, ⟨s.imm, fun i e' he => by simpa using s.env i e' he, s.blk, ?_, fun i j x q1 q2 => s.inj i j x (live i x q1) (live j x q2), fun i x q1 => s.sep i x (live i x q1), s.base⟩, fun m hmm => ⟨by simp; omega, Le.refl _ _, Nat.le_refl _, fun _ _ _ => rfl, fun i x q1 _ => live i x q1, fun x hx => .inl hx⟩, Le.refl _ _, ?_⟩
    · intro i ob hi
      by_cases hid2 : id = i
      · subst hid2; rw [List.getElem?_set_self hid] at hi; cases hi; trivial
      · rw [List.getElem?_set_ne hid2] at hi; exact s.obj i ob hi
    · intro o x hx
      cases hx with
      | ptr q1 q2 q3 => rw [h1] at q1; cases q1; rw [hb] at q3; cases q3
      | ptrS x q0 q1 q2 => rw [h1] at q1; cases q1; omega
  · let w' := w.withImm b (.cells (e.v0 + ver) true bcs)
    have hsep := s.sep id b hlv
    have hl : Le M.length w w' := le_withImm hsep.1
    have him : ∀ x, x ≠ b → w'.imm x = w.imm x := fun x hx => by show (if _ = _ then _ else _) = _; rw [if_neg hx]
    have hnew : w'.imm b = some (.cells (e.v0 + ver) true bcs) := by show (if _ = _ then _ else _) = _; rw [if_pos rfl]
    have live : ∀ i x, LiveAt w' (M.set id .gone) i x → i ≠ id ∧ LiveAt w M i x := by
      rintro i x ⟨ob, e', p1, p2, p3, p4⟩
      by_cases hi : id = i
      · subst hi; rw [List.getElem?_set_self hid] at p1; cases p1; exact absurd rfl p2
      · rw [List.getElem?_set_ne hi] at p1; exact ⟨fun q => hi q.symm, ob, e', p1, p2, p3, p4⟩
    refine ⟨w', ⟨?_, fun i e' he => by simpa using s.env i e' he, s.blk, ?_, fun i j x q1 q2 => s.inj i j x (live i x q1).2 (live j x q2).2, ?_, s.base⟩, fun m hmm => ⟨by simp; omega, ⟨hl.n0, hl.id0, hl.imm, fun i hi => hl.env i (by omega)⟩, Nat.le_refl _, fun _ _ _ => rfl, fun i x q1 _ => (live i x q1).2, ?_⟩, hl, ?_⟩
    · intro x o hx
      by_cases e1 : x = b
      · subst e1; rw [hnew] at hx; cases hx; exact hg
      · rw [him x e1] at hx; exact s.imm x o hx
    · intro i ob hi
      by_cases hid2 : id = i
      · subst hid2; rw [List.getElem?_set_self hid] at hi; cases hi; trivial
      · rw [List.getElem?_set_ne hid2] at hi
        exact RepO.mono s hl (s.obj i ob hi) (fun e' he => he) (fun _ _ _ _ => rfl)
    · intro i x q1
      obtain ⟨hne, q2⟩ := live i x q1
      have : x ≠ b := by rintro rfl; exact hne (s.inj i id x q2 hlv)
      exact ⟨by rw [him x this]; exact (s.sep i x q2).1, (s.sep i x q2).2⟩
    · intro x hx
      by_cases e1 : x = b
      · subst e1; exact .inr (.inr ⟨id, hmm, hlv⟩)
      · rw [him x e1] at hx; exact .inl hx
    · intro o x hx
      cases hx with
      | ptr q1 q2 q3 =>
        rw [h1] at q1; cases q1
        rw [hb] at q3; cases q3
        have hs := hr.mono hl s.env
        have := RepV.cp (o := o) (off := 0) hnew (by rw [hr.len]; omega) (fun i y z hy hz => hs.get i y z hy (by simpa using hz))
        simpa using this
      | ptrS x q0 q1 q2 => rw [h1] at q1; cases q1; omega
theorem PFrzP.rep {w w' : PWd} {M : Mem} {id g : Nat} {cs : List PV} (hl : Le M.length w w') (hd : ∀ i e, w.env i = some e → i < M.length) (hf : ∀ o x, RepV w (.ptr id g o) x → RepV w' (.cp cs o) x) :
    ∀ {a b : List PV} {a' : List AV}, PFrzP id g cs a b → RepL w a a' → RepL w' b a'
  | [], [], a', _, h => ⟨h.len, fun i y z q => by simp at q⟩
  | x :: a, y :: b, [], _, h => by have := h.len; simp at this
  | x :: a, y :: b, v :: a', ⟨h1, h2⟩, h => by
    refine .cons ?_ (PFrzP.rep hl hd hf h2 h.tl)
    rcases h1 with rfl | rfl | ⟨o, rfl, rfl⟩
    · exact .junk _
    · exact h.hd.mono hl hd
    · exact hf o v h.hd
  | [], _ :: _, a', hw, h => hw.elim
  | _ :: _, [], a', hw, h => hw.elim
theorem GStep.freezeP {m : Nat} {a b : List PV} {M N : Mem} (id : Nat) {g ver : Nat} {cs : List PV} (hid : m ≤ id) (hM : M[id]? = some (.cells g ver cs)) (hf : PFrzP id g cs a b) (hN : M.set id .gone = N) : GStep m a M b N := by
  subst hN
  refine ⟨fun hm => by simpa using hm, fun w hh a' h0 hm s ha => ?_⟩
  obtain ⟨w', s1, s2, hl, hr⟩ := s.freezeP hM (Nat.le_trans h0 hid)
  exact ⟨w', s2 m hid, s1, hf.rep hl s.env hr ha⟩
end Go.Am
set_option linter.unusedVariables false
set_option linter.unusedSimpArgs false
namespace Go.Am
section
variable (tab : FuncId → Option AF) (a : List PV) (M : Mem) (K : PV → Mem → List Nat → List Nat → Prop)
end
end Go.Am
set_option linter.unusedVariables false
set_option linter.unusedSimpArgs false
namespace Go.Am
section
variable (tab : FuncId → Option AF) (a : List PV) (M : Mem) (K : PV → Mem → List Nat → List Nat → Prop)
end
end Go.Am

