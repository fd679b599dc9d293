/- The pure machine: all objects from some number on are frozen at once, wherever they are named, and what goes with it. -/
import Derived.Test.YtgapkfaikhlipaaPmR
set_option linter.unusedVariables false
set_option linter.unusedSimpArgs false
namespace Go.Am
def underE (n : Nat) (es : List (PV × PV)) : Bool := es.all fun p => p.1.under n && p.2.under n
theorem RepE.low {w w' : PWd} {m : Nat} (h0 : w'.n0 = w.n0) (hi : ∀ b o, w.imm b = some o → w'.imm b = some o) (he : ∀ id, id < m → w'.env id = w.env id) {l : List (PV × PV)} {l' : List (AV × AV)} (h : RepE w l l') (hb : underE m l = true) : RepE w' l l' :=
  ⟨h.len, fun i y z p q => by
    have hy := (List.all_eq_true.1 hb) y (List.mem_of_getElem? p)
    rw [Bool.and_eq_true] at hy
    obtain ⟨a, b⟩ := h.get i y z p q
    exact ⟨a.low h0 hi he hy.1, b.low h0 hi he hy.2⟩⟩
section
variable {tab : FuncId → Option AF}
end
end Go.Am
set_option linter.unusedVariables false
set_option linter.unusedSimpArgs false
namespace Go.Am
section
variable {tab : FuncId → Option AF}
end
end Go.Am
set_option linter.unusedVariables false
set_option linter.unusedSimpArgs false
namespace Go.Am
def psetAll (a : List PV) : List Nat → List PV → List PV
  | t :: ts, v :: vs => psetAll (ptset a t v) ts vs
  | _, _ => a
theorem RepL.setAll {w : PWd} : ∀ (ts : List Nat) {a : List PV} {a' : List AV} {vs : List PV} {vs' : List AV}, RepL w a a' → RepL w vs vs' → RepL w (psetAll a ts vs) (_root_.Go.Am.setAll a' ts vs')
  | [], a, a', vs, vs', h, hv => by simpa [psetAll, _root_.Go.Am.setAll] using h
  | t :: ts, a, a', [], [], h, hv => by simpa [psetAll, _root_.Go.Am.setAll] using h
  | t :: ts, a, a', [], _ :: _, h, hv => by have := hv.len; simp at this
  | t :: ts, a, a', _ :: _, [], h, hv => by have := hv.len; simp at this
  | t :: ts, a, a', v :: vs, x :: xs, h, hv => RepL.setAll ts (h.tset t hv.hd) hv.tl
section
variable {tab : FuncId → Option AF}
end
end Go.Am
namespace Go.Am
section
variable {tab : FuncId → Option AF} {m : Nat} {a : List PV} {M : Mem} {Qn Qr : List PV → Mem → Prop} {Qe : Nat → List PV → Mem → Prop}
end
end Go.Am
namespace Go.Am
theorem PWeak.refl : ∀ a : List PV, PWeak a a
  | [] => trivial
  | _ :: a => ⟨.inr rfl, PWeak.refl a⟩
end Go.Am
set_option linter.unusedVariables false
set_option linter.unusedSimpArgs false
namespace Go.Am
section
variable {tab : FuncId → Option AF}
end
end Go.Am
set_option linter.unusedVariables false
set_option linter.unusedSimpArgs false
namespace Go.Am
section
variable {tab : FuncId → Option AF}
end
end Go.Am
set_option linter.unusedVariables false
set_option linter.unusedSimpArgs false
namespace Go.Am
inductive PImg (M : Mem) : List PV → List PV → Prop
  | nil : PImg M [] []
  | same {v : PV} {a b : List PV} : v.under 0 = true → PImg M a b → PImg M (v :: a) (v :: b)
  | ref {id g ver sz off n : Nat} {cs cs2 : List PV} {a b : List PV} : M[id]? = some (.cells g ver cs) → off + n * sz ≤ cs.length → PImg M (psub cs off (n * sz)) cs2 → PImg M a b →
      PImg M (.ref id g sz off n :: a) (.sl true false sz n cs2 :: b)
  | ptr {id g ver : Nat} {cs cs2 : List PV} {a b : List PV} : M[id]? = some (.cells g ver cs) → PImg M cs cs2 → PImg M a b → PImg M (.ptr id g 0 :: a) (.cp cs2 0 :: b)
  | func {fn : _root_.Go.Fn} {f f2 c c2 a b : List PV} : (∀ l, fn ≠ .yield l) → PImg M f f2 → PImg M c c2 → PImg M a b → PImg M (.func fn f c :: a) (.func fn f2 c2 :: b)
  | agg {cs cs2 a b : List PV} : PImg M cs cs2 → PImg M a b → PImg M (.agg cs :: a) (.agg cs2 :: b)
  | tuple {cs cs2 a b : List PV} : PImg M cs cs2 → PImg M a b → PImg M (.tuple cs :: a) (.tuple cs2 :: b)
theorem PImg.len {M : Mem} {a b : List PV} (h : PImg M a b) : a.length = b.length := by
  induction h with
  | nil => rfl
  | same _ _ ih => simp [ih]
  | ref _ _ _ _ _ ih => simp [ih]
  | ptr _ _ _ _ ih => simp [ih]
  | func _ _ _ _ _ _ ih => simp [ih]
  | agg _ _ _ ih => simp [ih]
  | tuple _ _ _ ih => simp [ih]
theorem PImg.sames {M : Mem} : ∀ {a : List PV}, underL 0 a = true → PImg M a a
  | [], _ => .nil
  | v :: a, h => by
    have h : (v.under 0 && underL 0 a) = true := by simpa [underL] using h
    rw [Bool.and_eq_true] at h
    exact .same h.1 (PImg.sames h.2)
theorem img_rep {w w0 : PWd} {h : H} {M : Mem} (s : PSt w h M) (hn : w0.n0 = w.n0) (him : ∀ b o, w.imm b = some o → w0.imm b = some o) (hlv : ∀ id b, LiveAt w M id b → w0.imm b = h.get b) {a b : List PV} (hb : PImg M a b) {a' : List AV} (ha : RepL w a a') : RepL w0 b a' := by
  induction hb generalizing a' with
  | nil => exact ⟨ha.len, fun i y z hy => by simp at hy⟩
  | @same v a b hv _ ih =>
    match a', ha with
    | x :: l, ha => exact .cons (ha.hd.low (w := w) (w' := w0) (m := 0) hn him (fun id hi => by omega) hv) (ih ha.tl)
    | [], ha => exact absurd ha.len (by simp)
  | @ref id g ver sz off n cs cs2 a b hm hl hb1 _ ih1 ih =>
    match a', ha with
    | x :: l, ha =>
      refine .cons ?_ (ih ha.tl)
      obtain ⟨e, p1, p2, p3⟩ := s.refAt hm ha.hd
      have hl2 : cs2.length = n * sz := by rw [← hb1.len]; simp [psub]; omega
      rcases p3 with ⟨rfl, rfl, rfl, _, rfl⟩ | ⟨fl, b, bcs, rfl, p4, p5, p6, p7⟩
      · have : cs2 = [] := List.length_eq_zero_iff.1 (by rw [hl2]; simp)
        subst this
        exact RepV.slN
      · have hg : w0.imm b = h.get b := hlv id b p7
        have hs := ih1 (rep_sub p6 off (n * sz))
        refine .sl (hg.trans p5) (by rw [hl2, ← p6.len]; exact hl) hl2 (fun _ q => by cases q) (fun q => by cases q) (fun _ q => by cases q) (fun i y z hy hz => hs.get i y z hy ?_)
        rw [List.getElem?_take, if_pos (by have := getSome_lt hy; omega), List.getElem?_drop]; exact hz
    | [], ha => exact absurd ha.len (by simp)
  | @ptr id g ver cs cs2 a b hm hb1 _ ih1 ih =>
    match a', ha with
    | x :: l, ha =>
      refine .cons ?_ (ih ha.tl)
      obtain ⟨e, h1, h2, h3⟩ := s.cellsAt hm
      have hv := ha.hd
      cases hv with
      | @ptr _ _ _ e' b q1 q2 q3 =>
        rw [h1] at q1; cases q1
        rcases h3 with ⟨h3, _⟩ | ⟨b2, bcs, h3, h4, h5, h6⟩
        · rw [q3] at h3; cases h3
        · rw [q3] at h3; cases h3
          have hi : w0.imm b = some (.cells (e.v0 + ver) true bcs) := (hlv id b h6).trans h4
          have hr := ih1 h5
          have := RepV.cp (o := 0) (off := 0) hi (by rw [hr.len]; omega) (fun i y z hy hz => hr.get i y z hy (by simpa using hz))
          simpa using this
      | @ptrS _ _ _ e' _ q0 q1 q2 => rw [h1] at q1; cases q1; omega
    | [], ha => exact absurd ha.len (by simp)
  | @func fn f f2 c c2 a b hf _ _ _ ih1 ih2 ih =>
    match a', ha with
    | x :: l, ha =>
      refine .cons ?_ (ih ha.tl)
      cases ha.hd with
      | func h0 h1 h2 h3 h4 =>
        have r1 := ih1 ⟨h1, h3⟩
        have r2 := ih2 ⟨h2, h4⟩
        exact .func h0 r1.len r2.len r1.get r2.get
    | [], ha => exact absurd ha.len (by simp)
  | @agg cs cs2 a b _ _ ih1 ih =>
    match a', ha with
    | x :: l, ha =>
      refine .cons ?_ (ih ha.tl)
      cases ha.hd with
      | agg h1 h2 => exact .agg (ih1 ⟨h1, h2⟩).len (ih1 ⟨h1, h2⟩).get
    | [], ha => exact absurd ha.len (by simp)
  | @tuple cs cs2 a b _ _ ih1 ih =>
    match a', ha with
    | x :: l, ha =>
      refine .cons ?_ (ih ha.tl)
      cases ha.hd with
      | tuple h1 h2 => exact .tuple (ih1 ⟨h1, h2⟩).len (ih1 ⟨h1, h2⟩).get
    | [], ha => exact absurd ha.len (by simp)
section
variable {tab : FuncId → Option AF}
open Classical in
theorem SemC_imgR {g : FuncId} {args : List PV} {M : Mem} {K : PV → Mem → Prop} (hb : underL 0 args = true) (hc : SemC tab g args [] fun r M' => ∃ r2, PImg M' [r] [r2] ∧ r2.under 0 = true ∧ K r2 M) : SemC tab g args M K := by
  intro w h args' h0 s ha
  let w0 : PWd := { w with env := fun _ => none, id0 := 0 }
  have s0 : PSt w0 h [] := ⟨s.imm, (fun id e he => by cases he), (fun id e b he => by cases he), (fun id o ho => by simp at ho), (fun i j x ⟨_, _, h1, _⟩ => by simp at h1), (fun i x ⟨_, _, h1, _⟩ => by simp at h1), s.base⟩
  have a0 : RepL w0 args args' := ha.low (w := w) (w' := w0) rfl (fun _ _ h => h) (fun id hi => by omega) hb
  refine C_mono (hc w0 h args' (Nat.le_refl _) s0 a0) ?_
  rintro v h' ⟨w1, r, M1, p1, p2, p3, r2, p4, p5, p6⟩
  have q0 : RepL (w1.cut h' 0 M1) [r2] [v] := img_rep (w0 := w1.cut h' 0 M1) p2 rfl (cut_imm p2 0) (fun id b hl => by show (if _ then _ else _) = _; rw [if_pos ⟨id, Nat.zero_le _, hl⟩]) p4 (.cons p3 (.nil _))
  have q1 := q0.hd
  obtain ⟨z1, z2⟩ := p2.cut (m := 0) (Nat.zero_le _) (by simp)
  have p1 := z2 w0 h [] p1
  have hle : w1.n0 = w.n0 := p1.le.n0
  have hnl : ∀ x id, ¬ LiveAt w0 [] id x := fun x id ⟨_, _, h1, _⟩ => by simp at h1
  have hkeep : ∀ x, x < h.next → h'.get x = h.get x := fun x hx => p1.keep x hx (hnl x)
  let w2 : PWd := { n0 := w.n0, id0 := w.id0, env := w.env, imm := (w1.cut h' 0 M1).imm }
  have hl : Le M.length w w2 := ⟨rfl, rfl, fun b o hbo => p1.le.imm b o hbo, fun id hi e he => ⟨e, he, .inr rfl⟩⟩
  have hr : RepV w2 r2 v := q1.low (w := w1.cut h' 0 M1) (w' := w2) (m := 0) hle.symm (fun _ _ h => h) (fun id hi => by omega) p5
  refine ⟨w2, _, M, ⟨Nat.le_refl _, hl, p1.next, fun x hx _ => hkeep x hx, fun id x hlv _ => hlv, ?_⟩, ⟨fun b o hbo => z1.imm b o hbo, s.env, ?_, ?_, s.inj, ?_, Nat.le_trans s.base p1.next⟩, hr, p6⟩
  · intro x hx
    rcases p1.new x hx with e | e | ⟨id, _, e⟩
    · exact .inl e
    · exact .inr (.inl e)
    · exact absurd e (hnl x id)
  · intro id e b he hbl; exact Nat.lt_of_lt_of_le (s.blk id e b he hbl) p1.next
  · intro id o ho
    exact RepO.mono s hl (s.obj id o ho) (fun e he => he) (fun e b he hbl => hkeep b (s.blk id e b he hbl))
  · intro i x hlv
    have hlv : LiveAt w M i x := hlv
    refine ⟨?_, (s.sep i x hlv).2⟩
    show (w1.cut h' 0 M1).imm x = none
    cases hc : (w1.cut h' 0 M1).imm x with
    | none => rfl
    | some o =>
      rcases p1.new x (by rw [hc]; simp) with e | e | ⟨id, _, e⟩
      · exact absurd (s.sep i x hlv).1 e
      · have := hlv.next s; omega
      · exact absurd e (hnl x id)
end
end Go.Am

