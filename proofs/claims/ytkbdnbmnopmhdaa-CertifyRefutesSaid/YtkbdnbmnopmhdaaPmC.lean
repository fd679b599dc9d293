/- The pure machine: all objects from some number on are frozen at once, wherever they are named, and what goes with it. -/
import Derived.Test.YtkbdnbmnopmhdaaPmR
set_option linter.unusedVariables false
set_option linter.unusedSimpArgs false
namespace Go.Am
section
variable {tab : FuncId → Option AF}
end
end Go.Am
set_option linter.unusedVariables false
set_option linter.unusedSimpArgs false
namespace Go.Am
section
variable {tab : FuncId → Option AF}
end
end Go.Am
set_option linter.unusedVariables false
set_option linter.unusedSimpArgs false
namespace Go.Am
def psetAll (a : List PV) : List Nat → List PV → List PV
  | t :: ts, v :: vs => psetAll (ptset a t v) ts vs
  | _, _ => a
theorem RepL.setAll {w : PWd} : ∀ (ts : List Nat) {a : List PV} {a' : List AV} {vs : List PV} {vs' : List AV}, RepL w a a' → RepL w vs vs' → RepL w (psetAll a ts vs) (_root_.Go.Am.setAll a' ts vs')
  | [], a, a', vs, vs', h, hv => by simpa [psetAll, _root_.Go.Am.setAll] using h
  | t :: ts, a, a', [], [], h, hv => by simpa [psetAll, _root_.Go.Am.setAll] using h
  | t :: ts, a, a', [], _ :: _, h, hv => by have := hv.len; simp at this
  | t :: ts, a, a', _ :: _, [], h, hv => by have := hv.len; simp at this
  | t :: ts, a, a', v :: vs, x :: xs, h, hv => RepL.setAll ts (h.tset t hv.hd) hv.tl
section
variable {tab : FuncId → Option AF}
end
end Go.Am
namespace Go.Am
section
variable {tab : FuncId → Option AF} {m : Nat} {a : List PV} {M : Mem} {Qn Qr : List PV → Mem → Prop} {Qe : Nat → List PV → Mem → Prop}
theorem SemW_seq {x y : AC} (h : SemW tab m x a M (fun b N => SemW tab m y b N Qn Qr Qe) Qr Qe) : SemW tab m (.seq x y) a M Qn Qr Qe := by
  intro w hh a' h0 hm s ha
  rw [W_seq]
  refine W_mono (h w hh a' h0 hm s ha) (fun a1 h1 hl => ?_) (fun _ _ h => h) (fun _ _ _ h => h)
  obtain ⟨w1, b, N, t1, s1, r1, q⟩ := hl
  rw [KSeq_eq]
  exact W_mono (q w1 h1 a1 (by rw [t1.le.id0]; exact h0) t1.len s1 r1) (fun _ _ h => h.trans t1) (fun _ _ h => h.trans t1) (fun _ _ _ h => h.trans t1)
theorem SemW_blk {id : Nat} {x : AC} (h : SemW tab m x a M Qn Qr (PKBlk id Qn Qe)) : SemW tab m (.block id x) a M Qn Qr Qe := by
  intro w hh a' h0 hm s ha
  rw [W_block]
  refine W_mono (h w hh a' h0 hm s ha) (fun _ _ h => h) (fun _ _ h => h) (fun i a1 h1 hl => ?_)
  obtain ⟨w1, b, N, t1, s1, r1, q⟩ := hl
  rw [KBlock_eq]
  unfold PKBlk at q
  by_cases e : i = id
  · rw [if_pos e] at q ⊢; exact ⟨w1, b, N, t1, s1, r1, q⟩
  · rw [if_neg e] at q ⊢; exact ⟨w1, b, N, t1, s1, r1, q⟩
theorem SemW_loop {sc : List Nat} {x : AC} (hj : jchk 0 sc a = true) (h : SemW tab m x a M (fun b N => SemW tab m (.loop sc x) b N Qn Qr Qe) Qr Qe) : SemW tab m (.loop sc x) a M Qn Qr Qe := by
  intro w hh a' h0 hm s ha
  rw [W_loop _ _ _ _ _ _ _ _ (lim_code tab)]
  have e := pscrub_same sc a fun s hs => by simpa using (jchk_get a 0 sc hj s hs).2
  have ha2 := RepL.scrub sc ha
  rw [e] at ha2
  refine W_mono (h w hh _ h0 hm s ha2) (fun a1 h1 hl => ?_) (fun _ _ h => h) (fun _ _ _ h => h)
  obtain ⟨w1, b, N, t1, s1, r1, q⟩ := hl
  rw [WL_eq]
  exact W_mono (q w1 h1 a1 (by rw [t1.le.id0]; exact h0) t1.len s1 r1) (fun _ _ h => h.trans t1) (fun _ _ h => h.trans t1) (fun _ _ _ h => h.trans t1)
theorem SemW_of {c : AC} (h : RX tab m c a M Qn Qr Qe) : SemW tab m c a M Qn Qr Qe := RX_sound m c h
theorem SemW_mono {c : AC} {Qn' Qr' : List PV → Mem → Prop} {Qe' : Nat → List PV → Mem → Prop} (h : SemW tab m c a M Qn Qr Qe) (h1 : ∀ b N, Qn b N → Qn' b N) (h2 : ∀ b N, Qr b N → Qr' b N) (h3 : ∀ i b N, Qe i b N → Qe' i b N) : SemW tab m c a M Qn' Qr' Qe' := by
  intro w hh a' h0 hm s ha
  refine W_mono (h w hh a' h0 hm s ha) ?_ ?_ ?_
  · rintro a1 hh1 ⟨w1, b, N, t1, s1, r1, q⟩; exact ⟨w1, b, N, t1, s1, r1, h1 _ _ q⟩
  · rintro a1 hh1 ⟨w1, b, N, t1, s1, r1, q⟩; exact ⟨w1, b, N, t1, s1, r1, h2 _ _ q⟩
  · rintro i a1 hh1 ⟨w1, b, N, t1, s1, r1, q⟩; exact ⟨w1, b, N, t1, s1, r1, h3 _ _ _ q⟩
end
end Go.Am
namespace Go.Am
def tabA {α : Type} (n : Nat) (f : Nat → α) : List α := (List.range n).map f
theorem tabA_len {α : Type} (n : Nat) (f : Nat → α) : (tabA n f).length = n := by simp [tabA]
theorem tabA_get {α : Type} {n : Nat} {f : Nat → α} {v : Nat} (h : v < n) : (tabA n f)[v]? = some (f v) := by simp [tabA, h]
theorem tabA_none {α : Type} {n : Nat} {f : Nat → α} {v : Nat} (h : n ≤ v) : (tabA n f)[v]? = none := List.getElem?_eq_none (by rw [tabA_len]; exact h)
theorem tabA_ext {α : Type} {n : Nat} {f : Nat → α} {a : List α} (hl : a.length = n) (h : ∀ v, v < n → a[v]? = some (f v)) : a = tabA n f := by
  apply List.ext_getElem?
  intro v
  rcases Nat.lt_or_ge v n with q | q
  · rw [h v q, tabA_get q]
  · rw [List.getElem?_eq_none (by omega), tabA_none q]
theorem tabA_congr {α : Type} {n : Nat} {f g : Nat → α} (h : ∀ v, v < n → f v = g v) : tabA n f = tabA n g := tabA_ext (tabA_len _ _) fun v hv => by rw [tabA_get hv, h v hv]
theorem tabA_set {α : Type} {n : Nat} {f : Nat → α} {u : Nat} (x : α) (h : u < n) : (tabA n f).set u x = tabA n (fun v => if v = u then x else f v) := tabA_ext (by rw [List.length_set, tabA_len]) fun v hv => by
  rw [List.getElem?_set]
  by_cases e : u = v
  · subst e; rw [if_pos rfl, if_pos (by rw [tabA_len]; exact h), if_pos rfl]
  · rw [if_neg e, tabA_get hv, if_neg (fun q => e q.symm)]
theorem tabA_rep {α : Type} (n : Nat) (x : α) : List.replicate n x = tabA n (fun _ => x) := tabA_ext (by simp) fun v hv => by simp [hv]
theorem tabA_mem {α : Type} {n : Nat} {f : Nat → α} {x : α} (h : x ∈ tabA n f) : ∃ v, v < n ∧ f v = x := by
  obtain ⟨v, hv, e⟩ := List.mem_map.1 h
  exact ⟨v, List.mem_range.1 hv, e⟩
theorem tabA_succ {α : Type} (n : Nat) (f : Nat → α) : tabA (n + 1) f = tabA n f ++ [f n] := by simp [tabA, List.range_succ]
theorem PWeak.refl : ∀ a : List PV, PWeak a a
  | [] => trivial
  | _ :: a => ⟨.inr rfl, PWeak.refl a⟩
end Go.Am
set_option linter.unusedVariables false
set_option linter.unusedSimpArgs false
namespace Go.Am
section
variable {tab : FuncId → Option AF}
end
end Go.Am
set_option linter.unusedVariables false
set_option linter.unusedSimpArgs false
namespace Go.Am
section
variable {tab : FuncId → Option AF}
theorem aops_one {L : Rec} {o : AOper} {os : List AOper} {a b : List AV} {h h1 : H} (e : aops L [o] a h = some (b, h1)) : aops L (o :: os) a h = aops L os b h1 := by
  simp only [aops] at e ⊢
  cases hw : wantedA a o.guard with
  | none => rw [hw] at e; cases e
  | some t =>
    rw [hw] at e
    cases t with
    | false => simp only [Option.some.injEq, Prod.mk.injEq] at e ⊢; obtain ⟨rfl, rfl⟩ := e; rfl
    | true =>
      simp only at e ⊢
      split at e
      · rename_i v h' rd q
        simp only [Option.some.injEq, Prod.mk.injEq] at e
        obtain ⟨rfl, rfl⟩ := e
        rfl
      · cases e
theorem SemW_lit {m : Nat} {a : List PV} {M : Mem} {Qn Qr : List PV → Mem → Prop} {Qe : Nat → List PV → Mem → Prop} {o1 : AOper} {os : List AOper} {d size len : Nat} {z : List AV} {ps : List (Nat × Nat × AR)} {chk : List Nat}
    (h : RO tab [o1] a M fun b N => ∃ cs, pfill b (prepl len (z.map ofAV1)) ps = some cs ∧ RO tab os (ptset b d (.ref N.length 0 size 0 len)) (N ++ [.cells 0 0 cs]) Qn) :
    SemW tab m (.region (o1 :: ⟨some d, .buildSlice size len z ps, none, chk⟩ :: os)) a M Qn Qr Qe := by
  intro w hh a' h0 hm s ha
  rw [W_region]
  delta RO at h
  obtain ⟨a1', h1, e1, w1, b, N, t1, s1, r1, cs, q1, q2⟩ := PO_sound [o1] (Nat.le_trans h0 hm) s ha h
  obtain ⟨cs', f1, f2⟩ := rep_fill r1 ps (rep_repl (repL_ofAV1 w1 z) len) q1
  obtain ⟨s2, t2⟩ := s1.alloc (o := .cells 0 0 cs) (o' := .cells 0 true cs') (e := ⟨some h1.next, 0, 0⟩) rfl (fun w' hl he => ⟨_, he, rfl, _, H.get_alloc_new _ _, f2.mono hl s1.env⟩)
  have hv : RepV (w1.withEnv N.length ⟨some h1.next, 0, 0⟩) (.ref N.length 0 size 0 len) (.slice true size h1.next 0 len) := .ref (e := ⟨some h1.next, 0, 0⟩) (by show (if _ = _ then _ else _) = _; rw [if_pos rfl]) rfl rfl
  obtain ⟨a2', h2, e2, w2, a2, M2, t3, s3, r3, q3⟩ := PO_sound os (by rw [t2.le.id0, t1.le.id0]; have := t1.len; have := t2.len; omega) s2 ((r1.mono t2.le s1.env).tset d hv) q2
  unfold WO
  refine ⟨a2', h2, ?_, w2, a2, M2, ((t1.trans t2 t1.len).trans t3 (Nat.le_trans t1.len t2.len)).weaken hm, s3, r3, q3⟩
  rw [aops_one e1]
  simp only [aops, wantedA, astep, aop, f1]
  exact e2
theorem SemC_pureS {g : FuncId} {F : AFn} (hg : tab g = some (.fn F)) {args : List PV} {M : Mem} {K : PV → Mem → Prop} (hb : underL 0 args = true)
    (hp : SemW tab 0 F.body (ppad args F.ntmps) [] (PKPure F.results fun r => K r M) (PKPure F.results fun r => K r M) PKNo) : SemC tab g args M K := by
  refine SemC_frame hb (SemC_sem hg (SemW_mono hp (fun b N q => ?_) (fun b N q => ?_) fun i b N q => ?_))
  · unfold PKPure at q; exact q
  · unfold PKPure at q; exact q
  · unfold PKNo at q; exact q
end
end Go.Am
set_option linter.unusedVariables false
set_option linter.unusedSimpArgs false
namespace Go.Am
def ZMp (o : Option PObj) (k : Nat → List (PV × PV) → Prop) (t : KTag k) : Prop := QMp o k
def ZLook (kd : Nat) (ok : Bool) (z x i : PV) (M : Mem) (K : PV → Mem → List Nat → List Nat → Prop) (t : KTag K) : Prop := QLook kd ok z x i M K
def ZMapU (kd : Nat) (m i v : PV) (M : Mem) (K : PV → Mem → List Nat → List Nat → Prop) (t : KTag K) : Prop := QMapU kd m i v M K
theorem ZMp_map (ver : Nat) (es : List (PV × PV)) (k : Nat → List (PV × PV) → Prop) (t : KTag k) : ZMp (some (.map ver es)) k t = k ver es := by
  apply propext
  constructor
  · rintro ⟨_, _, e, h⟩; cases e; exact h
  · intro h; exact ⟨_, _, rfl, h⟩
section
variable (tab : FuncId → Option AF) (a : List PV) (M : Mem) (K : PV → Mem → List Nat → List Nat → Prop)
theorem PS_makeMap : RS tab .makeMap a M K = K (.map M.length) (M ++ [.map 0 []]) [] [] := by delta RS; rfl
theorem PS_lookup (kd : Nat) (ok : Bool) (z : AV) (x i : AR) : RS tab (.lookup kd ok z x i) a M K = ZLook kd ok (ofAV1 z) (pev a x) (pev a i) M K ⟨0⟩ := by delta RS; rfl
theorem PS_mapUpdate (kd : Nat) (m i v : AR) : RS tab (.mapUpdate kd m i v) a M K = ZMapU kd (pev a m) (pev a i) (pev a v) M K ⟨0⟩ := by delta RS; rfl
end
theorem ZLook_map (kd : Nat) (ok : Bool) (z : PV) (id : Nat) (k : IntKind) (n : Int) (M : Mem) (K : PV → Mem → List Nat → List Nat → Prop) (t : KTag K) :
    ZLook kd ok z (.map id) (.int k n) M K t = ZMp M[id]? (fun _ es => ZSome (pmapFind kd (.int k n) es) (fun r => K (plook ok z r) M [id] []) ⟨0⟩) ⟨0⟩ := by unfold ZMp; delta ZSome; rfl
theorem ZMapU_map (kd : Nat) (id : Nat) (k : IntKind) (n : Int) (v : PV) (M : Mem) (K : PV → Mem → List Nat → List Nat → Prop) (t : KTag K) :
    ZMapU kd (.map id) (.int k n) v M K t = ZMp M[id]? (fun ver es => ZSome (pmapFind kd (.int k n) es) (fun _ => v.one = true ∧ K (.tuple []) (M.set id (.map (ver + 1) (pmapPut kd (.int k n) (.int k n) v es))) [] [id]) ⟨0⟩) ⟨0⟩ := by unfold ZMp; delta ZSome; rfl
theorem plook_st (z v : PV) : plook true z (some v) = .tuple [v, .bool true] := (rfl)
theorem plook_sf (z v : PV) : plook false z (some v) = v := (rfl)
theorem plook_nt (z : PV) : plook true z none = .tuple [z, .bool false] := (rfl)
theorem plook_nf (z : PV) : plook false z none = z := (rfl)
def mpE (l : List (Nat × Nat)) : List (PV × PV) := l.map fun p => (PV.int .i64 (p.1 : Int), PV.int .i64 (p.2 : Int))
def mlook (k : Nat) : List (Nat × Nat) → Option Nat
  | [] => none
  | p :: l => if k = p.1 then some p.2 else mlook k l
theorem mpE_find (k : Nat) : ∀ l : List (Nat × Nat), pmapFind 0 (.int .i64 (k : Int)) (mpE l) = some ((mlook k l).map fun (v : Nat) => PV.int .i64 (v : Int))
  | [] => rfl
  | p :: l => by
    show (match (if IntKind.i64 = IntKind.i64 then some ((k : Int) == (p.1 : Int)) else none) with | some true => some (some _) | some false => pmapFind 0 (.int .i64 (k : Int)) (mpE l) | none => none) = _
    rw [if_pos rfl]
    unfold mlook
    by_cases e : k = p.1
    · rw [if_pos e, show ((k : Int) == (p.1 : Int)) = true by rw [e]; simp]; rfl
    · rw [if_neg e, show ((k : Int) == (p.1 : Int)) = false by simp; omega]
      exact mpE_find k l
theorem mpE_put (k v : Nat) : ∀ l : List (Nat × Nat), mlook k l = none → pmapPut 0 (.int .i64 (k : Int)) (.int .i64 (k : Int)) (.int .i64 (v : Int)) (mpE l) = mpE (l ++ [(k, v)])
  | [], _ => rfl
  | p :: l, h => by
    unfold mlook at h
    by_cases e : k = p.1
    · rw [if_pos e] at h; cases h
    · rw [if_neg e] at h
      show (match (if IntKind.i64 = IntKind.i64 then some ((k : Int) == (p.1 : Int)) else none) with | some true => _ | _ => _ :: pmapPut 0 (.int .i64 (k : Int)) (.int .i64 (k : Int)) (.int .i64 (v : Int)) (mpE l)) = _
      rw [if_pos rfl, show ((k : Int) == (p.1 : Int)) = false by simp; omega, mpE_put k v l h]
      rfl
attribute [irreducible] ZMp ZLook ZMapU
end Go.Am
set_option linter.unusedVariables false
set_option linter.unusedSimpArgs false
namespace Go.Am
def PFrzP (id g : Nat) (cs : List PV) : List PV → List PV → Prop
  | [], [] => True
  | x :: a, y :: b => (y = .junk ∨ x = y ∨ ∃ o, x = .ptr id g o ∧ y = .cp cs o) ∧ PFrzP id g cs a b
  | _, _ => False
theorem PFrzP_nil (id g : Nat) (cs : List PV) : PFrzP id g cs [] [] = True := (rfl)
theorem PFrzP_junk (id g : Nat) (cs : List PV) (x : PV) (a b : List PV) : PFrzP id g cs (x :: a) (.junk :: b) = PFrzP id g cs a b := by simp [PFrzP]
theorem PFrzP_same (id g : Nat) (cs : List PV) (x : PV) (a b : List PV) : PFrzP id g cs (x :: a) (x :: b) = PFrzP id g cs a b := by simp [PFrzP]
theorem PFrzP_ptr (id g o : Nat) (cs : List PV) (a b : List PV) : PFrzP id g cs (.ptr id g o :: a) (.cp cs o :: b) = PFrzP id g cs a b := by
  simp [PFrzP]
theorem PSt.freezeP {w : PWd} {h : H} {M : Mem} (s : PSt w h M) {id g ver : Nat} {cs : List PV} (hm : M[id]? = some (.cells g ver cs)) (h0 : w.id0 ≤ id) :
    ∃ w', PSt w' h (M.set id .gone) ∧ (∀ m, m ≤ id → PStp m w h M w' h (M.set id .gone)) ∧ Le M.length w w' ∧ ∀ o x, RepV w (.ptr id g o) x → RepV w' (.cp cs o) x := by
  obtain ⟨e, h1, h2, h3⟩ := s.cellsAt hm
  have hid := getSome_lt hm
  rcases h3 with ⟨hb, rfl⟩ | ⟨b, bcs, hb, hg, hr, hlv⟩
  · have live : ∀ i x, LiveAt w (M.set id .gone) i x → LiveAt w M i x := by
      rintro i x ⟨ob, e', p1, p2, p3, p4⟩
      by_cases hi : id = i
      · subst hi; rw [List.getElem?_set_self hid] at p1; cases p1; exact absurd rfl p2
      · rw [List.getElem?_set_ne hi] at p1; exact ⟨ob, e', p1, p2, p3, p4⟩
    refine ⟨w, ⟨s.imm, fun i e' he => by simpa using s.env i e' he, s.blk, ?_, fun i j x q1 q2 => s.inj i j x (live i x q1) (live j x q2), fun i x q1 => s.sep i x (live i x q1), s.base⟩, fun m hmm => ⟨by simp; omega, Le.refl _ _, Nat.le_refl _, fun _ _ _ => rfl, fun i x q1 _ => live i x q1, fun x hx => .inl hx⟩, Le.refl _ _, ?_⟩
    · intro i ob hi
      by_cases hid2 : id = i
      · subst hid2; rw [List.getElem?_set_self hid] at hi; cases hi; trivial
      · rw [List.getElem?_set_ne hid2] at hi; exact s.obj i ob hi
    · intro o x hx
      cases hx with
      | ptr q1 q2 q3 => rw [h1] at q1; cases q1; rw [hb] at q3; cases q3
      | ptrS x q0 q1 q2 => rw [h1] at q1; cases q1; omega
  · let w' := w.withImm b (.cells (e.v0 + ver) true bcs)
    have hsep := s.sep id b hlv
    have hl : Le M.length w w' := le_withImm hsep.1
    have him : ∀ x, x ≠ b → w'.imm x = w.imm x := fun x hx => by show (if _ = _ then _ else _) = _; rw [if_neg hx]
    have hnew : w'.imm b = some (.cells (e.v0 + ver) true bcs) := by show (if _ = _ then _ else _) = _; rw [if_pos rfl]
    have live : ∀ i x, LiveAt w' (M.set id .gone) i x → i ≠ id ∧ LiveAt w M i x := by
      rintro i x ⟨ob, e', p1, p2, p3, p4⟩
      by_cases hi : id = i
      · subst hi; rw [List.getElem?_set_self hid] at p1; cases p1; exact absurd rfl p2
      · rw [List.getElem?_set_ne hi] at p1; exact ⟨fun q => hi q.symm, ob, e', p1, p2, p3, p4⟩
    refine ⟨w', ⟨?_, fun i e' he => by simpa using s.env i e' he, s.blk, ?_, fun i j x q1 q2 => s.inj i j x (live i x q1).2 (live j x q2).2, ?_, s.base⟩, fun m hmm => ⟨by simp; omega, ⟨hl.n0, hl.id0, hl.imm, fun i hi => hl.env i (by omega)⟩, Nat.le_refl _, fun _ _ _ => rfl, fun i x q1 _ => (live i x q1).2, ?_⟩, hl, ?_⟩
    · intro x o hx
      by_cases e1 : x = b
      · subst e1; rw [hnew] at hx; cases hx; exact hg
      · rw [him x e1] at hx; exact s.imm x o hx
    · intro i ob hi
      by_cases hid2 : id = i
      · subst hid2; rw [List.getElem?_set_self hid] at hi; cases hi; trivial
      · rw [List.getElem?_set_ne hid2] at hi
        exact RepO.mono s hl (s.obj i ob hi) (fun e' he => he) (fun _ _ _ _ => rfl)
    · intro i x q1
      obtain ⟨hne, q2⟩ := live i x q1
      have : x ≠ b := by rintro rfl; exact hne (s.inj i id x q2 hlv)
      exact ⟨by rw [him x this]; exact (s.sep i x q2).1, (s.sep i x q2).2⟩
    · intro x hx
      by_cases e1 : x = b
      · subst e1; exact .inr (.inr ⟨id, hmm, hlv⟩)
      · rw [him x e1] at hx; exact .inl hx
    · intro o x hx
      cases hx with
      | ptr q1 q2 q3 =>
        rw [h1] at q1; cases q1
        rw [hb] at q3; cases q3
        have hs := hr.mono hl s.env
        have := RepV.cp (o := o) (off := 0) hnew (by rw [hr.len]; omega) (fun i y z hy hz => hs.get i y z hy (by simpa using hz))
        simpa using this
      | ptrS x q0 q1 q2 => rw [h1] at q1; cases q1; omega
theorem PFrzP.rep {w w' : PWd} {M : Mem} {id g : Nat} {cs : List PV} (hl : Le M.length w w') (hd : ∀ i e, w.env i = some e → i < M.length) (hf : ∀ o x, RepV w (.ptr id g o) x → RepV w' (.cp cs o) x) :
    ∀ {a b : List PV} {a' : List AV}, PFrzP id g cs a b → RepL w a a' → RepL w' b a'
  | [], [], a', _, h => ⟨h.len, fun i y z q => by simp at q⟩
  | x :: a, y :: b, [], _, h => by have := h.len; simp at this
  | x :: a, y :: b, v :: a', ⟨h1, h2⟩, h => by
    refine .cons ?_ (PFrzP.rep hl hd hf h2 h.tl)
    rcases h1 with rfl | rfl | ⟨o, rfl, rfl⟩
    · exact .junk _
    · exact h.hd.mono hl hd
    · exact hf o v h.hd
  | [], _ :: _, a', hw, h => hw.elim
  | _ :: _, [], a', hw, h => hw.elim
theorem GStep.freezeP {m : Nat} {a b : List PV} {M N : Mem} (id : Nat) {g ver : Nat} {cs : List PV} (hid : m ≤ id) (hM : M[id]? = some (.cells g ver cs)) (hf : PFrzP id g cs a b) (hN : M.set id .gone = N) : GStep m a M b N := by
  subst hN
  refine ⟨fun hm => by simpa using hm, fun w hh a' h0 hm s ha => ?_⟩
  obtain ⟨w', s1, s2, hl, hr⟩ := s.freezeP hM (Nat.le_trans h0 hid)
  exact ⟨w', s2 m hid, s1, hf.rep hl s.env hr ha⟩
end Go.Am

