/- The pure machine: laws. Statement by statement; the present becomes old; results are overwritten, and what goes with it. -/
import Derived.Test.YtkbdnbmnopmhdaaPmR
import Derived.Test.YtkbdnbmnopmhdaaAmArgs
set_option linter.unusedVariables false
set_option linter.unusedSimpArgs false
namespace Go.Am
theorem RepV.eqv {w w' : PWd} (h0 : w'.n0 = w.n0) (hi : ∀ b o, w.imm b = some o → w'.imm b = some o) (he : ∀ id e, w.env id = some e → w'.env id = some e) {v : PV} {x : AV} (h : RepV w v x) : RepV w' v x := by
  induction h with
  | junk x => exact .junk x
  | bool b => exact .bool b
  | int k n => exact .int k n
  | str s => exact .str s
  | nilptr => exact .nilptr
  | nils => exact .nils
  | nilmap => exact .nilmap
  | nilfunc => exact .nilfunc
  | niliface => exact .niliface
  | ptr h1 h2 h3 => exact .ptr (he _ _ h1) h2 h3
  | ptrS x q h1 h2 => exact .ptrS x q (he _ _ h1) h2
  | cp h1 h2 h3 ih => exact .cp (hi _ _ h1) h2 (fun i y z p q => ih i y z p q)
  | sl h1 h2 h3 h4 h5 h7 h6 ih => exact .sl (hi _ _ h1) h2 h3 h4 (by rw [h0]; exact h5) (by rw [h0]; exact h7) (fun i y z p q => ih i y z p q)
  | slN => exact .slN
  | ref h1 h2 h3 => exact .ref (he _ _ h1) h2 h3
  | refN h1 h2 h3 => exact .refN (he _ _ h1) h2 h3
  | refS x q h1 h2 => exact .refS x q (he _ _ h1) h2
  | map h1 h2 h3 => exact .map (he _ _ h1) h2 h3
  | mapS x q h1 h2 => exact .mapS x q (he _ _ h1) h2
  | func h1 h2 h3 h4 h5 ih1 ih2 => exact .func h1 h2 h3 (fun i y z p q => ih1 i y z p q) (fun i y z p q => ih2 i y z p q)
  | yld h1 h2 h3 h4 h5 ih => exact .yld (he _ _ h1) h2 h3 h4 (fun i y z p q => ih i y z p q)
  | yldS x q h1 h2 => exact .yldS x q (he _ _ h1) h2
  | iface h ih => exact .iface ih
  | agg h1 h2 ih => exact .agg h1 (fun i y z p q => ih i y z p q)
  | tuple h1 h2 ih => exact .tuple h1 (fun i y z p q => ih i y z p q)
theorem RepL.eqv {w w' : PWd} (h0 : w'.n0 = w.n0) (hi : ∀ b o, w.imm b = some o → w'.imm b = some o) (he : ∀ id e, w.env id = some e → w'.env id = some e) {l : List PV} {l' : List AV} (h : RepL w l l') : RepL w' l l' :=
  ⟨h.len, fun i y z p q => (h.get i y z p q).eqv h0 hi he⟩
mutual
def PV.age : PV → PV
  | .sl _ _ sz n cs => .sl false false sz n (ageL cs)
  | .cp cs o => .cp (ageL cs) o
  | .agg cs => .agg (ageL cs)
  | .tuple cs => .tuple (ageL cs)
  | .func fn f c => .func fn (ageL f) (ageL c)
  | .yld id f => .yld id (ageL f)
  | .iface t v => .iface t (PV.age v)
  | .junk => .junk
  | .bool b => .bool b
  | .int k n => .int k n
  | .str s => .str s
  | .nilptr => .nilptr
  | .nils => .nils
  | .nilmap => .nilmap
  | .nilfunc => .nilfunc
  | .niliface => .niliface
  | .ptr id g o => .ptr id g o
  | .ref id g sz off n => .ref id g sz off n
  | .map id => .map id
def ageL : List PV → List PV
  | [] => []
  | v :: l => PV.age v :: ageL l
def PV.swp : PV → PV
  | .sl fl own sz n cs => match fl, own with
    | false, false => .sl false false sz n (swpL cs)
    | _, _ => .junk
  | .cp _ _ => .junk
  | .agg cs => .agg (swpL cs)
  | .tuple cs => .tuple (swpL cs)
  | .func fn f c => .func fn (swpL f) (swpL c)
  | .yld id f => .yld id (swpL f)
  | .iface t v => .iface t (PV.swp v)
  | .junk => .junk
  | .bool b => .bool b
  | .int k n => .int k n
  | .str s => .str s
  | .nilptr => .nilptr
  | .nils => .nils
  | .nilmap => .nilmap
  | .nilfunc => .nilfunc
  | .niliface => .niliface
  | .ptr id g o => .ptr id g o
  | .ref id g sz off n => .ref id g sz off n
  | .map id => .map id
def swpL : List PV → List PV
  | [] => []
  | v :: l => PV.swp v :: swpL l
end
theorem ageL_map : ∀ l : List PV, ageL l = l.map PV.age
  | [] => rfl
  | v :: l => by simp [ageL, ageL_map l]
theorem swpL_map : ∀ l : List PV, swpL l = l.map PV.swp
  | [] => rfl
  | v :: l => by simp [swpL, swpL_map l]
theorem ageL_get {l : List PV} {i : Nat} {y : PV} (h : (ageL l)[i]? = some y) : ∃ z, l[i]? = some z ∧ y = z.age := by
  rw [ageL_map, List.getElem?_map] at h
  cases hl : l[i]? with
  | none => rw [hl] at h; cases h
  | some z => rw [hl] at h; cases h; exact ⟨z, rfl, rfl⟩
theorem swpL_get {l : List PV} {i : Nat} {y : PV} (h : (swpL l)[i]? = some y) : ∃ z, l[i]? = some z ∧ y = z.swp := by
  rw [swpL_map, List.getElem?_map] at h
  cases hl : l[i]? with
  | none => rw [hl] at h; cases h
  | some z => rw [hl] at h; cases h; exact ⟨z, rfl, rfl⟩
theorem RepV.age {w w' : PWd} (hb : ∀ b o, w.imm b = some o → b < w'.n0) (hi : ∀ b o, w.imm b = some o → w'.imm b = some o) (he : ∀ id e, w.env id = some e → w'.env id = some e) {v : PV} {x : AV} (h : RepV w v x) : RepV w' v.age x := by
  have up : ∀ {l : List PV} {l' : List AV} {f : Nat → Nat}, (∀ (i : Nat) (y : PV) (z : AV), l[i]? = some y → l'[f i]? = some z → RepV w' y.age z) → ∀ (i : Nat) (y : PV) (z : AV), (ageL l)[i]? = some y → l'[f i]? = some z → RepV w' y z := by
    intro l l' f h i y z p q
    obtain ⟨u, h1, rfl⟩ := ageL_get p
    exact h i u z h1 q
  have len : ∀ l : List PV, (ageL l).length = l.length := fun l => by rw [ageL_map]; simp
  induction h with
  | junk x => simp only [PV.age]; exact .junk x
  | bool b => simp only [PV.age]; exact .bool b
  | int k n => simp only [PV.age]; exact .int k n
  | str s => simp only [PV.age]; exact .str s
  | nilptr => simp only [PV.age]; exact .nilptr
  | nils => simp only [PV.age]; exact .nils
  | nilmap => simp only [PV.age]; exact .nilmap
  | nilfunc => simp only [PV.age]; exact .nilfunc
  | niliface => simp only [PV.age]; exact .niliface
  | ptr h1 h2 h3 => simp only [PV.age]; exact .ptr (he _ _ h1) h2 h3
  | ptrS x q h1 h2 => simp only [PV.age]; exact .ptrS x q (he _ _ h1) h2
  | cp h1 h2 h3 ih => simp only [PV.age]; exact .cp (hi _ _ h1) (by rw [len]; exact h2) (up ih)
  | sl h1 h2 h3 h4 h5 h7 h6 ih => simp only [PV.age]; exact .sl (hi _ _ h1) (by rw [len]; exact h2) (by rw [len]; exact h3) (fun q => by cases q) (fun q => by cases q) (fun _ _ => hb _ _ h1) (up ih)
  | slN => simp only [PV.age, ageL]; exact .slN
  | ref h1 h2 h3 => simp only [PV.age]; exact .ref (he _ _ h1) h2 h3
  | refN h1 h2 h3 => simp only [PV.age]; exact .refN (he _ _ h1) h2 h3
  | refS x q h1 h2 => simp only [PV.age]; exact .refS x q (he _ _ h1) h2
  | map h1 h2 h3 => simp only [PV.age]; exact .map (he _ _ h1) h2 h3
  | mapS x q h1 h2 => simp only [PV.age]; exact .mapS x q (he _ _ h1) h2
  | func h1 h2 h3 h4 h5 ih1 ih2 => simp only [PV.age]; exact .func h1 (by rw [len]; exact h2) (by rw [len]; exact h3) (up (f := id) ih1) (up (f := id) ih2)
  | yld h1 h2 h3 h4 h5 ih => simp only [PV.age]; exact .yld (he _ _ h1) h2 h3 (by rw [len]; exact h4) (up (f := id) ih)
  | yldS x q h1 h2 => simp only [PV.age]; exact .yldS x q (he _ _ h1) h2
  | iface h ih => simp only [PV.age]; exact .iface ih
  | agg h1 h2 ih => simp only [PV.age]; exact .agg (by rw [len]; exact h1) (up (f := id) ih)
  | tuple h1 h2 ih => simp only [PV.age]; exact .tuple (by rw [len]; exact h1) (up (f := id) ih)
theorem RepV.swp {w w' : PWd} (h0 : w'.n0 = w.n0) (hi : ∀ b o, w.imm b = some o → b < w.n0 → w'.imm b = some o) (he : ∀ id e, w.env id = some e → w'.env id = some e) {v : PV} {x : AV} (h : RepV w v x) : RepV w' v.swp x := by
  have up : ∀ {l : List PV} {l' : List AV} {f : Nat → Nat}, (∀ (i : Nat) (y : PV) (z : AV), l[i]? = some y → l'[f i]? = some z → RepV w' y.swp z) → ∀ (i : Nat) (y : PV) (z : AV), (swpL l)[i]? = some y → l'[f i]? = some z → RepV w' y z := by
    intro l l' f h i y z p q
    obtain ⟨u, h1, rfl⟩ := swpL_get p
    exact h i u z h1 q
  have len : ∀ l : List PV, (swpL l).length = l.length := fun l => by rw [swpL_map]; simp
  induction h with
  | junk x => simp only [PV.swp]; exact .junk x
  | bool b => simp only [PV.swp]; exact .bool b
  | int k n => simp only [PV.swp]; exact .int k n
  | str s => simp only [PV.swp]; exact .str s
  | nilptr => simp only [PV.swp]; exact .nilptr
  | nils => simp only [PV.swp]; exact .nils
  | nilmap => simp only [PV.swp]; exact .nilmap
  | nilfunc => simp only [PV.swp]; exact .nilfunc
  | niliface => simp only [PV.swp]; exact .niliface
  | ptr h1 h2 h3 => simp only [PV.swp]; exact .ptr (he _ _ h1) h2 h3
  | ptrS x q h1 h2 => simp only [PV.swp]; exact .ptrS x q (he _ _ h1) h2
  | cp h1 h2 h3 ih => simp only [PV.swp]; exact .junk _
  | @sl fl own sz n cs fl' b ver rw bcs off h1 h2 h3 h4 h5 h7 h6 ih =>
    cases fl <;> cases own <;> simp only [PV.swp]
    · exact .sl (hi _ _ h1 (h7 rfl rfl)) (by rw [len]; exact h2) (by rw [len]; exact h3) (fun q => by cases q) (fun q => by cases q) (fun _ _ => by rw [h0]; exact h7 rfl rfl) (up ih)
    all_goals exact .junk _
  | @slN fl own sz => cases fl <;> cases own <;> simp only [PV.swp, swpL] <;> first | exact .slN | exact .junk _
  | ref h1 h2 h3 => simp only [PV.swp]; exact .ref (he _ _ h1) h2 h3
  | refN h1 h2 h3 => simp only [PV.swp]; exact .refN (he _ _ h1) h2 h3
  | refS x q h1 h2 => simp only [PV.swp]; exact .refS x q (he _ _ h1) h2
  | map h1 h2 h3 => simp only [PV.swp]; exact .map (he _ _ h1) h2 h3
  | mapS x q h1 h2 => simp only [PV.swp]; exact .mapS x q (he _ _ h1) h2
  | func h1 h2 h3 h4 h5 ih1 ih2 => simp only [PV.swp]; exact .func h1 (by rw [len]; exact h2) (by rw [len]; exact h3) (up (f := id) ih1) (up (f := id) ih2)
  | yld h1 h2 h3 h4 h5 ih => simp only [PV.swp]; exact .yld (he _ _ h1) h2 h3 (by rw [len]; exact h4) (up (f := id) ih)
  | yldS x q h1 h2 => simp only [PV.swp]; exact .yldS x q (he _ _ h1) h2
  | iface h ih => simp only [PV.swp]; exact .iface ih
  | agg h1 h2 ih => simp only [PV.swp]; exact .agg (by rw [len]; exact h1) (up (f := id) ih)
  | tuple h1 h2 ih => simp only [PV.swp]; exact .tuple (by rw [len]; exact h1) (up (f := id) ih)
theorem RepL.age {w w' : PWd} (hb : ∀ b o, w.imm b = some o → b < w'.n0) (hi : ∀ b o, w.imm b = some o → w'.imm b = some o) (he : ∀ id e, w.env id = some e → w'.env id = some e) {l : List PV} {l' : List AV} (h : RepL w l l') : RepL w' (ageL l) l' :=
  ⟨by rw [ageL_map]; simpa using h.len, fun i y z p q => by
    obtain ⟨u, h1, rfl⟩ := ageL_get p
    exact (h.get i u z h1 q).age hb hi he⟩
theorem RepL.swp {w w' : PWd} (h0 : w'.n0 = w.n0) (hi : ∀ b o, w.imm b = some o → b < w.n0 → w'.imm b = some o) (he : ∀ id e, w.env id = some e → w'.env id = some e) {l : List PV} {l' : List AV} (h : RepL w l l') : RepL w' (swpL l) l' :=
  ⟨by rw [swpL_map]; simpa using h.len, fun i y z p q => by
    obtain ⟨u, h1, rfl⟩ := swpL_get p
    exact (h.get i u z h1 q).swp h0 hi he⟩
def PObj.mapC (f : List PV → List PV) : PObj → PObj
  | .cells g ver cs => .cells g ver (f cs)
  | _ => .gone
theorem mapC_get {f : List PV → List PV} {M : Mem} {id : Nat} {o : PObj} (h : (M.map (PObj.mapC f))[id]? = some o) : ∃ o0, M[id]? = some o0 ∧ o = o0.mapC f := by
  rw [List.getElem?_map] at h
  cases hl : M[id]? with
  | none => rw [hl] at h; cases h
  | some z => rw [hl] at h; cases h; exact ⟨z, rfl, rfl⟩
theorem mapC_live {f : List PV → List PV} {w w' : PWd} {M : Mem} (he : ∀ id, w'.env id = w.env id) {id x : Nat} (h : LiveAt w' (M.map (PObj.mapC f)) id x) : LiveAt w M id x := by
  obtain ⟨o, e, h1, h2, h3, h4⟩ := h
  obtain ⟨o0, h5, rfl⟩ := mapC_get h1
  rw [he] at h3
  refine ⟨o0, e, h5, ?_, h3, h4⟩
  rintro rfl
  exact h2 rfl
section
variable (tab : FuncId → Option AF)
def LfT (Q : List PV → Mem → Prop) (a' : List AV) (h' : H) : Prop := ∃ w a M, PSt w h' M ∧ RepL w a a' ∧ Q a M
def Top (c : AC) (a : List PV) (M : Mem) (Qn Qr : List PV → Mem → Prop) : Prop :=
  ∀ (w : PWd) (h : H) (a' : List AV), PSt w h M → RepL w a a' → W (lim tab) c a' h (LfT Qn) (LfT Qr) (fun _ _ _ => False)
variable {tab}
theorem Top_sem {c : AC} {a : List PV} {M : Mem} {Qn Qr : List PV → Mem → Prop} (h : SemW tab M.length c a M Qn Qr (fun _ _ _ => False)) : Top tab c a M Qn Qr := by
  intro w hh a' s ha
  let w' : PWd := { w with id0 := M.length }
  have s' : PSt w' hh M := ⟨s.imm, s.env, s.blk, fun id o ho => by
      have r := s.obj id o ho
      cases o with
      | cells g ver cs =>
        obtain ⟨e, h1, h2, h3⟩ := r
        refine ⟨e, h1, h2, ?_⟩
        cases hb : e.blk with
        | none => rw [hb] at h3; exact h3
        | some b =>
          rw [hb] at h3
          obtain ⟨bcs, h4, h5⟩ := h3
          exact ⟨bcs, h4, h5.eqv (w := w) (w' := w') rfl (fun _ _ h => h) (fun _ _ h => h)⟩
      | map ver es =>
        obtain ⟨e, b, h1, h2, h3, es', h4, h5⟩ := r
        exact ⟨e, b, h1, h2, h3, es', h4, h5.len, fun i y z p q => ⟨(h5.get i y z p q).1.eqv (w := w) (w' := w') rfl (fun _ _ h => h) (fun _ _ h => h), (h5.get i y z p q).2.eqv (w := w) (w' := w') rfl (fun _ _ h => h) (fun _ _ h => h)⟩⟩
      | loop ver r =>
        obtain ⟨e, b, h1, h2, h3, r', h4, h5⟩ := r
        exact ⟨e, b, h1, h2, h3, r', h4, h5.state, h5.pending, h5.params, h5.assign, h5.body, h5.tmps.eqv (w := w) (w' := w') rfl (fun _ _ h => h) (fun _ _ h => h)⟩
      | gone => trivial, s.inj, fun i x hl => ⟨(s.sep i x hl).1, fun hq => by
        have : i < M.length := LiveAt.lt (w := w) hl
        have : M.length ≤ i := hq
        omega⟩, s.base⟩
  refine W_mono (h w' hh a' (Nat.le_refl _) (Nat.le_refl _) s' (ha.eqv (w := w) (w' := w') rfl (fun _ _ h => h) (fun _ _ h => h))) ?_ ?_ (fun i a1 h1 ⟨_, _, _, _, _, _, q⟩ => q)
  · rintro a1 h1 ⟨w1, b, N, _, p1, p2, p3⟩; exact ⟨w1, b, N, p1, p2, p3⟩
  · rintro a1 h1 ⟨w1, b, N, _, p1, p2, p3⟩; exact ⟨w1, b, N, p1, p2, p3⟩
theorem Top_run {c : AC} {a : List PV} {M : Mem} {Qn Qr : List PV → Mem → Prop} (h : RX tab M.length c a M Qn Qr PKNo) : Top tab c a M Qn Qr :=
  Top_sem (by
    have := RX_sound (tab := tab) M.length c h
    intro w hh a' h0 hm s ha
    refine W_mono (this w hh a' h0 hm s ha) (fun _ _ q => q) (fun _ _ q => q) (fun i a1 h1 ⟨w1, b, N, p1, p2, p3, p4⟩ => ?_)
    unfold PKNo at p4
    exact p4.elim)
theorem Top_seq {x y : AC} {a : List PV} {M : Mem} {Qn Qr : List PV → Mem → Prop} (h : Top tab x a M (fun b N => Top tab y b N Qn Qr) Qr) : Top tab (.seq x y) a M Qn Qr := by
  intro w hh a' s ha
  rw [W_seq]
  refine W_mono (h w hh a' s ha) (fun a1 h1 hl => ?_) (fun _ _ h => h) (fun _ _ _ h => h)
  obtain ⟨w1, b, N, s1, r1, q⟩ := hl
  rw [KSeq_eq]
  exact q w1 h1 a1 s1 r1
theorem Top_weak {c : AC} {a b : List PV} {M N : Mem} {Qn Qr : List PV → Mem → Prop} (h : Top tab c b N Qn Qr) (hw : PWeak a b) (hM : M = N) : Top tab c a M Qn Qr := by
  subst hM
  exact fun w hh a' s ha => h w hh a' s (hw.rep ha)
def wH (h : H) : PWd := ⟨h.next, 0, fun _ => none, h.get⟩
theorem wH_st (h : H) : PSt (wH h) h [] :=
  ⟨fun b o hb => hb, (fun id e he => by cases he), (fun id e b he => by cases he), (fun id o ho => by simp at ho), fun i j x ⟨_, _, h1, _⟩ => by simp at h1, fun i x ⟨_, _, h1, _⟩ => by simp at h1, Nat.le_refl _⟩
def PKLaw (res : List ARes) (a : List PV) (M : Mem) : Prop := PKRes res a M fun vs => ppack vs = .bool true
theorem law_of_top {g : FuncId} {F : AFn} (hg : tab g = some (.fn F)) {pargs : List PV} {args' : List AV} {h : H} (ha : RepL (wH h) pargs args') (ht : Top tab F.body (ppad pargs F.ntmps) [] (PKLaw F.results) (PKLaw F.results)) :
    C (lim tab) g args' h fun v _ => v = .bool true := by
  rw [C_fn hg]
  have fin : ∀ a1 h1, LfT (PKLaw F.results) a1 h1 → KRes F.results (fun v _ => v = .bool true) a1 h1 := by
    rintro a1 h1 ⟨w1, b, N, s1, r1, q⟩
    obtain ⟨vs, vs', e1, e2, e3⟩ := res_sound s1 r1 F.results q
    rw [KRes_eq]
    have := rep_pack e2
    rw [e3] at this
    exact ⟨vs', e1, rep_bool this⟩
  exact W_mono (ht (wH h) h _ (wH_st h) (rep_pad ha _)) fin fin (fun i a1 h1 q => q.elim)
end
theorem sh_sl {E : Ty} (hE : E.size = 1) {cs : List AV} {h : H} (hs : Sh (.slice E) cs h) : ∃ v cells, cs = [v] ∧ cells.length ≤ 9223372036854775807 ∧ (∀ c ∈ cells, Sh E [c] h) ∧
    ∀ (pcs : List PV), RepL (wH h) pcs cells → RepV (wH h) (.sl false false 1 cells.length pcs) v := by
  rcases hs with rfl | ⟨b, n, cells, rfl, h2, h3, h4, h5⟩
  · refine ⟨.nilslice, [], rfl, by simp, (fun c hc => by cases hc), fun pcs hp => ?_⟩
    have : pcs = [] := List.length_eq_zero_iff.1 (by simpa using hp.len)
    subst this
    exact .slN
  · rw [hE, Nat.mul_one] at h4
    subst h4
    rw [hE]
    refine ⟨_, cells, rfl, by simpa [maxLen] using h2, fun c hc => ?_, fun pcs hp => ?_⟩
    · obtain ⟨i, hi, rfl⟩ := List.getElem_of_mem hc
      have := h5 i hi
      rw [hE, Nat.mul_one, List.drop_eq_getElem_cons hi] at this
      exact this
    · exact .sl (show (wH h).imm b = _ from h3) (by have := hp.len; omega) (by have := hp.len; omega) (fun q => by cases q) (fun q => by cases q) (fun _ _ => H.lt_of_get h3) (fun i y z p q => hp.get i y z p (by simpa using q))
theorem sh_intsP {k : IntKind} {cs : List AV} {h : H} (hs : Sh (.slice (.int k)) cs h) : ∃ v, ∃ xs : List Int, cs = [v] ∧ RepV (wH h) (slI false false k xs) v ∧ xs.length ≤ 9223372036854775807 ∧ ∀ x ∈ xs, k.min ≤ x ∧ x ≤ k.max := by
  obtain ⟨v, cells, rfl, h1, h2, h3⟩ := sh_sl rfl hs
  have : ∀ cells : List AV, (∀ c ∈ cells, Sh (.int k) [c] h) → ∃ xs : List Int, cells = xs.map (AV.int k) ∧ ∀ x ∈ xs, k.min ≤ x ∧ x ≤ k.max := by
    intro cells
    induction cells with
    | nil => intro _; exact ⟨[], rfl, fun x hx => by cases hx⟩
    | cons c cells ih =>
      intro hc
      obtain ⟨xs, e, e2⟩ := ih (fun c' h' => hc c' (List.mem_cons_of_mem _ h'))
      obtain ⟨n, e1, r1, r2⟩ := hc c (by simp)
      cases e1
      refine ⟨n :: xs, by simp [e], fun x hx => ?_⟩
      rcases List.mem_cons.1 hx with rfl | hx
      · exact ⟨r1, r2⟩
      · exact e2 x hx
  obtain ⟨xs, rfl, hr⟩ := this cells h2
  refine ⟨v, xs, rfl, ?_, by simpa using h1, hr⟩
  have := h3 (xs.map (PV.int k)) ⟨by simp, fun i y z p q => by
    rw [List.getElem?_map] at p q
    cases hx : xs[i]? with
    | none => rw [hx] at p; cases p
    | some x => rw [hx] at p q; cases p; cases q; exact .int k x⟩
  simpa using this
theorem sh_rowsP {k : IntKind} {cs : List AV} {h : H} (hs : Sh (.slice (.slice (.int k))) cs h) : ∃ v, ∃ su : List (List Int), cs = [v] ∧ RepV (wH h) (slR false false false false k su) v ∧ su.length ≤ 9223372036854775807 ∧ ∀ r ∈ su, r.length ≤ 9223372036854775807 ∧ ∀ x ∈ r, k.min ≤ x ∧ x ≤ k.max := by
  obtain ⟨v, cells, rfl, h1, h2, h3⟩ := sh_sl rfl hs
  have : ∀ cells : List AV, (∀ c ∈ cells, Sh (.slice (.int k)) [c] h) → ∃ su : List (List Int), cells.length = su.length ∧ RepL (wH h) (su.map (slI false false k)) cells ∧ ∀ r ∈ su, r.length ≤ 9223372036854775807 ∧ ∀ x ∈ r, k.min ≤ x ∧ x ≤ k.max := by
    intro cells
    induction cells with
    | nil => intro _; exact ⟨[], rfl, .nil _, fun x hx => by cases hx⟩
    | cons c cells ih =>
      intro hc
      obtain ⟨su, e, e2, e3⟩ := ih (fun c' h' => hc c' (List.mem_cons_of_mem _ h'))
      obtain ⟨v, xs, e1, r1, r2, r3⟩ := sh_intsP (hc c (by simp))
      cases e1
      refine ⟨xs :: su, by simp [e], .cons r1 e2, fun x hx => ?_⟩
      rcases List.mem_cons.1 hx with rfl | hx
      · exact ⟨r2, r3⟩
      · exact e3 x hx
  obtain ⟨su, e1, e2, e3⟩ := this cells h2
  have := h3 _ e2
  rw [e1] at this h1
  exact ⟨v, su, rfl, this, h1, e3⟩
theorem swp_slI (sz n : Nat) (k : IntKind) (xs : List Int) : PV.swp (.sl false false sz n (xs.map (PV.int k))) = .sl false false sz n (xs.map (PV.int k)) := by
  have e : xs.map (PV.swp ∘ PV.int k) = xs.map (PV.int k) := List.map_congr_left fun x _ => by simp [PV.swp]
  simp only [PV.swp, swpL_map, List.map_map, e]
theorem swpL_ints (k : IntKind) (xs : List Int) : swpL (xs.map (PV.int k)) = xs.map (PV.int k) := by
  rw [swpL_map, List.map_map]; exact List.map_congr_left fun x _ => by simp [PV.swp]
theorem swpL_slI (k : IntKind) (su : List (List Int)) : swpL (su.map (slI false false k)) = su.map (slI false false k) := by
  rw [swpL_map, List.map_map]; exact List.map_congr_left fun x _ => swp_slI 1 _ k x
theorem swpL_bools (xs : List Bool) : swpL (xs.map PV.bool) = xs.map PV.bool := by
  rw [swpL_map, List.map_map]; exact List.map_congr_left fun x _ => by simp [PV.swp]
attribute [irreducible] PKLaw
end Go.Am
set_option linter.unusedVariables false
set_option linter.unusedSimpArgs false
namespace Go.Am
theorem pidx_slice (fl : Bool) (b o n : Nat) (kd : IntKind) (j : Int) (K : AV → Prop) : PIdx 1 (.slice fl 1 b o n) (.int kd j) K = ((True ∧ 0 ≤ j ∧ j < n) ∧ K (.ptr b (o + j.toNat * 1))) := by
  unfold PIdx
  rw [PSlice_slice, PInt_int]
  simp
structure Ovr (w : PWd) (h h' : H) : Prop where
  next : h.next ≤ h'.next
  keep : ∀ x, x < h.next → x < w.n0 ∨ w.imm x = none → h'.get x = h.get x
  cells : ∀ x ver bcs, w.imm x = some (.cells ver true bcs) → w.n0 ≤ x → ∃ ver' bcs', h'.get x = some (.cells ver' true bcs') ∧ bcs'.length = bcs.length ∧ ∀ (i : Nat) (z : AV), bcs[i]? = some z → (∀ k n, z ≠ .int k n) → bcs'[i]? = some z
theorem Ovr.refl {w : PWd} {h : H} (hw : ∀ b o, w.imm b = some o → h.get b = some o) : Ovr w h h :=
  ⟨Nat.le_refl _, fun _ _ _ => rfl, fun x ver bcs hx _ => ⟨ver, bcs, hw x _ hx, rfl, fun i z hz _ => hz⟩⟩
theorem Ovr.alloc {w : PWd} {h h' : H} (hw : ∀ b o, w.imm b = some o → b < h.next) (hv : Ovr w h h') (o : AObj) : Ovr w h (h'.alloc o) :=
  ⟨Nat.le_trans hv.next (by simp), fun x hx hy => by rw [H.get_alloc, if_neg (by have := hv.next; omega)]; exact hv.keep x hx hy, fun x ver bcs hx hn => by
    obtain ⟨v2, b2, q1, q2, q3⟩ := hv.cells x ver bcs hx hn
    exact ⟨v2, b2, by rw [H.get_alloc, if_neg (by have := hv.next; have := hw x _ hx; omega)]; exact q1, q2, q3⟩⟩
structure Kp (w : PWd) (h h' : H) : Prop where
  next : h.next ≤ h'.next
  keep : ∀ x, x < h.next → x < w.n0 ∨ w.imm x = none → h'.get x = h.get x
theorem Kp.refl (w : PWd) (h : H) : Kp w h h := ⟨Nat.le_refl _, fun _ _ _ => rfl⟩
theorem Kp.trans {w : PWd} {a b c : H} (p : Kp w a b) (q : Kp w b c) : Kp w a c := ⟨Nat.le_trans p.next q.next, fun x hx ho => by rw [q.keep x (Nat.lt_of_lt_of_le hx p.next) ho, p.keep x hx ho]⟩
theorem Kp.alloc (w : PWd) (h : H) (o : AObj) : Kp w h (h.alloc o) := ⟨by simp, fun x hx _ => by rw [H.get_alloc, if_neg (by omega)]⟩
theorem Ovr.put {w : PWd} {h h' : H} (hw : ∀ b o, w.imm b = some o → b < h.next) (hv : Ovr w h h') {b ver : Nat} {bcs : List AV} (e1 : w.imm b = some (.cells ver true bcs)) (e2 : w.n0 ≤ b) {p : Nat} (hp : p < bcs.length) (x : AV) (hx : x.one = true) (hz : ∃ k n, bcs[p]? = some (.int k n)) :
    ∃ h2, putCells h' b p [x] = some h2 ∧ Ovr w h h2 ∧ Kp w h' h2 := by
  obtain ⟨v2, b2, q1, q2, q3⟩ := hv.cells b ver bcs e1 e2
  have hlen : (over b2 p [x]).length = b2.length := by rw [over_get _ _ _ (by simp; omega)]; simp; omega
  refine ⟨h'.set b (.cells (v2 + 1) true (over b2 p [x])), ?_, ⟨?_, ?_, ?_⟩, ⟨Nat.le_refl _, ?_⟩⟩
  · unfold putCells
    rw [q1]
    simp only [List.length_cons, List.length_nil, Nat.zero_add, List.all_cons, List.all_nil, hx, Bool.and_true]
    rw [if_pos (by simp; omega)]
  · exact hv.next
  · intro y hy ho
    have : y ≠ b := by
      rintro rfl
      rcases ho with ho | ho
      · omega
      · rw [e1] at ho; cases ho
    rw [H.get_set_ne this]; exact hv.keep y hy ho
  · intro y ver' bcs' hy hn
    by_cases e : y = b
    · subst e
      rw [e1] at hy; cases hy
      refine ⟨_, _, H.get_set_same q1, by rw [hlen, q2], fun i z hi hne => ?_⟩
      have hip : i ≠ p := by
        rintro rfl
        obtain ⟨k, n, hz⟩ := hz
        rw [hi] at hz; cases hz; exact hne _ _ rfl
      rw [over_get _ _ _ (by simp; omega)]
      have := q3 i z hi hne
      rcases Nat.lt_or_ge i p with q | q
      · rw [List.append_assoc, List.getElem?_append_left (by simp; omega), List.getElem?_take, if_pos q]; exact this
      · rw [List.getElem?_append_right (by simp; omega), List.getElem?_drop]
        simp only [List.length_append, List.length_take, List.length_cons, List.length_nil]
        rw [show p + (0 + 1) + (i - (min p b2.length + (0 + 1))) = i by omega]; exact this
    · obtain ⟨v3, b3, r1, r2, r3⟩ := hv.cells y ver' bcs' hy hn
      exact ⟨v3, b3, by rw [H.get_set_ne e]; exact r1, r2, r3⟩
  · intro y hy ho
    have : y ≠ b := by
      rintro rfl
      rcases ho with ho | ho
      · omega
      · rw [e1] at ho; cases ho
    exact H.get_set_ne this
theorem ov_sl {w : PWd} {f : Bool} {cs : List PV} {n : Nat} {v : AV} (hr : RepV w (.sl f true 1 n cs) v) : (v = .nilslice ∧ n = 0) ∨ ∃ fl b off ver bcs, v = .slice fl 1 b off n ∧ w.imm b = some (.cells ver true bcs) ∧ w.n0 ≤ b ∧ off + cs.length ≤ bcs.length ∧ ∀ (i : Nat), i < cs.length → ∃ y z, cs[i]? = some y ∧ bcs[off + i]? = some z ∧ RepV w y z := by
  cases hr with
  | slN => exact .inl ⟨rfl, rfl⟩
  | sl h1 h2 h3 h4 h5 h7 h6 =>
    obtain ⟨h5', rfl⟩ := h5 rfl
    refine .inr ⟨_, _, _, _, _, rfl, h1, h5', h2, fun i hi => ?_⟩
    have hi2 : _ + i < _ := Nat.lt_of_lt_of_le (Nat.add_lt_add_left hi _) h2
    exact ⟨cs[i], _, List.getElem?_eq_getElem hi, List.getElem?_eq_getElem hi2, h6 i _ _ (List.getElem?_eq_getElem hi) (List.getElem?_eq_getElem hi2)⟩
theorem ov_int {w : PWd} {k : IntKind} {xs : List Int} {i : Nat} {y : PV} {z : AV} (h1 : (xs.map (PV.int k))[i]? = some y) (h2 : RepV w y z) : ∃ k n, z = .int k n := by
  rw [List.getElem?_map] at h1
  cases hx : xs[i]? with
  | none => rw [hx] at h1; cases h1
  | some x => rw [hx] at h1; cases h1; exact ⟨k, x, rep_int h2⟩
section
variable {tab : FuncId → Option AF}
def OverOk (tab : FuncId → Option AF) (g : FuncId) (pargs : List PV) : Prop :=
  ∀ (w : PWd) (h h1 : H) (args' : List AV), (∀ b o, w.imm b = some o → b < h.next) → RepL w pargs args' → Ovr w h h1 →
    C (lim tab) g args' h1 fun _ h2 => Ovr w h h2 ∧ Kp w h1 h2
def OvrTop (tab : FuncId → Option AF) (c : AC) (a : List PV) (M : Mem) (Qn Qr : List PV → Mem → Prop) : Prop :=
  ∀ (w : PWd) (h h1 : H) (a' : List AV), PSt w h M → RepL w a a' → Ovr w h h1 → W (lim tab) c a' h1 (LfT Qn) (LfT Qr) (fun _ _ _ => False)
theorem OvrTop_start {c : AC} {a : List PV} {M : Mem} {Qn Qr : List PV → Mem → Prop} (h : OvrTop tab c a M Qn Qr) : Top tab c a M Qn Qr :=
  fun w hh a' s ha => h w hh hh a' s ha (.refl s.imm)
theorem OvrTop_over1 {g : FuncId} {y : AC} {a : List PV} {M : Mem} {Qn Qr : List PV → Mem → Prop} {d1 : Nat} {d2 : Option Nat} {p : Nat} {v : PV} {c1 c2 : List Nat}
    (hp : ptget a p = v) (hd : ptget (ptset a d1 v) d1 = v) (ho : OverOk tab g [v]) (hq : OvrTop tab y (pput (ptset a d1 .junk) d2 .junk) M Qn Qr) :
    OvrTop tab (.seq (.region [⟨some d1, .move (.tmp p), none, c1⟩, ⟨d2, .call (.const (.func (.func g) [] [])) [.tmp d1], none, c2⟩]) y) a M Qn Qr := by
  intro w hh h1 a' s ha hv
  rw [W_seq, W_region, WO_none, WS_move, KPut_eq, WO_none, WS_call]
  have hx := ha.tget p
  rw [hp] at hx
  have hf : ev (put a' (some d1) (ev a' (.tmp p))) (.const (.func (.func g) [] [])) = .func (.func g) [] [] := rfl
  rw [hf, PCall_func]
  have ha1 := ha.tset d1 hx
  have harg : RepL w [v] ([] ++ List.map (ev (put a' (some d1) (ev a' (.tmp p)))) [.tmp d1] ++ []) := by
    have h1 := ha1.tget d1
    rw [hd] at h1
    exact .cons h1 (.nil w)
  refine C_mono (ho w hh h1 _ (fun b o hb => s.immLt hb) harg hv) ?_
  rintro v2 h2 ⟨hv2, _⟩
  rw [KCall_eq, KPut_eq, WO_nil, KSeq_eq]
  exact hq w hh h2 _ s ((ha.tset d1 (v := .junk) (x := ev a' (.tmp p)) (.junk _)).put d2 (.junk _)) hv2
theorem OvrTop_end {c : AC} {a b : List PV} {M N : Mem} {Qn Qr : List PV → Mem → Prop} (ha : swpL a = b) (hM : M.map (PObj.mapC swpL) = N) (hq : Top tab c b N Qn Qr) : OvrTop tab c a M Qn Qr := by
  subst ha hM
  intro w hh h' a' s ha hv
  let w2 : PWd := { w with imm := fun b => if b < w.n0 then w.imm b else none }
  have hi : ∀ b o, w.imm b = some o → b < w.n0 → w2.imm b = some o := fun b o hb hlt => by show (if _ then _ else _) = _; rw [if_pos hlt]; exact hb
  have rl : ∀ {l : List PV} {l' : List AV}, RepL w l l' → RepL w2 (swpL l) l' := fun h => h.swp (w := w) (w' := w2) rfl hi (fun _ _ h => h)
  refine hq w2 h' a' ⟨?_, fun i e he => by simpa using s.env i e he, fun i e b he hb => Nat.lt_of_lt_of_le (s.blk i e b he hb) hv.next, ?_, fun i j x h1 h2 => s.inj i j x (mapC_live (w := w) (fun _ => rfl) h1) (mapC_live (w := w) (fun _ => rfl) h2), ?_, Nat.le_trans s.base hv.next⟩ (rl ha)
  · intro x ob hx
    have hx : (if x < w.n0 then w.imm x else none) = some ob := hx
    split at hx
    · rename_i hlt; rw [hv.keep x (Nat.lt_of_lt_of_le hlt s.base) (.inl hlt)]; exact s.imm x ob hx
    · cases hx
  · intro i ob hob
    obtain ⟨o0, h1, rfl⟩ := mapC_get hob
    have r := s.obj i o0 h1
    cases o0 with
    | cells g ver cs =>
      obtain ⟨e, p1, p2, p3⟩ := r
      refine ⟨e, p1, p2, ?_⟩
      cases hbl : e.blk with
      | none =>
        rw [hbl] at p3
        have p3 : cs = [] := p3
        subst p3
        show swpL [] = []
        simp [swpL]
      | some b2 =>
        rw [hbl] at p3
        obtain ⟨bcs2, p4, p5⟩ := p3
        exact ⟨bcs2, by rw [hv.keep b2 (s.blk i e b2 p1 hbl) (.inr (s.sep i b2 ⟨_, e, h1, by simp, p1, hbl⟩).1)]; exact p4, rl p5⟩
    | _ => trivial
  · intro i x hl
    have hl := mapC_live (w := w) (w' := w2) (fun _ => rfl) hl
    refine ⟨?_, (s.sep i x hl).2⟩
    show (if _ then _ else _) = _
    split
    · exact (s.sep i x hl).1
    · rfl
end
end Go.Am

