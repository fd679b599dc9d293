/- The pure machine: laws. Statement by statement; the present becomes old; results are overwritten, and what goes with it. -/
import Derived.Test.YtgapkfaikhlipaaPmR
import Derived.Test.YtgapkfaikhlipaaAmArgs
set_option linter.unusedVariables false
set_option linter.unusedSimpArgs false
namespace Go.Am
theorem RepV.eqv {w w' : PWd} (h0 : w'.n0 = w.n0) (hi : ∀ b o, w.imm b = some o → w'.imm b = some o) (he : ∀ id e, w.env id = some e → w'.env id = some e) {v : PV} {x : AV} (h : RepV w v x) : RepV w' v x := by
  induction h with
  | junk x => exact .junk x
  | bool b => exact .bool b
  | int k n => exact .int k n
  | str s => exact .str s
  | nilptr => exact .nilptr
  | nils => exact .nils
  | nilmap => exact .nilmap
  | nilfunc => exact .nilfunc
  | niliface => exact .niliface
  | ptr h1 h2 h3 => exact .ptr (he _ _ h1) h2 h3
  | ptrS x q h1 h2 => exact .ptrS x q (he _ _ h1) h2
  | cp h1 h2 h3 ih => exact .cp (hi _ _ h1) h2 (fun i y z p q => ih i y z p q)
  | sl h1 h2 h3 h4 h5 h7 h6 ih => exact .sl (hi _ _ h1) h2 h3 h4 (by rw [h0]; exact h5) (by rw [h0]; exact h7) (fun i y z p q => ih i y z p q)
  | slN => exact .slN
  | ref h1 h2 h3 => exact .ref (he _ _ h1) h2 h3
  | refN h1 h2 h3 => exact .refN (he _ _ h1) h2 h3
  | refS x q h1 h2 => exact .refS x q (he _ _ h1) h2
  | map h1 h2 h3 => exact .map (he _ _ h1) h2 h3
  | mapS x q h1 h2 => exact .mapS x q (he _ _ h1) h2
  | func h1 h2 h3 h4 h5 ih1 ih2 => exact .func h1 h2 h3 (fun i y z p q => ih1 i y z p q) (fun i y z p q => ih2 i y z p q)
  | yld h1 h2 h3 h4 h5 ih => exact .yld (he _ _ h1) h2 h3 h4 (fun i y z p q => ih i y z p q)
  | yldS x q h1 h2 => exact .yldS x q (he _ _ h1) h2
  | iface h ih => exact .iface ih
  | agg h1 h2 ih => exact .agg h1 (fun i y z p q => ih i y z p q)
  | tuple h1 h2 ih => exact .tuple h1 (fun i y z p q => ih i y z p q)
theorem RepL.eqv {w w' : PWd} (h0 : w'.n0 = w.n0) (hi : ∀ b o, w.imm b = some o → w'.imm b = some o) (he : ∀ id e, w.env id = some e → w'.env id = some e) {l : List PV} {l' : List AV} (h : RepL w l l') : RepL w' l l' :=
  ⟨h.len, fun i y z p q => (h.get i y z p q).eqv h0 hi he⟩
def PObj.mapC (f : List PV → List PV) : PObj → PObj
  | .cells g ver cs => .cells g ver (f cs)
  | _ => .gone
theorem mapC_get {f : List PV → List PV} {M : Mem} {id : Nat} {o : PObj} (h : (M.map (PObj.mapC f))[id]? = some o) : ∃ o0, M[id]? = some o0 ∧ o = o0.mapC f := by
  rw [List.getElem?_map] at h
  cases hl : M[id]? with
  | none => rw [hl] at h; cases h
  | some z => rw [hl] at h; cases h; exact ⟨z, rfl, rfl⟩
theorem mapC_live {f : List PV → List PV} {w w' : PWd} {M : Mem} (he : ∀ id, w'.env id = w.env id) {id x : Nat} (h : LiveAt w' (M.map (PObj.mapC f)) id x) : LiveAt w M id x := by
  obtain ⟨o, e, h1, h2, h3, h4⟩ := h
  obtain ⟨o0, h5, rfl⟩ := mapC_get h1
  rw [he] at h3
  refine ⟨o0, e, h5, ?_, h3, h4⟩
  rintro rfl
  exact h2 rfl
section
variable (tab : FuncId → Option AF)
def LfT (Q : List PV → Mem → Prop) (a' : List AV) (h' : H) : Prop := ∃ w a M, PSt w h' M ∧ RepL w a a' ∧ Q a M
def Top (c : AC) (a : List PV) (M : Mem) (Qn Qr : List PV → Mem → Prop) : Prop :=
  ∀ (w : PWd) (h : H) (a' : List AV), PSt w h M → RepL w a a' → W (lim tab) c a' h (LfT Qn) (LfT Qr) (fun _ _ _ => False)
variable {tab}
def wH (h : H) : PWd := ⟨h.next, 0, fun _ => none, h.get⟩
theorem wH_st (h : H) : PSt (wH h) h [] :=
  ⟨fun b o hb => hb, (fun id e he => by cases he), (fun id e b he => by cases he), (fun id o ho => by simp at ho), fun i j x ⟨_, _, h1, _⟩ => by simp at h1, fun i x ⟨_, _, h1, _⟩ => by simp at h1, Nat.le_refl _⟩
def PKLaw (res : List ARes) (a : List PV) (M : Mem) : Prop := PKRes res a M fun vs => ppack vs = .bool true
theorem law_of_top {g : FuncId} {F : AFn} (hg : tab g = some (.fn F)) {pargs : List PV} {args' : List AV} {h : H} (ha : RepL (wH h) pargs args') (ht : Top tab F.body (ppad pargs F.ntmps) [] (PKLaw F.results) (PKLaw F.results)) :
    C (lim tab) g args' h fun v _ => v = .bool true := by
  rw [C_fn hg]
  have fin : ∀ a1 h1, LfT (PKLaw F.results) a1 h1 → KRes F.results (fun v _ => v = .bool true) a1 h1 := by
    rintro a1 h1 ⟨w1, b, N, s1, r1, q⟩
    obtain ⟨vs, vs', e1, e2, e3⟩ := res_sound s1 r1 F.results q
    rw [KRes_eq]
    have := rep_pack e2
    rw [e3] at this
    exact ⟨vs', e1, rep_bool this⟩
  exact W_mono (ht (wH h) h _ (wH_st h) (rep_pad ha _)) fin fin (fun i a1 h1 q => q.elim)
end
theorem sh_sl {E : Ty} (hE : E.size = 1) {cs : List AV} {h : H} (hs : Sh (.slice E) cs h) : ∃ v cells, cs = [v] ∧ cells.length ≤ 9223372036854775807 ∧ (∀ c ∈ cells, Sh E [c] h) ∧
    ∀ (pcs : List PV), RepL (wH h) pcs cells → RepV (wH h) (.sl false false 1 cells.length pcs) v := by
  rcases hs with rfl | ⟨b, n, cells, rfl, h2, h3, h4, h5⟩
  · refine ⟨.nilslice, [], rfl, by simp, (fun c hc => by cases hc), fun pcs hp => ?_⟩
    have : pcs = [] := List.length_eq_zero_iff.1 (by simpa using hp.len)
    subst this
    exact .slN
  · rw [hE, Nat.mul_one] at h4
    subst h4
    rw [hE]
    refine ⟨_, cells, rfl, by simpa [maxLen] using h2, fun c hc => ?_, fun pcs hp => ?_⟩
    · obtain ⟨i, hi, rfl⟩ := List.getElem_of_mem hc
      have := h5 i hi
      rw [hE, Nat.mul_one, List.drop_eq_getElem_cons hi] at this
      exact this
    · exact .sl (show (wH h).imm b = _ from h3) (by have := hp.len; omega) (by have := hp.len; omega) (fun q => by cases q) (fun q => by cases q) (fun _ _ => H.lt_of_get h3) (fun i y z p q => hp.get i y z p (by simpa using q))
theorem sh_intsP {k : IntKind} {cs : List AV} {h : H} (hs : Sh (.slice (.int k)) cs h) : ∃ v, ∃ xs : List Int, cs = [v] ∧ RepV (wH h) (slI false false k xs) v ∧ xs.length ≤ 9223372036854775807 ∧ ∀ x ∈ xs, k.min ≤ x ∧ x ≤ k.max := by
  obtain ⟨v, cells, rfl, h1, h2, h3⟩ := sh_sl rfl hs
  have : ∀ cells : List AV, (∀ c ∈ cells, Sh (.int k) [c] h) → ∃ xs : List Int, cells = xs.map (AV.int k) ∧ ∀ x ∈ xs, k.min ≤ x ∧ x ≤ k.max := by
    intro cells
    induction cells with
    | nil => intro _; exact ⟨[], rfl, fun x hx => by cases hx⟩
    | cons c cells ih =>
      intro hc
      obtain ⟨xs, e, e2⟩ := ih (fun c' h' => hc c' (List.mem_cons_of_mem _ h'))
      obtain ⟨n, e1, r1, r2⟩ := hc c (by simp)
      cases e1
      refine ⟨n :: xs, by simp [e], fun x hx => ?_⟩
      rcases List.mem_cons.1 hx with rfl | hx
      · exact ⟨r1, r2⟩
      · exact e2 x hx
  obtain ⟨xs, rfl, hr⟩ := this cells h2
  refine ⟨v, xs, rfl, ?_, by simpa using h1, hr⟩
  have := h3 (xs.map (PV.int k)) ⟨by simp, fun i y z p q => by
    rw [List.getElem?_map] at p q
    cases hx : xs[i]? with
    | none => rw [hx] at p; cases p
    | some x => rw [hx] at p q; cases p; cases q; exact .int k x⟩
  simpa using this
theorem sh_rowsP {k : IntKind} {cs : List AV} {h : H} (hs : Sh (.slice (.slice (.int k))) cs h) : ∃ v, ∃ su : List (List Int), cs = [v] ∧ RepV (wH h) (slR false false false false k su) v ∧ su.length ≤ 9223372036854775807 ∧ ∀ r ∈ su, r.length ≤ 9223372036854775807 ∧ ∀ x ∈ r, k.min ≤ x ∧ x ≤ k.max := by
  obtain ⟨v, cells, rfl, h1, h2, h3⟩ := sh_sl rfl hs
  have : ∀ cells : List AV, (∀ c ∈ cells, Sh (.slice (.int k)) [c] h) → ∃ su : List (List Int), cells.length = su.length ∧ RepL (wH h) (su.map (slI false false k)) cells ∧ ∀ r ∈ su, r.length ≤ 9223372036854775807 ∧ ∀ x ∈ r, k.min ≤ x ∧ x ≤ k.max := by
    intro cells
    induction cells with
    | nil => intro _; exact ⟨[], rfl, .nil _, fun x hx => by cases hx⟩
    | cons c cells ih =>
      intro hc
      obtain ⟨su, e, e2, e3⟩ := ih (fun c' h' => hc c' (List.mem_cons_of_mem _ h'))
      obtain ⟨v, xs, e1, r1, r2, r3⟩ := sh_intsP (hc c (by simp))
      cases e1
      refine ⟨xs :: su, by simp [e], .cons r1 e2, fun x hx => ?_⟩
      rcases List.mem_cons.1 hx with rfl | hx
      · exact ⟨r2, r3⟩
      · exact e3 x hx
  obtain ⟨su, e1, e2, e3⟩ := this cells h2
  have := h3 _ e2
  rw [e1] at this h1
  exact ⟨v, su, rfl, this, h1, e3⟩
attribute [irreducible] PKLaw
end Go.Am
set_option linter.unusedVariables false
set_option linter.unusedSimpArgs false
namespace Go.Am
theorem pidx_slice (fl : Bool) (b o n : Nat) (kd : IntKind) (j : Int) (K : AV → Prop) : PIdx 1 (.slice fl 1 b o n) (.int kd j) K = ((True ∧ 0 ≤ j ∧ j < n) ∧ K (.ptr b (o + j.toNat * 1))) := by
  unfold PIdx
  rw [PSlice_slice, PInt_int]
  simp
structure Ovr (w : PWd) (h h' : H) : Prop where
  next : h.next ≤ h'.next
  keep : ∀ x, x < h.next → x < w.n0 ∨ w.imm x = none → h'.get x = h.get x
  cells : ∀ x ver bcs, w.imm x = some (.cells ver true bcs) → w.n0 ≤ x → ∃ ver' bcs', h'.get x = some (.cells ver' true bcs') ∧ bcs'.length = bcs.length ∧ ∀ (i : Nat) (z : AV), bcs[i]? = some z → (∀ k n, z ≠ .int k n) → bcs'[i]? = some z
theorem Ovr.refl {w : PWd} {h : H} (hw : ∀ b o, w.imm b = some o → h.get b = some o) : Ovr w h h :=
  ⟨Nat.le_refl _, fun _ _ _ => rfl, fun x ver bcs hx _ => ⟨ver, bcs, hw x _ hx, rfl, fun i z hz _ => hz⟩⟩
theorem Ovr.alloc {w : PWd} {h h' : H} (hw : ∀ b o, w.imm b = some o → b < h.next) (hv : Ovr w h h') (o : AObj) : Ovr w h (h'.alloc o) :=
  ⟨Nat.le_trans hv.next (by simp), fun x hx hy => by rw [H.get_alloc, if_neg (by have := hv.next; omega)]; exact hv.keep x hx hy, fun x ver bcs hx hn => by
    obtain ⟨v2, b2, q1, q2, q3⟩ := hv.cells x ver bcs hx hn
    exact ⟨v2, b2, by rw [H.get_alloc, if_neg (by have := hv.next; have := hw x _ hx; omega)]; exact q1, q2, q3⟩⟩
structure Kp (w : PWd) (h h' : H) : Prop where
  next : h.next ≤ h'.next
  keep : ∀ x, x < h.next → x < w.n0 ∨ w.imm x = none → h'.get x = h.get x
theorem Kp.refl (w : PWd) (h : H) : Kp w h h := ⟨Nat.le_refl _, fun _ _ _ => rfl⟩
theorem Kp.trans {w : PWd} {a b c : H} (p : Kp w a b) (q : Kp w b c) : Kp w a c := ⟨Nat.le_trans p.next q.next, fun x hx ho => by rw [q.keep x (Nat.lt_of_lt_of_le hx p.next) ho, p.keep x hx ho]⟩
theorem Kp.alloc (w : PWd) (h : H) (o : AObj) : Kp w h (h.alloc o) := ⟨by simp, fun x hx _ => by rw [H.get_alloc, if_neg (by omega)]⟩
theorem Ovr.put {w : PWd} {h h' : H} (hw : ∀ b o, w.imm b = some o → b < h.next) (hv : Ovr w h h') {b ver : Nat} {bcs : List AV} (e1 : w.imm b = some (.cells ver true bcs)) (e2 : w.n0 ≤ b) {p : Nat} (hp : p < bcs.length) (x : AV) (hx : x.one = true) (hz : ∃ k n, bcs[p]? = some (.int k n)) :
    ∃ h2, putCells h' b p [x] = some h2 ∧ Ovr w h h2 ∧ Kp w h' h2 := by
  obtain ⟨v2, b2, q1, q2, q3⟩ := hv.cells b ver bcs e1 e2
  have hlen : (over b2 p [x]).length = b2.length := by rw [over_get _ _ _ (by simp; omega)]; simp; omega
  refine ⟨h'.set b (.cells (v2 + 1) true (over b2 p [x])), ?_, ⟨?_, ?_, ?_⟩, ⟨Nat.le_refl _, ?_⟩⟩
  · unfold putCells
    rw [q1]
    simp only [List.length_cons, List.length_nil, Nat.zero_add, List.all_cons, List.all_nil, hx, Bool.and_true]
    rw [if_pos (by simp; omega)]
  · exact hv.next
  · intro y hy ho
    have : y ≠ b := by
      rintro rfl
      rcases ho with ho | ho
      · omega
      · rw [e1] at ho; cases ho
    rw [H.get_set_ne this]; exact hv.keep y hy ho
  · intro y ver' bcs' hy hn
    by_cases e : y = b
    · subst e
      rw [e1] at hy; cases hy
      refine ⟨_, _, H.get_set_same q1, by rw [hlen, q2], fun i z hi hne => ?_⟩
      have hip : i ≠ p := by
        rintro rfl
        obtain ⟨k, n, hz⟩ := hz
        rw [hi] at hz; cases hz; exact hne _ _ rfl
      rw [over_get _ _ _ (by simp; omega)]
      have := q3 i z hi hne
      rcases Nat.lt_or_ge i p with q | q
      · rw [List.append_assoc, List.getElem?_append_left (by simp; omega), List.getElem?_take, if_pos q]; exact this
      · rw [List.getElem?_append_right (by simp; omega), List.getElem?_drop]
        simp only [List.length_append, List.length_take, List.length_cons, List.length_nil]
        rw [show p + (0 + 1) + (i - (min p b2.length + (0 + 1))) = i by omega]; exact this
    · obtain ⟨v3, b3, r1, r2, r3⟩ := hv.cells y ver' bcs' hy hn
      exact ⟨v3, b3, by rw [H.get_set_ne e]; exact r1, r2, r3⟩
  · intro y hy ho
    have : y ≠ b := by
      rintro rfl
      rcases ho with ho | ho
      · omega
      · rw [e1] at ho; cases ho
    exact H.get_set_ne this
theorem ov_sl {w : PWd} {f : Bool} {cs : List PV} {n : Nat} {v : AV} (hr : RepV w (.sl f true 1 n cs) v) : (v = .nilslice ∧ n = 0) ∨ ∃ fl b off ver bcs, v = .slice fl 1 b off n ∧ w.imm b = some (.cells ver true bcs) ∧ w.n0 ≤ b ∧ off + cs.length ≤ bcs.length ∧ ∀ (i : Nat), i < cs.length → ∃ y z, cs[i]? = some y ∧ bcs[off + i]? = some z ∧ RepV w y z := by
  cases hr with
  | slN => exact .inl ⟨rfl, rfl⟩
  | sl h1 h2 h3 h4 h5 h7 h6 =>
    obtain ⟨h5', rfl⟩ := h5 rfl
    refine .inr ⟨_, _, _, _, _, rfl, h1, h5', h2, fun i hi => ?_⟩
    have hi2 : _ + i < _ := Nat.lt_of_lt_of_le (Nat.add_lt_add_left hi _) h2
    exact ⟨cs[i], _, List.getElem?_eq_getElem hi, List.getElem?_eq_getElem hi2, h6 i _ _ (List.getElem?_eq_getElem hi) (List.getElem?_eq_getElem hi2)⟩
theorem ov_int {w : PWd} {k : IntKind} {xs : List Int} {i : Nat} {y : PV} {z : AV} (h1 : (xs.map (PV.int k))[i]? = some y) (h2 : RepV w y z) : ∃ k n, z = .int k n := by
  rw [List.getElem?_map] at h1
  cases hx : xs[i]? with
  | none => rw [hx] at h1; cases h1
  | some x => rw [hx] at h1; cases h1; exact ⟨k, x, rep_int h2⟩
section
variable {tab : FuncId → Option AF}
def OverOk (tab : FuncId → Option AF) (g : FuncId) (pargs : List PV) : Prop :=
  ∀ (w : PWd) (h h1 : H) (args' : List AV), (∀ b o, w.imm b = some o → b < h.next) → RepL w pargs args' → Ovr w h h1 →
    C (lim tab) g args' h1 fun _ h2 => Ovr w h h2 ∧ Kp w h1 h2
end
end Go.Am

