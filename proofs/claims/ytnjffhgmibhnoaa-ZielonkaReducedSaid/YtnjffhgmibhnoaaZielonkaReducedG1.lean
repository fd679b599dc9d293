/- Plain law: strongly connected components (parity.graph.components): no cycle is split, and what goes with it. -/
import Derived.Test.YtnjffhgmibhnoaaZielonkaReducedG0
import Derived.Test.YtnjffhgmibhnoaaPmC
set_option linter.unusedVariables false
namespace Go.Am.Ar
abbrev gI (l : List Int) (v : Nat) : Int := l.getD v 0
structure TI (n : Nat) (A : Nat → Prop) (S : Nat → List Nat) (ix : List Int) (dn : List Bool) (st : List Nat) (cl : Int) (ps : List (List Nat)) : Prop where
  li : ix.length = n
  ld : dn.length = n
  c0 : 0 ≤ cl
  sn : ∀ v ∈ st, v < n ∧ A v ∧ ¬ bm dn v
  sx : ∀ v ∈ st, 0 < gI ix v ∧ gI ix v ≤ cl
  rise : st.Pairwise fun a b => gI ix a < gI ix b
  vis : ∀ v, v < n → ¬ gI ix v = 0 → v ∈ st ∨ bm dn v
  dx : ∀ v, bm dn v → 0 < gI ix v ∧ gI ix v ≤ cl
  dps : ∀ v, bm dn v ↔ ∃ P, P ∈ ps ∧ v ∈ P
  dis : ps.Pairwise fun P Q => ∀ v ∈ P, v ∉ Q
  pA : ∀ P ∈ ps, ∀ v ∈ P, v < n ∧ A v
  edge : ∀ (i : Nat) (P : List Nat), ps[i]? = some P → ∀ v ∈ P, ∀ u ∈ S v, A u → ∃ (j : Nat) (Q : List Nat), j ≤ i ∧ ps[j]? = some Q ∧ u ∈ Q
def EdOk (A : Nat → Prop) (ix : List Int) (dn : List Bool) (st : List Nat) (b : Int) (t : Nat) : Prop := A t → bm dn t ∨ (t ∈ st ∧ b ≤ gI ix t)
structure VT (n : Nat) (A : Nat → Prop) (S : Nat → List Nat) (s : Nat) (ix lo : List Int) (dn : List Bool) (st : List Nat) (cl : Int) (ix' lo' : List Int) (dn' : List Bool) (st' : List Nat) (cl' : Int) (ps' : List (List Nat)) : Prop where
  ti : TI n A S ix' dn' st' cl' ps'
  ll : lo'.length = n
  keep : ∀ v, ¬ gI ix v = 0 → gI ix' v = gI ix v ∧ gI lo' v = gI lo v
  clk : cl ≤ cl'
  dup : ∀ v, bm dn v → bm dn' v
  vs : ¬ gI ix' s = 0
  ext : ∃ ext, st' = st ++ ext ∧ (∀ u ∈ ext, cl < gI ix' u) ∧ ((ext = [] ∧ bm dn' s ∧ cl < gI lo' s) ∨ (s ∈ ext ∧ (∃ w, w ∈ st ∧ gI lo' s = gI ix w) ∧ ∀ u ∈ ext, ∀ t ∈ S u, EdOk A ix' dn' st' (gI lo' s) t))
structure MT (n : Nat) (A : Nat → Prop) (S : Nat → List Nat) (s : Nat) (ix0 lo0 : List Int) (dn0 : List Bool) (st0 : List Nat) (cl0 : Int) (dt : List Nat) (ix lo : List Int) (dn : List Bool) (e : List Nat) (cl : Int) (ps : List (List Nat)) : Prop where
  ti : TI n A S ix dn (st0 ++ s :: e) cl ps
  ll : lo.length = n
  keep : ∀ v, ¬ gI ix0 v = 0 → gI ix v = gI ix0 v ∧ gI lo v = gI lo0 v
  clk : cl0 ≤ cl
  s0 : gI ix0 s = 0
  dup : ∀ v, bm dn0 v → bm dn v
  is : gI ix s = cl0 + 1
  lo1 : gI lo s = gI ix s ∨ ∃ w, w ∈ st0 ∧ gI lo s = gI ix0 w
  lo2 : gI lo s ≤ gI ix s
  old : ∀ v ∈ st0, ¬ gI ix0 v = 0 ∧ gI ix0 v ≤ cl0
  new : ∀ u ∈ e, cl0 < gI ix u
  ed : ∀ u ∈ e, ∀ t ∈ S u, EdOk A ix dn (st0 ++ s :: e) (gI lo s) t
  es : ∀ t ∈ dt, EdOk A ix dn (st0 ++ s :: e) (gI lo s) t
theorem gI_set {a : List Int} {k v : Nat} {x : Int} (hk : k < a.length) : gI (a.set k x) v = if v = k then x else gI a v := by
  by_cases e : v = k
  · subst e
    rw [if_pos rfl]
    show (a.set v x)[v]?.getD 0 = x
    rw [List.getElem?_set_self hk]; rfl
  · rw [if_neg e]
    show (a.set k x)[v]?.getD 0 = a[v]?.getD 0
    rw [List.getElem?_set_ne (Ne.symm e)]
section
variable {n s t : Nat} {A : Nat → Prop} {S : Nat → List Nat} {ix0 lo0 ix lo ix' lo' : List Int} {dn0 dn dn' : List Bool} {st0 st' e dt : List Nat} {cl0 cl cl' : Int} {ps ps' : List (List Nat)}
theorem EdOk.low {st : List Nat} {b b' : Int} (h : EdOk A ix dn st b t) (hb : b' ≤ b) : EdOk A ix dn st b' t := fun q => (h q).imp id fun z => ⟨z.1, by omega⟩
theorem MT.start (T : TI n A S ix0 dn0 st0 cl0 ps) (hs : s < n) (hA : A s) (h0 : gI ix0 s = 0) (hl : lo0.length = n) : MT n A S s ix0 lo0 dn0 st0 cl0 [] (ix0.set s (cl0 + 1)) (lo0.set s (cl0 + 1)) dn0 [] (cl0 + 1) ps := by
  have c0 := T.c0
  have gx := fun v => gI_set (a := ix0) (k := s) (v := v) (x := cl0 + 1) (by rw [T.li]; exact hs)
  have gl := fun v => gI_set (a := lo0) (k := s) (v := v) (x := cl0 + 1) (by rw [hl]; exact hs)
  have ns : ∀ v, ¬ gI ix0 v = 0 → ¬ v = s := fun v h e => h (by rw [e]; exact h0)
  have nd : ¬ bm dn0 s := fun h => by have := (T.dx s h).1; omega
  have nst : s ∉ st0 := fun h => by have := (T.sx s h).1; omega
  refine ⟨⟨by simp [T.li], T.ld, by omega, fun v hv => ?_, fun v hv => ?_, ?_, fun v hv h => ?_, fun v hv => ?_, T.dps, T.dis, T.pA, T.edge⟩, by simp [hl], fun v hv => ?_, by omega, h0, fun v h => h, by rw [gx, if_pos rfl], .inl (by rw [gl, gx, if_pos rfl, if_pos rfl]), (by rw [gl, gx, if_pos rfl, if_pos rfl]; exact Int.le_refl _), (fun v hv => by have := T.sx v hv; omega), (fun u hu => by cases hu), (fun u hu => by cases hu), (fun u hu => by cases hu)⟩
  · rcases List.mem_append.1 hv with q | q
    · exact T.sn v q
    · rw [List.mem_singleton] at q; subst q; exact ⟨hs, hA, nd⟩
  · rcases List.mem_append.1 hv with q | q
    · have := T.sx v q
      rw [gx, if_neg (fun e : v = s => nst (e ▸ q))]; omega
    · rw [List.mem_singleton] at q; subst q; rw [gx, if_pos rfl]; omega
  · refine List.pairwise_append.2 ⟨T.rise.imp_of_mem fun {a b} ha hb h => ?_, List.pairwise_singleton _ _, fun a ha b hb => ?_⟩
    · rw [gx, gx, if_neg (fun e : a = s => nst (e ▸ ha)), if_neg (fun e : b = s => nst (e ▸ hb))]; exact h
    · rw [List.mem_singleton] at hb; subst hb
      have := T.sx a ha
      rw [gx, gx, if_neg (fun e : a = b => nst (e ▸ ha)), if_pos rfl]; omega
  · by_cases q : v = s
    · subst q; exact .inl (by simp)
    · rw [gx, if_neg q] at h
      exact (T.vis v hv h).imp (fun z => List.mem_append.2 (.inl z)) id
  · have := T.dx v hv
    rw [gx, if_neg (fun e : v = s => nd (e ▸ hv))]; omega
  · rw [gx, gl, if_neg (ns v hv), if_neg (ns v hv)]; exact ⟨rfl, rfl⟩
theorem MT.skip (m : MT n A S s ix0 lo0 dn0 st0 cl0 dt ix lo dn e cl ps) (h : A t → bm dn t) : MT n A S s ix0 lo0 dn0 st0 cl0 (dt ++ [t]) ix lo dn e cl ps :=
  ⟨m.ti, m.ll, m.keep, m.clk, m.s0, m.dup, m.is, m.lo1, m.lo2, m.old, m.new, m.ed, fun u hu => by
      rcases List.mem_append.1 hu with q | q
      · exact m.es u q
      · rw [List.mem_singleton] at q; subst q; exact fun z => .inl (h z)⟩
theorem MT.s_lt (m : MT n A S s ix0 lo0 dn0 st0 cl0 dt ix lo dn e cl ps) : s < n := (m.ti.sn s (by simp)).1
theorem MT.back {mn : Int} (m : MT n A S s ix0 lo0 dn0 st0 cl0 dt ix lo dn e cl ps) (ht : t ∈ st0 ++ s :: e) (h1 : mn ≤ gI lo s) (h2 : mn ≤ gI ix t) (h3 : mn = gI lo s ∨ mn = gI ix t) : MT n A S s ix0 lo0 dn0 st0 cl0 (dt ++ [t]) ix (lo.set s mn) dn e cl ps := by
  have gl := fun v => gI_set (a := lo) (k := s) (v := v) (x := mn) (by rw [m.ll]; exact m.s_lt)
  have els : gI (lo.set s mn) s = mn := by rw [gl, if_pos rfl]
  have l1 := m.lo1
  have l2 := m.lo2
  have his := m.is
  refine ⟨m.ti, by simp [m.ll], fun v hv => ?_, m.clk, m.s0, m.dup, his, ?_, by rw [els]; omega, m.old, m.new, fun u hu x hx => (m.ed u hu x hx).low (by rw [els]; exact h1), fun u hu => ?_⟩
  · obtain ⟨k1, k2⟩ := m.keep v hv
    rw [gl, if_neg (fun e : v = s => hv (by rw [e]; exact m.s0))]
    exact ⟨k1, k2⟩
  · rw [els]
    rcases h3 with h3 | h3
    · rw [h3]; exact l1
    · rcases List.mem_append.1 ht with q | q
      · have ho := m.old t q
        have hk := (m.keep t ho.1).1
        exact .inr ⟨t, q, by omega⟩
      · have hge : gI ix s ≤ gI ix t := by
          rcases List.mem_cons.1 q with q | q
          · subst q; exact Int.le_refl _
          · have := (List.pairwise_cons.1 (List.pairwise_append.1 m.ti.rise).2.1).1 t q; omega
        rw [show mn = gI lo s by omega]; exact l1
  · rcases List.mem_append.1 hu with q | q
    · exact (m.es u q).low (by rw [els]; exact h1)
    · rw [List.mem_singleton] at q; subst q
      exact fun _ => .inr ⟨ht, by rw [els]; exact h2⟩
theorem MT.child {mn : Int} (m : MT n A S s ix0 lo0 dn0 st0 cl0 dt ix lo dn e cl ps) (V : VT n A S t ix lo dn (st0 ++ s :: e) cl ix' lo' dn' st' cl' ps') (h1 : mn ≤ gI lo' s) (h2 : mn ≤ gI lo' t) (h3 : mn = gI lo' s ∨ mn = gI lo' t) :
    ∃ e', st' = st0 ++ s :: e' ∧ MT n A S s ix0 lo0 dn0 st0 cl0 (dt ++ [t]) ix' (lo'.set s mn) dn' e' cl' ps' := by
  have gl := fun v => gI_set (a := lo') (k := s) (v := v) (x := mn) (by rw [V.ll]; exact m.s_lt)
  have els : gI (lo'.set s mn) s = mn := by rw [gl, if_pos rfl]
  have l1 := m.lo1
  have l2 := m.lo2
  have his := m.is
  have hsn : ¬ gI ix s = 0 := by have := (m.ti.sx s (by simp)).1; omega
  obtain ⟨ks1, ks2⟩ := V.keep s hsn
  obtain ⟨x, hx, hxn, hcase⟩ := V.ext
  have scl := (m.ti.sx s (by simp)).2
  have nz : ∀ v, ¬ gI ix0 v = 0 → ¬ gI ix v = 0 := fun v hv => by rw [(m.keep v hv).1]; exact hv
  -- an edge's target stays where it is
  have st_up : ∀ {b b' : Int} {u : Nat}, EdOk A ix dn (st0 ++ s :: e) b u → b' ≤ b → EdOk A ix' dn' st' b' u := fun {b b' u} h hb z => by
    rcases h z with q | ⟨q1, q2⟩
    · exact .inl (V.dup u q)
    · have hu : ¬ gI ix u = 0 := by have := (m.ti.sx u q1).1; omega
      refine .inr ⟨by rw [hx]; exact List.mem_append.2 (.inl q1), ?_⟩
      rw [(V.keep u hu).1]; omega
  refine ⟨e ++ x, by rw [hx]; simp, ?_⟩
  have hst : st' = st0 ++ s :: (e ++ x) := by rw [hx]; simp
  refine ⟨by rw [← hst]; exact V.ti, by simp [V.ll], fun v hv => ?_, Int.le_trans m.clk V.clk, m.s0, fun v h => V.dup v (m.dup v h), by rw [ks1]; exact his, ?_, by rw [els, ks1]; omega, m.old, fun u hu => ?_, fun u hu y hy => ?_, fun u hu => ?_⟩
  · obtain ⟨k1, k2⟩ := m.keep v hv
    obtain ⟨k3, k4⟩ := V.keep v (nz v hv)
    rw [gl, if_neg (fun e : v = s => hv (by rw [e]; exact m.s0))]
    exact ⟨by rw [k3, k1], by rw [k4, k2]⟩
  · rw [els, ks1]
    have keepl : mn = gI lo' s → mn = gI ix s ∨ ∃ w, w ∈ st0 ∧ mn = gI ix0 w := fun h => by rw [h, ks2]; exact l1
    rcases h3 with h3 | h3
    · exact keepl h3
    · rcases hcase with ⟨_, _, hc⟩ | ⟨_, ⟨w, hw, hlw⟩, _⟩
      · exact keepl (by omega)
      · rcases List.mem_append.1 hw with q | q
        · have ho := m.old w q
          have hk := (m.keep w ho.1).1
          exact .inr ⟨w, q, by omega⟩
        · have hge : gI ix s ≤ gI ix w := by
            rcases List.mem_cons.1 q with q | q
            · subst q; exact Int.le_refl _
            · have := (List.pairwise_cons.1 (List.pairwise_append.1 m.ti.rise).2.1).1 w q; omega
          exact keepl (by omega)
  · rcases List.mem_append.1 hu with q | q
    · have h := m.new u q
      have hclk := m.clk
      have hc0 : 0 ≤ cl0 ∨ ¬ gI ix u = 0 := .inr (by have := (m.ti.sx u (by simp [q])).1; omega)
      have hu0 : ¬ gI ix u = 0 := by have := (m.ti.sx u (by simp [q])).1; omega
      rw [(V.keep u hu0).1]; exact h
    · have := hxn u q
      have := m.clk
      omega
  · rw [els, ← hst]
    rcases List.mem_append.1 hu with q | q
    · exact st_up (m.ed u q y hy) (by omega)
    · rcases hcase with ⟨q2, _⟩ | ⟨_, _, hed⟩
      · rw [q2] at q; cases q
      · exact (hed u q y hy).low h2
  · rw [els, ← hst]
    rcases List.mem_append.1 hu with q | q
    · exact st_up (m.es u q) (by omega)
    · rw [List.mem_singleton] at q; subst q
      intro _
      rcases hcase with ⟨_, hd, _⟩ | ⟨hin, _, _⟩
      · exact .inl hd
      · refine .inr ⟨by rw [hx]; exact List.mem_append.2 (.inr hin), ?_⟩
        have h4 := hxn u hin
        have h5 : mn ≤ gI lo' s := h1
        omega
theorem MT.stay (m : MT n A S s ix0 lo0 dn0 st0 cl0 dt ix lo dn e cl ps) (hd : ∀ t ∈ S s, t ∈ dt) (hne : ¬ gI lo s = gI ix s) : VT n A S s ix0 lo0 dn0 st0 cl0 ix lo dn (st0 ++ s :: e) cl ps := by
  have his := m.is
  have hs := m.ti.sx s (by simp)
  obtain ⟨w, hw, hl⟩ := m.lo1.resolve_left hne
  refine ⟨m.ti, m.ll, m.keep, m.clk, m.dup, by omega, s :: e, rfl, fun u hu => ?_, .inr ⟨by simp, ⟨w, hw, hl⟩, fun u hu t ht => ?_⟩⟩
  · rcases List.mem_cons.1 hu with q | q
    · subst q; omega
    · exact m.new u q
  · rcases List.mem_cons.1 hu with q | q
    · subst q; exact m.es t (hd t ht)
    · exact m.ed u q t ht
theorem MT.pop (m : MT n A S s ix0 lo0 dn0 st0 cl0 dt ix lo dn e cl ps) (hd : ∀ t ∈ S s, t ∈ dt) (heq : gI lo s = gI ix s) (ld' : dn'.length = n) (hdn : ∀ v, bm dn' v ↔ bm dn v ∨ v ∈ s :: e) : VT n A S s ix0 lo0 dn0 st0 cl0 ix lo dn' st0 cl (ps ++ [s :: e]) := by
  have his := m.is
  have T := m.ti
  have hr := List.pairwise_append.1 T.rise
  have hsx := T.sx s (by simp)
  have sep : ∀ v ∈ st0, ∀ u ∈ s :: e, gI ix v < gI ix u := fun v hv u hu => hr.2.2 v hv u hu
  have low : ∀ u ∈ s :: e, gI ix s ≤ gI ix u := fun u hu => by
    rcases List.mem_cons.1 hu with q | q
    · subst q; exact Int.le_refl _
    · have := (List.pairwise_cons.1 hr.2.1).1 u q; omega
  have edge : ∀ v ∈ s :: e, ∀ u ∈ S v, A u → bm dn u ∨ u ∈ s :: e := fun v hv u hu hA => by
    have h : EdOk A ix dn (st0 ++ s :: e) (gI lo s) u := by
      rcases List.mem_cons.1 hv with q | q
      · subst q; exact m.es u (hd u hu)
      · exact m.ed v q u hu
    rcases h hA with q | ⟨q1, q2⟩
    · exact .inl q
    · rcases List.mem_append.1 q1 with q | q
      · have := sep u q s (by simp)
        omega
      · exact .inr q
  refine ⟨⟨T.li, ld', T.c0, fun v hv => ?_, fun v hv => T.sx v (List.mem_append.2 (.inl hv)), hr.1, fun v hv h => ?_, fun v hv => ?_, fun v => ?_, ?_, fun P hP v hv => ?_, fun i P hP v hv u hu hA => ?_⟩, m.ll, m.keep, m.clk, fun v h => (hdn v).2 (.inl (m.dup v h)), by omega, [], by simp, (fun u hu => by cases hu), .inl ⟨rfl, (hdn s).2 (.inr (by simp)), by omega⟩⟩
  · obtain ⟨h1, h2, h3⟩ := T.sn v (List.mem_append.2 (.inl hv))
    refine ⟨h1, h2, fun h => ?_⟩
    rcases (hdn v).1 h with q | q
    · exact h3 q
    · have := sep v hv v q; omega
  · rcases T.vis v hv h with q | q
    · rcases List.mem_append.1 q with q | q
      · exact .inl q
      · exact .inr ((hdn v).2 (.inr q))
    · exact .inr ((hdn v).2 (.inl q))
  · rcases (hdn v).1 hv with q | q
    · exact T.dx v q
    · exact T.sx v (List.mem_append.2 (.inr q))
  · rw [hdn, T.dps]
    constructor
    · rintro (⟨P, h1, h2⟩ | h)
      · exact ⟨P, List.mem_append.2 (.inl h1), h2⟩
      · exact ⟨s :: e, by simp, h⟩
    · rintro ⟨P, h1, h2⟩
      rcases List.mem_append.1 h1 with q | q
      · exact .inl ⟨P, q, h2⟩
      · rw [List.mem_singleton] at q; subst q; exact .inr h2
  · refine List.pairwise_append.2 ⟨T.dis, List.pairwise_singleton _ _, fun P hP Q hQ v hv => ?_⟩
    rw [List.mem_singleton] at hQ; subst hQ
    intro hq
    exact (T.sn v (List.mem_append.2 (.inr hq))).2.2 ((T.dps v).2 ⟨P, hP, hv⟩)
  · rcases List.mem_append.1 hP with q | q
    · exact T.pA P q v hv
    · rw [List.mem_singleton] at q; subst q
      obtain ⟨h1, h2, _⟩ := T.sn v (List.mem_append.2 (.inr hv))
      exact ⟨h1, h2⟩
  · by_cases hi : i < ps.length
    · rw [List.getElem?_append_left hi] at hP
      obtain ⟨j, Q, h1, h2, h3⟩ := T.edge i P hP v hv u hu hA
      exact ⟨j, Q, h1, by rw [List.getElem?_append_left (by omega)]; exact h2, h3⟩
    · have hie : i = ps.length := by
        have := (List.getElem?_eq_some_iff.1 hP).1
        simp at this; omega
      subst hie
      rw [List.getElem?_append_right (Nat.le_refl _), Nat.sub_self] at hP
      cases hP
      rcases edge v hv u hu hA with q | q
      · obtain ⟨Q, hQ, huQ⟩ := (T.dps u).1 q
        obtain ⟨j, hj⟩ := List.getElem?_of_mem hQ
        have hjl := (List.getElem?_eq_some_iff.1 hj).1
        exact ⟨j, Q, by omega, by rw [List.getElem?_append_left hjl]; exact hj, huQ⟩
      · exact ⟨ps.length, s :: e, Nat.le_refl _, by simp, q⟩
theorem TI.start : TI n A S (List.replicate n 0) (List.replicate n false) [] 0 [] := by
  have nb : ∀ v, ¬ bm (List.replicate n false) v := fun v h => by
    unfold bm at h
    rw [List.getElem?_replicate] at h
    split at h <;> cases h
  have z : ∀ v, gI (List.replicate n 0) v = 0 := fun v => by
    show (List.replicate n (0 : Int))[v]?.getD 0 = 0
    rw [List.getElem?_replicate]
    split <;> rfl
  refine ⟨by simp, by simp, Int.le_refl _, (fun v h => by cases h), (fun v h => by cases h), List.Pairwise.nil, fun v _ h => absurd (z v) h, fun v h => absurd h (nb v), fun v => ⟨fun h => absurd h (nb v), fun ⟨P, h, _⟩ => by cases h⟩, List.Pairwise.nil, (fun P h => by cases h), fun i P h => by simp at h⟩
theorem VT.empty {ix lo : List Int} {dn : List Bool} {cl : Int} (V : VT n A S s ix lo dn [] cl ix' lo' dn' st' cl' ps') : st' = [] ∧ bm dn' s := by
  obtain ⟨x, hx, _, h | ⟨_, ⟨w, hw, _⟩, _⟩⟩ := V.ext
  · exact ⟨by rw [hx, h.1]; rfl, h.2.1⟩
  · cases hw
theorem TI.cycle (T : TI n A S ix dn [] cl ps) (hall : ∀ v, v < n → A v → bm dn v) {c : Nat → Nat} {k : Nat} (hk : 0 < k) (hp : ∀ i, c (i + k) = c i) (hX : ∀ i, c i < n ∧ A (c i)) (hS : ∀ i, c (i + 1) ∈ S (c i)) :
    ∃ P, P ∈ ps ∧ (∀ j, c j ∈ P) ∧ (1 < P.length ∨ (P = [c 0] ∧ c 0 ∈ S (c 0))) := by
  have ex : ∀ i, ∃ (j : Nat) (P : List Nat), ps[j]? = some P ∧ c i ∈ P := fun i => by
    obtain ⟨P, hP, hi⟩ := (T.dps _).1 (hall _ (hX i).1 (hX i).2)
    obtain ⟨j, hj⟩ := List.getElem?_of_mem hP
    exact ⟨j, P, hj, hi⟩
  have key : ∀ (m : Nat), (∃ (i j : Nat) (P : List Nat), j < m ∧ ps[j]? = some P ∧ c i ∈ P) → ∃ (i j : Nat) (P : List Nat), ps[j]? = some P ∧ c i ∈ P ∧ ∀ (i' j' : Nat) (P' : List Nat), ps[j']? = some P' → c i' ∈ P' → j ≤ j' := by
    intro m
    induction m with
    | zero => rintro ⟨i, j, P, h, _⟩; omega
    | succ m ih =>
      rintro ⟨i, j, P, h, h1, h2⟩
      by_cases q : ∃ (i j : Nat) (P : List Nat), j < m ∧ ps[j]? = some P ∧ c i ∈ P
      · exact ih q
      · exact ⟨i, j, P, h1, h2, fun i' j' P' g1 g2 => Classical.byContradiction fun z => q ⟨i', j', P', by omega, g1, g2⟩⟩
  obtain ⟨j0, P0, h0, h1⟩ := ex 0
  obtain ⟨i, j, P, hj, hi, hmin⟩ := key (j0 + 1) ⟨0, j0, P0, by omega, h0, h1⟩
  have fwd : ∀ d, c (i + d) ∈ P := by
    intro d
    induction d with
    | zero => exact hi
    | succ d ih =>
      obtain ⟨j', Q, g1, g2, g3⟩ := T.edge j P hj _ ih _ (hS (i + d)) (hX (i + d + 1)).2
      have := hmin (i + d + 1) j' Q g2 g3
      have e : j' = j := by omega
      subst e
      rw [hj] at g2; cases g2
      exact g3
  have per : ∀ m i, c (i + m * k) = c i := by
    intro m
    induction m with
    | zero => intro i; simp
    | succ m ih => intro i; rw [Nat.succ_mul, ← Nat.add_assoc, hp, ih]
  have all : ∀ m, c m ∈ P := fun m => by
    rw [← per i m]
    have hle : i ≤ m + i * k := Nat.le_trans (Nat.le_mul_of_pos_right i hk) (Nat.le_add_left _ _)
    have := fwd (m + i * k - i)
    rwa [show i + (m + i * k - i) = m + i * k by omega] at this
  refine ⟨P, List.mem_of_getElem? hj, all, ?_⟩
  have a0 := all 0
  have a1 := all 1
  match P, a0, a1 with
  | [x], a0, a1 =>
    rw [List.mem_singleton] at a0 a1
    refine .inr ⟨by rw [a0], ?_⟩
    have := hS 0
    rw [Nat.zero_add, a1, ← a0] at this
    exact this
  | x :: y :: P, _, _ => exact .inl (by simp)
end
end Go.Am.Ar
set_option linter.unusedVariables false
set_option linter.unusedSimpArgs false
set_option maxRecDepth 10000
namespace Go.Am.Ar
open Go.Am renaming pchk → P1, pold → P2, PKNo → P3, ppack → P4, PObj.under → P5, pput → P6, ptset → P7, ptget → P8, pev → P9, ofAV → P10, ofAV1 → P11, ppad → P12, pfill → P13, prepl → P14, AO.effect → P15
open List renaming replicate → L1
open Nat renaming reduceAdd → N1, reduceSub → N2, reduceMul → N3, reduceLT → N4, reduceLeDiff → N5, reduceEqDiff → N6, reduceBEq → N7
open Int renaming reduceToNat → I1, reduceLT → I2, reduceLE → I3, reduceEq → I4, reduceAdd → I5, reduceSub → I6, reduceNeg → I7
structure ParOk (n : Nat) (rows : List (List Int)) (pr : List Int) : Prop where
  n0 : 0 < n
  n1 : n ≤ 4096
  lr : rows.length = n
  lp : pr.length = n
  row : ∀ r ∈ rows, r.length = 32 ∧ ∀ x ∈ r, 0 ≤ x ∧ x < n
  pri : ∀ x ∈ pr, 0 ≤ x ∧ x ≤ 16
section
variable {tab : FuncId → Option AF} (T : HasA tab)
include T
theorem idxF_p {M : Mem} {K : PV → Mem → Prop} {f o : Bool} {xs : List Int} {g : FuncId} {cap : List PV} {F : Int → Bool} (hm : xs.length < 1000000000000) (hu : underL 0 cap = true)
    (hf : ∀ x ∈ xs, ∀ (M' : Mem) (K' : PV → Mem → Prop), K' (.bool (F x)) M' → SemC tab g (p64 x :: cap) M' K')
    (hk1 : (∀ x ∈ xs, F x = false) → K (p64 (-1)) M) (hk2 : ∀ (k : Nat) (x : Int), x ∈ xs → F x = true → K (p64 k) M) :
    SemC tab 31 [slI f o .i64 xs, .func (.func g) [] cap] M K := by
  refine SemC_pure T.h31 (by simp only [PP, P1, P2, P3, P4, P5, P6, P7, P8, P9, P10, P11, P12, P13, P14, L1, P15, N1, N2, N3, N4, N5, N6, N7, I1, I2, I3, I4, I5, I6, I7, reduceIte, reduceCtorEq, PV.under, hu]) ?_
  simp only [af31, PP, P1, P2, P3, P4, P5, P6, P7, P8, P9, P10, P11, P12, P13, P14, L1, P15, N1, N2, N3, N4, N5, N6, N7, I1, I2, I3, I4, I5, I6, I7, reduceIte, reduceCtorEq]
  refine loop1 (fun (k : Nat) => k ≤ xs.length ∧ ∀ j, j < k → ∀ x, xs[j]? = some x → F x = false) (fun k => [slI f o .i64 xs, .func (.func g) [] cap, .junk, .junk, .junk, .junk, .junk, p64 xs.length, p64 k, .junk, .junk, .junk, .junk, .junk, .junk, .junk, .junk, .junk, .junk])
    (fun k => []) (fun k => xs.length - k) 0 ⟨by omega, by intro j h; omega⟩ (by simp only [PWeak_nil, PWeak_junk, PWeak_same, Int.cast_ofNat_Int, List.length_append, List.length_cons, List.length_nil, Nat.zero_add]) rfl ?_
  intro k ⟨hle, hd⟩ ih
  refine SemW_go (by kernel_rfl) ?_
  simp only [PP, P1, P2, P3, P4, P5, P6, P7, P8, P9, P10, P11, P12, P13, P14, L1, P15, N1, N2, N3, N4, N5, N6, N7, I1, I2, I3, I4, I5, I6, I7, reduceIte, reduceCtorEq]
  refine QIf.intro (fun c => ?_) (fun c => ?_)
  · have hk' : k < xs.length := by omega
    have k0 : (0 : Int) ≤ k := by omega
    have hwk := wrap_succ (k := k) (by show _ < 1000000000000; omega)
    obtain ⟨x, gx⟩ := some_of (xs := xs) (k := k) hk'
    simp only [PP, P1, P2, P3, P4, P5, P6, P7, P8, P9, P10, P11, P12, P13, P14, L1, P15, N1, N2, N3, N4, N5, N6, N7, I1, I2, I3, I4, I5, I6, I7, reduceIte, reduceCtorEq, c, k0, gx]
    refine hf x (List.mem_of_getElem? gx) _ _ ?_
    cases hF : F x with
    | true =>
      simp only [PP, P1, P2, P3, P4, P5, P6, P7, P8, P9, P10, P11, P12, P13, P14, L1, P15, N1, N2, N3, N4, N5, N6, N7, I1, I2, I3, I4, I5, I6, I7, reduceIte, reduceCtorEq]
      exact hk2 k x (List.mem_of_getElem? gx) hF
    | false =>
      simp only [PP, P1, P2, P3, P4, P5, P6, P7, P8, P9, P10, P11, P12, P13, P14, L1, P15, N1, N2, N3, N4, N5, N6, N7, I1, I2, I3, I4, I5, I6, I7, reduceIte, reduceCtorEq, hwk]
      refine SemW_weak (ih (k + 1) ⟨by omega, fun j hj y gy => ?_⟩ (by omega)) (by simp only [PWeak_nil, PWeak_junk, PWeak_same, Int.cast_ofNat_Int, List.length_append, List.length_cons, List.length_nil, Nat.zero_add])
      by_cases e : j = k
      · subst e; rw [gx] at gy; cases gy; exact hF
      · exact hd j (by omega) y gy
  · simp only [PP, P1, P2, P3, P4, P5, P6, P7, P8, P9, P10, P11, P12, P13, P14, L1, P15, N1, N2, N3, N4, N5, N6, N7, I1, I2, I3, I4, I5, I6, I7, reduceIte, reduceCtorEq, c]
    exact hk1 fun x hx => by
      obtain ⟨j, hj⟩ := List.getElem?_of_mem hx
      exact hd j (by have := getSome_lt hj; omega) x hj
theorem contF_p {M : Mem} {K : PV → Mem → Prop} {f o : Bool} {xs : List Int} {g : FuncId} {cap : List PV} {F : Int → Bool} (hm : xs.length < 1000000000000) (hu : underL 0 cap = true)
    (hf : ∀ x ∈ xs, ∀ (M' : Mem) (K' : PV → Mem → Prop), K' (.bool (F x)) M' → SemC tab g (p64 x :: cap) M' K')
    (hk1 : (∀ x ∈ xs, F x = false) → K (.bool false) M) (hk2 : (∃ x, x ∈ xs ∧ F x = true) → K (.bool true) M) :
    SemC tab 34 [slI f o .i64 xs, .func (.func g) [] cap] M K := by
  refine SemC_pure T.h34 (by simp only [PP, P1, P2, P3, P4, P5, P6, P7, P8, P9, P10, P11, P12, P13, P14, L1, P15, N1, N2, N3, N4, N5, N6, N7, I1, I2, I3, I4, I5, I6, I7, reduceIte, reduceCtorEq, PV.under, hu]) ?_
  simp only [af34, PP, P1, P2, P3, P4, P5, P6, P7, P8, P9, P10, P11, P12, P13, P14, L1, P15, N1, N2, N3, N4, N5, N6, N7, I1, I2, I3, I4, I5, I6, I7, reduceIte, reduceCtorEq]
  refine idxF_p T hm hu hf (fun h => ?_) (fun k x hx hF => ?_)
  · have e : ¬ (0 : Int) ≤ -1 := by omega
    simp only [PP, P1, P2, P3, P4, P5, P6, P7, P8, P9, P10, P11, P12, P13, P14, L1, P15, N1, N2, N3, N4, N5, N6, N7, I1, I2, I3, I4, I5, I6, I7, reduceIte, reduceCtorEq, e]
    exact hk1 h
  · have e : (0 : Int) ≤ k := by omega
    simp only [PP, P1, P2, P3, P4, P5, P6, P7, P8, P9, P10, P11, P12, P13, P14, L1, P15, N1, N2, N3, N4, N5, N6, N7, I1, I2, I3, I4, I5, I6, I7, reduceIte, reduceCtorEq, e]
    exact hk2 ⟨x, hx, hF⟩
abbrev parC (f1 o1 f2 o2 f3 o3 : Bool) (rows : List (List Int)) (pr : List Int) : List PV := [p64 5, p64 0, slR f1 o1 f2 o2 .i64 rows, slI f3 o3 .i64 pr]
theorem parCheck_p {M : Mem} {K : PV → Mem → Prop} {f1 o1 f2 o2 f3 o3 : Bool} {rows : List (List Int)} {pr : List Int} {n : Nat} (P : ParOk n rows pr) (hk : K (p64 0) M) :
    SemC tab 17 [.agg (parC f1 o1 f2 o2 f3 o3 rows pr)] M K := by
  obtain ⟨n0, n1, lr, lp, hrow, hpri⟩ := P
  refine SemC_pureS T.h17 (by simp only [PP, P1, P2, P3, P4, P5, P6, P7, P8, P9, P10, P11, P12, P13, P14, L1, P15, N1, N2, N3, N4, N5, N6, N7, I1, I2, I3, I4, I5, I6, I7, reduceIte, reduceCtorEq, PV.under]) ?_
  simp only [af17]
  refine SemW_seq (SemW_of ?_)
  simp only [PP, P1, P2, P3, P4, P5, P6, P7, P8, P9, P10, P11, P12, P13, P14, L1, P15, N1, N2, N3, N4, N5, N6, N7, I1, I2, I3, I4, I5, I6, I7, reduceIte, reduceCtorEq]
  refine SemW_seq (SemW_of ?_)
  simp only [PP, P1, P2, P3, P4, P5, P6, P7, P8, P9, P10, P11, P12, P13, P14, L1, P15, N1, N2, N3, N4, N5, N6, N7, I1, I2, I3, I4, I5, I6, I7, reduceIte, reduceCtorEq]
  refine SemW_re (GStep.freezeP (b := [.junk, .cp (parC f1 o1 f2 o2 f3 o3 rows pr) 0, p64 0, .ptr 1 0 0, .junk, .junk, .junk, .junk, .junk, .junk, .junk, .junk, .junk, .junk, .junk, .junk, .junk, .junk, .junk, .junk, .junk, .junk, .junk, .junk, .junk, .junk, .junk, .junk, .junk, .junk, .junk, .junk, .junk, .junk, .junk, .junk, .junk, .junk, .junk, .junk, .junk, .junk, .junk, .junk, .junk, .junk, .junk, .junk, .junk, .junk, .junk, .junk, .junk, .junk, .junk, .junk, .junk, .junk, .junk, .junk, .junk, .junk, .junk, .junk, .junk, .junk, .junk, .junk, .junk, .junk, .junk, .junk, .junk, .junk, .junk]) 0 (Nat.zero_le _) rfl (by simp only [PFrzP_nil, PFrzP_junk, PFrzP_same, PFrzP_ptr]) rfl) ?_
  refine SemW_re (GStep.freezeP (b := [.junk, .cp (parC f1 o1 f2 o2 f3 o3 rows pr) 0, p64 0, .cp [p64 rows.length] 0, .junk, .junk, .junk, .junk, .junk, .junk, .junk, .junk, .junk, .junk, .junk, .junk, .junk, .junk, .junk, .junk, .junk, .junk, .junk, .junk, .junk, .junk, .junk, .junk, .junk, .junk, .junk, .junk, .junk, .junk, .junk, .junk, .junk, .junk, .junk, .junk, .junk, .junk, .junk, .junk, .junk, .junk, .junk, .junk, .junk, .junk, .junk, .junk, .junk, .junk, .junk, .junk, .junk, .junk, .junk, .junk, .junk, .junk, .junk, .junk, .junk, .junk, .junk, .junk, .junk, .junk, .junk, .junk, .junk, .junk, .junk]) 1 (Nat.zero_le _) rfl (by simp only [PFrzP_nil, PFrzP_junk, PFrzP_same, PFrzP_ptr]) rfl) ?_
  refine SemW_re (GStep.drop (b := [.junk, .cp (parC f1 o1 f2 o2 f3 o3 rows pr) 0, p64 0, .cp [p64 rows.length] 0, .junk, .junk, .junk, .junk, .junk, .junk, .junk, .junk, .junk, .junk, .junk, .junk, .junk, .junk, .junk, .junk, .junk, .junk, .junk, .junk, .junk, .junk, .junk, .junk, .junk, .junk, .junk, .junk, .junk, .junk, .junk, .junk, .junk, .junk, .junk, .junk, .junk, .junk, .junk, .junk, .junk, .junk, .junk, .junk, .junk, .junk, .junk, .junk, .junk, .junk, .junk, .junk, .junk, .junk, .junk, .junk, .junk, .junk, .junk, .junk, .junk, .junk, .junk, .junk, .junk, .junk, .junk, .junk, .junk, .junk, .junk]) 0 (Nat.zero_le _) (by simp) (by simp only [PWeak_nil, PWeak_junk, PWeak_same, Int.cast_ofNat_Int, List.length_append, List.length_cons, List.length_nil, Nat.zero_add]) (by simp only [PP, P1, P2, P3, P4, P5, P6, P7, P8, P9, P10, P11, P12, P13, P14, L1, P15, N1, N2, N3, N4, N5, N6, N7, I1, I2, I3, I4, I5, I6, I7, reduceIte, reduceCtorEq, PV.under]) rfl rfl) ?_
  refine SemW_of ?_
  have c1 : ¬ (rows.length : Int) = 0 := by omega
  have c2 : ¬ (4096 : Int) < rows.length := by omega
  have c3 : (pr.length : Int) = rows.length := by omega
  have c4 : ¬ (rows.length : Int) ≤ 0 := by omega
  have c5 : ¬ (5 : Int) < 0 := by decide
  have c6 : ¬ (6 : Int) < 5 := by decide
  have c7 : ¬ (0 : Int) < 0 := by decide
  simp only [PP, P1, P2, P3, P4, P5, P6, P7, P8, P9, P10, P11, P12, P13, P14, L1, P15, N1, N2, N3, N4, N5, N6, N7, I1, I2, I3, I4, I5, I6, I7, reduceIte, reduceCtorEq, c1, c2, c3, c4, c5, c6, c7]
  have hsh : pbin .shl (.int .i64 1) (.int .i64 5) = some (.int .i64 32) := rfl
  refine loop1 (fun (k : Nat) => k ≤ rows.length)
    (fun k => [.junk, .cp (parC f1 o1 f2 o2 f3 o3 rows pr) 0, .junk, .cp [p64 rows.length] 0, .junk, .junk, .junk, .junk, .junk, .junk, .junk, .junk, .junk, .junk, .junk, .junk, .junk, .junk, .junk, .junk, .junk, .junk, .junk, .junk, .junk, .junk, .junk, .junk, .junk, .junk, .junk, .junk, .junk, .junk, .junk, .junk, .junk, .junk, .junk, .junk, .junk, slR f1 o1 f2 o2 .i64 rows, p64 rows.length, p64 k, .junk, .junk, .junk, .junk, .junk, .junk, .junk, .junk, .junk, .junk, .junk, .junk, .junk, .junk, .junk, .junk, .junk, .junk, .junk, .junk, .junk, .junk, .junk, .junk, .junk, .junk, .junk, .junk, .junk, .junk, .junk])
    (fun k => []) (fun k => rows.length - k) 0 (by omega) (by simp only [PWeak_nil, PWeak_junk, PWeak_same, Int.cast_ofNat_Int, List.length_append, List.length_cons, List.length_nil, Nat.zero_add]) rfl ?_
  intro k hle ih
  refine SemW_go (by kernel_rfl) ?_
  simp only [PP, P1, P2, P3, P4, P5, P6, P7, P8, P9, P10, P11, P12, P13, P14, L1, P15, N1, N2, N3, N4, N5, N6, N7, I1, I2, I3, I4, I5, I6, I7, reduceIte, reduceCtorEq]
  refine QIf.intro (fun c => ?_) (fun c => ?_)
  · have hk' : k < rows.length := by omega
    have k0 : (0 : Int) ≤ k := by omega
    have kn : (k : Int) < pr.length := by omega
    have hwk := wrap_succ (k := k) (by show _ < 1000000000000; omega)
    obtain ⟨r, g1⟩ := some_of (xs := rows) (k := k) hk'
    obtain ⟨q, g2⟩ := some_of (xs := pr) (k := k) (by omega)
    obtain ⟨r1, r2⟩ := hrow r (List.mem_of_getElem? g1)
    obtain ⟨q1, q2⟩ := hpri q (List.mem_of_getElem? g2)
    have d1 : (r.length : Int) = 32 := by omega
    have d2 : ¬ q < 0 := by omega
    have d3 : ¬ (16 : Int) < q := by omega
    simp only [PP, P1, P2, P3, P4, P5, P6, P7, P8, P9, P10, P11, P12, P13, P14, L1, P15, N1, N2, N3, N4, N5, N6, N7, I1, I2, I3, I4, I5, I6, I7, reduceIte, reduceCtorEq, c, k0, g1, hsh, d1]
    refine contF_p T (F := fun _ => false) (by omega) (by simp only [PP, P1, P2, P3, P4, P5, P6, P7, P8, P9, P10, P11, P12, P13, P14, L1, P15, N1, N2, N3, N4, N5, N6, N7, I1, I2, I3, I4, I5, I6, I7, reduceIte, reduceCtorEq, PV.under]) (fun x hx M' K' hK' => ?_) (fun _ => ?_) (fun ⟨x, _, h⟩ => by cases h)
    · obtain ⟨x1, x2⟩ := r2 x hx
      have e1 : ¬ x < 0 := by omega
      have e2 : ¬ (rows.length : Int) ≤ x := by omega
      refine SemC_pure T.h35 (by simp only [PP, P1, P2, P3, P4, P5, P6, P7, P8, P9, P10, P11, P12, P13, P14, L1, P15, N1, N2, N3, N4, N5, N6, N7, I1, I2, I3, I4, I5, I6, I7, reduceIte, reduceCtorEq, PV.under]) ?_
      simp only [af35, PP, P1, P2, P3, P4, P5, P6, P7, P8, P9, P10, P11, P12, P13, P14, L1, P15, N1, N2, N3, N4, N5, N6, N7, I1, I2, I3, I4, I5, I6, I7, reduceIte, reduceCtorEq, e1, e2]
      exact hK'
    · simp only [PP, P1, P2, P3, P4, P5, P6, P7, P8, P9, P10, P11, P12, P13, P14, L1, P15, N1, N2, N3, N4, N5, N6, N7, I1, I2, I3, I4, I5, I6, I7, reduceIte, reduceCtorEq, k0, kn, g2, d2, d3, hwk]
      exact SemW_weak (ih (k + 1) (by omega) (by omega)) (by simp only [PWeak_nil, PWeak_junk, PWeak_same, Int.cast_ofNat_Int, List.length_append, List.length_cons, List.length_nil, Nat.zero_add])
  · simp only [PP, P1, P2, P3, P4, P5, P6, P7, P8, P9, P10, P11, P12, P13, P14, L1, P15, N1, N2, N3, N4, N5, N6, N7, I1, I2, I3, I4, I5, I6, I7, reduceIte, reduceCtorEq, c]
    exact hk
end
end Go.Am.Ar
set_option linter.unusedVariables false
set_option linter.unusedSimpArgs false
set_option maxRecDepth 10000
namespace Go.Am.Ar
open Go.Am renaming pchk → P1, pold → P2, PKNo → P3, ppack → P4, PObj.under → P5, pput → P6, ptset → P7, ptget → P8, pev → P9, ofAV → P10, ofAV1 → P11, ppad → P12, pfill → P13, prepl → P14, AO.effect → P15
open List renaming replicate → L1
open Nat renaming reduceAdd → N1, reduceSub → N2, reduceMul → N3, reduceLT → N4, reduceLeDiff → N5, reduceEqDiff → N6, reduceBEq → N7
open Int renaming reduceToNat → I1, reduceLT → I2, reduceLE → I3, reduceEq → I4, reduceAdd → I5, reduceSub → I6, reduceNeg → I7
def idxFrom (p : Int → Bool) : Nat → List Int → Int
  | _, [] => -1
  | k, x :: l => if p x = true then k else idxFrom p (k + 1) l
section
variable {tab : FuncId → Option AF} (T : HasA tab)
include T
theorem indexFunc_p {M : Mem} {K : PV → Mem → Prop} {f o : Bool} {row : List Int} {fn : FuncId} {cap : List PV} (p : Int → Bool) (hb : row.length < big)
    (hf : ∀ x ∈ row, ∀ K' : PV → Mem → Prop, K' (.bool (p x)) M → SemC tab fn (p64 x :: cap) M K') (hk : K (p64 (idxFrom p 0 row)) M) :
    SemC tab 31 [slI f o .i64 row, .func (.func fn) [] cap] M K := by
  refine SemC_fn T.h31 ?_
  simp only [af31, PP, P1, P2, P3, P4, P5, P6, P7, P8, P9, P10, P11, P12, P13, P14, L1, P15, N1, N2, N3, N4, N5, N6, N7, I1, I2, I3, I4, I5, I6, I7, reduceIte, reduceCtorEq]
  refine loop1 (fun (k : Nat) => k ≤ row.length ∧ K (p64 (idxFrom p k (row.drop k))) M) (fun k => [slI f o .i64 row, .func (.func fn) [] cap, .junk, .junk, .junk, .junk, .junk, p64 row.length, p64 k, .junk, .junk, .junk, .junk, .junk, .junk, .junk, .junk, .junk, .junk]) (fun k => M) (fun k => row.length - k) 0 ⟨by omega, hk⟩ (by simp only [PWeak_nil, PWeak_junk, PWeak_same, Int.cast_ofNat_Int, List.length_append, List.length_cons, List.length_nil, Nat.zero_add]) rfl ?_
  intro k ⟨hle, hq⟩ ih
  refine SemW_go (by kernel_rfl) ?_
  simp only [PP, P1, P2, P3, P4, P5, P6, P7, P8, P9, P10, P11, P12, P13, P14, L1, P15, N1, N2, N3, N4, N5, N6, N7, I1, I2, I3, I4, I5, I6, I7, reduceIte, reduceCtorEq]
  refine QIf.intro (fun c => ?_) (fun c => ?_)
  · have hk' : k < row.length := by omega
    have h0 : (0 : Int) ≤ k := by omega
    have hw := wrap_succ (k := k) (by show _ < 1000000000000; have : row.length < 1000000000000 := hb; omega)
    obtain ⟨x, e⟩ := some_of hk'
    rw [drop_some e] at hq
    unfold idxFrom at hq
    simp only [PP, P1, P2, P3, P4, P5, P6, P7, P8, P9, P10, P11, P12, P13, P14, L1, P15, N1, N2, N3, N4, N5, N6, N7, I1, I2, I3, I4, I5, I6, I7, reduceIte, reduceCtorEq, c, h0, e]
    refine hf x (List.mem_of_getElem? e) _ ?_
    cases hp : p x with
    | true =>
      rw [if_pos hp] at hq
      simp only [PP, P1, P2, P3, P4, P5, P6, P7, P8, P9, P10, P11, P12, P13, P14, L1, P15, N1, N2, N3, N4, N5, N6, N7, I1, I2, I3, I4, I5, I6, I7, reduceIte, reduceCtorEq]
      exact hq
    | false =>
      rw [if_neg (by rw [hp]; exact Bool.false_ne_true)] at hq
      simp only [PP, P1, P2, P3, P4, P5, P6, P7, P8, P9, P10, P11, P12, P13, P14, L1, P15, N1, N2, N3, N4, N5, N6, N7, I1, I2, I3, I4, I5, I6, I7, reduceIte, reduceCtorEq, hw]
      exact SemW_weak (ih (k + 1) ⟨by omega, hq⟩ (by omega)) (by simp only [PWeak_nil, PWeak_junk, PWeak_same, Int.cast_ofNat_Int, List.length_append, List.length_cons, List.length_nil, Nat.zero_add])
  · rw [List.drop_eq_nil_of_le (by omega)] at hq
    unfold idxFrom at hq
    simp only [PP, P1, P2, P3, P4, P5, P6, P7, P8, P9, P10, P11, P12, P13, P14, L1, P15, N1, N2, N3, N4, N5, N6, N7, I1, I2, I3, I4, I5, I6, I7, reduceIte, reduceCtorEq, c]
    exact hq
end
end Go.Am.Ar
set_option linter.unusedVariables false
set_option linter.unusedSimpArgs false
namespace Go.Am.Ar
def nx (p : Bool) : Int → Int → List Int → Int
  | least, most, [] => if p = true then (if least < 0 then -1 else least + 1) else most + 1
  | least, most, r :: rs => if r < 0 then (if p = true then nx p least most rs else -1) else nx p (if least < 0 then r else if r < least then r else least) (max most r) rs
def rkRow (p : Bool) (S : List Nat) (k : Int) (R : Nat → Int) (v : Nat) : Int := if R v < 0 then (if nx p (-1) (-1) (S.map R) = k then k else R v) else R v
def rk (P : Nat → Bool) (S : Nat → List Nat) (Z : Nat → Bool) : Nat → Nat → Int
  | 0, v => if Z v = true then 0 else -1
  | k + 1, v => rkRow (P v) (S v) ((k + 1 : Nat) : Int) (rk P S Z k) v
section
variable {n : Nat} {P : Nat → Bool} {S : Nat → List Nat} {Z : Nat → Bool}
end
end Go.Am.Ar
set_option linter.unusedVariables false
set_option linter.unusedSimpArgs false
set_option maxRecDepth 10000
namespace Go.Am.Ar
def Sf (su : List (List Int)) (v : Nat) : List Nat := (su.getD v []).map Int.toNat
theorem row_ok {ow pr : List Int} {su : List (List Int)} (V : Valid ow pr su) {v : Nat} (hv : v < ow.length) : su.getD v [] ≠ [] ∧ (su.getD v []).Pairwise (· < ·) ∧ ∀ u ∈ su.getD v [], 0 ≤ u ∧ u < ow.length := by
  have hs := V.s
  have hi : v < su.length := by omega
  obtain ⟨_, _, _, h1, q⟩ := V.row v hi
  have e : su.getD v [] = su[v] := by simp [List.getD, hi]
  obtain ⟨q1, q2⟩ := posM_rise q
  rw [e]
  exact ⟨fun h => by rw [h] at h1; simp at h1, q1, fun u hu => by have := q2 u hu; omega⟩
theorem Sf_ok {ow pr : List Int} {su : List (List Int)} (V : Valid ow pr su) {v : Nat} (hv : v < ow.length) : Sf su v ≠ [] ∧ (∀ u ∈ Sf su v, u < ow.length) ∧ (Sf su v).Nodup := by
  obtain ⟨h1, h2, h3⟩ := row_ok V hv
  refine ⟨fun h => h1 (List.map_eq_nil_iff.1 h), fun u hu => ?_, ?_⟩
  · obtain ⟨w, hw, rfl⟩ := List.mem_map.1 hu
    have := h3 w hw; omega
  · unfold Sf
    refine List.pairwise_map.2 (List.Pairwise.imp_of_mem ?_ h2)
    intro a b ha hb hab e
    have := h3 a ha; have := h3 b hb; omega
end Go.Am.Ar
set_option linter.unusedVariables false
set_option linter.unusedSimpArgs false
set_option maxRecDepth 10000
namespace Go.Am.Ar
open Go.Am renaming pchk → P1, pold → P2, PKNo → P3, ppack → P4, PObj.under → P5, pput → P6, ptset → P7, ptget → P8, pev → P9, ofAV → P10, ofAV1 → P11, ppad → P12, pfill → P13, prepl → P14, AO.effect → P15
open List renaming replicate → L1
open Nat renaming reduceAdd → N1, reduceSub → N2, reduceMul → N3, reduceLT → N4, reduceLeDiff → N5, reduceEqDiff → N6, reduceBEq → N7
open Int renaming reduceToNat → I1, reduceLT → I2, reduceLE → I3, reduceEq → I4, reduceAdd → I5, reduceSub → I6, reduceNeg → I7
theorem getK (M l : Mem) (i : Nat) : (M ++ l)[M.length + i]? = l[i]? := by rw [List.getElem?_append_right (by omega)]; congr 1; omega
theorem getK0 (M l : Mem) : (M ++ l)[M.length]? = l[0]? := by rw [List.getElem?_append_right (Nat.le_refl _), Nat.sub_self]
theorem setK (M l : Mem) (i : Nat) (x : PObj) : (M ++ l).set (M.length + i) x = M ++ l.set i x := by rw [List.set_append_right _ _ (by omega)]; congr 2; omega
theorem setK0 (M l : Mem) (x : PObj) : (M ++ l).set M.length x = M ++ l.set 0 x := by rw [List.set_append_right _ _ (Nat.le_refl _), Nat.sub_self]
theorem QCall_yld {tab : FuncId → Option AF} (id : Nat) (first args : List PV) (M : Mem) (K : PV → Mem → Prop) : QCall tab (.yld id first) args M K = ((∃ ver r, M[id]? = some (.loop ver r)) ∧ SemY tab id (first ++ args) M K) := rfl
theorem pminV_two (k : IntKind) (a b : Int) : pminV (.int k a) [.int k b] = some (.int k (min a b)) := by
  simp [pminV, toAV0, toAVs, foldO, amin2, ofAV1]
  by_cases h : b < a
  · rw [if_pos h]; omega
  · rw [if_neg h]; omega
abbrev nL (q : List Nat) : List Int := q.map fun (x : Nat) => (x : Int)
theorem takeK (M l : Mem) (i : Nat) : (M ++ l).take (M.length + i) = M ++ l.take i := by
  rw [List.take_append, List.take_of_length_le (by omega)]; congr 2; omega
theorem dropK (M l : Mem) (i : Nat) : (M ++ l).drop (M.length + i) = l.drop i := by
  rw [List.drop_append, List.drop_of_length_le (by omega), List.nil_append]; congr 1; omega
theorem SemC_st {tab : FuncId → Option AF} {g : FuncId} {a : List PV} {M N : Mem} {K : PV → Mem → Prop} (h : M = N) (hc : SemC tab g a N K) : SemC tab g a M K := h ▸ hc
theorem SemC_pre3 {tab : FuncId → Option AF} {m : Nat} {g : FuncId} {args : List PV} {M N : Mem} {K : PV → Mem → Prop} (hN : M.take m = N) (hm : m ≤ M.length) (hb : underL m args = true) (hM : N.all (cutOk m) = true)
    (hc : SemC tab g args N fun r M1 => r.under m = true ∧ M1.length = m ∧ M1.all (cutOk m) = true ∧ K r (M1 ++ M.drop m)) : SemC tab g args M K := by
  subst hN; exact SemC_prefix hm hb hM hc
theorem psub_app (l j : List PV) (k : Nat) (h : k = l.length) : psub (l ++ j) 0 k = l := by subst h; simp [psub]
def cntZ (n : Nat) (ix : List Int) : Nat := ((List.range n).filter fun v => decide (gI ix v = 0)).length
theorem filt_sub {α : Type} {p q : α → Bool} (l : List α) (h : ∀ x ∈ l, q x = true → p x = true) : (l.filter p).filter q = l.filter q := by
  rw [List.filter_filter]
  refine List.filter_congr fun x hx => ?_
  cases hq : q x with
  | true => simp [h x hx hq]
  | false => simp
theorem cntZ_lt {n s : Nat} {ix ix' : List Int} (hs : s < n) (h0 : gI ix s = 0) (h1 : ¬ gI ix' s = 0) (hk : ∀ v, ¬ gI ix v = 0 → ¬ gI ix' v = 0) : cntZ n ix' < cntZ n ix := by
  unfold cntZ
  rw [← filt_sub (p := fun v => decide (gI ix v = 0)) (q := fun v => decide (gI ix' v = 0)) (List.range n) fun x _ hq => decide_eq_true (Classical.byContradiction fun h => hk x h (of_decide_eq_true hq))]
  refine List.length_filter_lt_length_iff_exists.2 ⟨s, ?_, ?_⟩
  · rw [List.mem_filter]; exact ⟨List.mem_range.2 hs, decide_eq_true h0⟩
  · simpa using h1
structure XT (n : Nat) (ix : List Int) (st jk : List Nat) (cl : Int) (ps : List (List Nat)) : Prop where
  sl : ((ps.length + st.length : Nat) : Int) ≤ cl
  cz : cl + cntZ n ix ≤ n
  jl : st.length + jk.length ≤ n
  pl : ∀ P ∈ ps, P.length ≤ n
def keepB (S : Nat → List Nat) (P : List Nat) : Bool := (P.head?.any fun x => decide (x ∈ S x)) || decide (1 < P.length)
def alOf (S : Nat → List Nat) (ps : List (List Nat)) : List PV := (ps.filter (keepB S)).map fun P => slI false true .i64 (nL P)
theorem alOf_snoc_t {S : Nat → List Nat} {ps : List (List Nat)} {P : List Nat} (h : keepB S P = true) : alOf S (ps ++ [P]) = alOf S ps ++ [slI false true .i64 (nL P)] := by
  simp [alOf, List.filter_append, h]
theorem alOf_snoc_f {S : Nat → List Nat} {ps : List (List Nat)} {P : List Nat} (h : keepB S P = false) : alOf S (ps ++ [P]) = alOf S ps := by
  simp [alOf, List.filter_append, h]
theorem idxI_app (v : Int) : ∀ (l r : List Int) (k : Nat), v ∉ l → idxI v k (l ++ v :: r) = ((k + l.length : Nat) : Int)
  | [], r, k, _ => by simp [idxI]
  | x :: l, r, k, h => by
    rw [List.mem_cons, not_or] at h
    show (if v = x then (k : Int) else idxI v (k + 1) (l ++ v :: r)) = _
    rw [if_neg h.1, idxI_app v l r (k + 1) h.2]
    simp only [List.length_cons]
    congr 1; omega
abbrev cB (k n : Nat) (ga : FuncId) (ca : List PV) (rowC : PV) (vA va vI vL vD vB vC gA gS vS : Nat) (ix lo : List Int) (dn : List Bool) (st jk : List Nat) (cl : Int) (al : List PV) : Mem :=
  [.cells 0 0 [p64 n, .func (.func 36) [] [rowC]], .cells 0 0 [.func (.func ga) [] ca], .cells 0 vA [.ref (k + 12) gA 1 0 al.length], .cells 0 vI (ix.map (PV.int .i64)), .cells 0 vL (lo.map (PV.int .i64)), .cells 0 1 [.ref (k + 3) 0 1 0 n], .cells 0 1 [.ref (k + 4) 0 1 0 n], .cells 0 vD (dn.map PV.bool), .cells 0 1 [.ref (k + 7) 0 1 0 n], .cells 0 vB [.ref (k + 13) gS 1 0 st.length], .cells 0 vC [p64 cl],
   .cells 0 1 [.func (.func 38) [] [.ptr (k + 10) 0 0, .ptr (k + 5) 0 0, .ptr (k + 6) 0 0, .ptr (k + 9) 0 0, .ptr k 0 0, .ptr (k + 1) 0 0, .ptr (k + 11) 0 0, .ptr (k + 8) 0 0, .ptr (k + 2) 0 0]], .cells gA va al, .cells gS vS ((nL st).map (PV.int .i64) ++ (nL jk).map (PV.int .i64))]
theorem cB_cut {k n : Nat} {ga : FuncId} {ca : List PV} {f1 o1 f2 o2 f3 o3 : Bool} {rows : List (List Int)} {pr : List Int} {vA va vI vL vD vB vC gA gS vS : Nat} {ix lo : List Int} {dn : List Bool} {st jk : List Nat} {cl : Int} {S : Nat → List Nat} {ps : List (List Nat)} (hca : underL (k + 14) ca = true) :
    (cB k n ga ca (.cp (parC f1 o1 f2 o2 f3 o3 rows pr) 0) vA va vI vL vD vB vC gA gS vS ix lo dn st jk cl (alOf S ps)).all (cutOk (k + 14)) = true := by
  have h1 : underL (k + 14) (alOf S ps) = true := underL_map _ (fun P => slI false true .i64 (nL P)) (fun P => under_slI _ _ _ _ _ _ (nL P)) _
  simp only [cB, List.all_cons, List.all_nil, cutOk, PP, P1, P2, P3, P4, P5, P6, P7, P8, P9, P10, P11, P12, P13, P14, L1, P15, N1, N2, N3, N4, N5, N6, N7, I1, I2, I3, I4, I5, I6, I7, reduceIte, reduceCtorEq, hca, h1, Nat.add_lt_add_iff_left, Nat.lt_add_right_iff_pos, Nat.lt_add_left_iff_pos, PV.under]
  done
section
variable {tab : FuncId → Option AF} (T : HasA tab)
include T
theorem values30_p {M : Mem} {K : PV → Mem → Prop} {L id : Nat} {f o : Bool} {row : List Int} (J : Nat → Mem → Prop) (hb : row.length < big) (h0 : J 0 M)
    (hid : ∀ k N, J k N → N[id]? = some (.cells 0 0 [slI f o .i64 row]) ∧ ∃ ver r, N[L]? = some (.loop ver r))
    (hy : ∀ k N x, J k N → row[k]? = some x → ∀ K' : PV → Mem → Prop, (∀ N', J (k + 1) N' → K' (.bool true) N') → SemY tab L [p64 x] N K')
    (hk : ∀ N, J row.length N → K (.tuple []) N) :
    SemC tab 42 [.yld L [], .ptr id 0 0] M K := by
  refine SemC_fn T.h42 ?_
  obtain ⟨q1, _⟩ := hid 0 M h0
  simp only [af42, PP, P1, P2, P3, P4, P5, P6, P7, P8, P9, P10, P11, P12, P13, P14, L1, P15, N1, N2, N3, N4, N5, N6, N7, I1, I2, I3, I4, I5, I6, I7, reduceIte, reduceCtorEq, q1]
  refine loop2 (fun (k : Nat) (N : Mem) => k ≤ row.length ∧ J k N) (fun k N => [.yld L [], .junk, .junk, .junk, .junk, slI f o .i64 row, p64 row.length, p64 k, .junk, .junk, .junk, .junk, .junk, .junk, .junk, .junk]) (fun k N => N) (fun k N => row.length - k) 0 M ⟨by omega, h0⟩ (by simp only [PWeak_nil, PWeak_junk, PWeak_same, Int.cast_ofNat_Int, List.length_append, List.length_cons, List.length_nil, Nat.zero_add]) rfl ?_
  intro k N ⟨hle, hJ⟩ ih
  refine SemW_go (by kernel_rfl) ?_
  simp only [PP, P1, P2, P3, P4, P5, P6, P7, P8, P9, P10, P11, P12, P13, P14, L1, P15, N1, N2, N3, N4, N5, N6, N7, I1, I2, I3, I4, I5, I6, I7, reduceIte, reduceCtorEq]
  refine QIf.intro (fun c => ?_) (fun c => ?_)
  · have hk' : k < row.length := by omega
    have h0 : (0 : Int) ≤ k := by omega
    have hw := wrap_succ (k := k) (by show _ < 1000000000000; have : row.length < 1000000000000 := hb; omega)
    obtain ⟨x, e⟩ := some_of hk'
    simp only [PP, P1, P2, P3, P4, P5, P6, P7, P8, P9, P10, P11, P12, P13, P14, L1, P15, N1, N2, N3, N4, N5, N6, N7, I1, I2, I3, I4, I5, I6, I7, reduceIte, reduceCtorEq, c, h0, e, QCall_yld]
    refine ⟨(hid k N hJ).2, hy k N x hJ e _ fun N' hN' => ?_⟩
    simp only [PP, P1, P2, P3, P4, P5, P6, P7, P8, P9, P10, P11, P12, P13, P14, L1, P15, N1, N2, N3, N4, N5, N6, N7, I1, I2, I3, I4, I5, I6, I7, reduceIte, reduceCtorEq, hw]
    exact SemW_weak (ih (k + 1) N' ⟨by omega, hN'⟩ (by omega)) (by simp only [PWeak_nil, PWeak_junk, PWeak_same, Int.cast_ofNat_Int, List.length_append, List.length_cons, List.length_nil, Nat.zero_add])
  · have : k = row.length := by omega
    subst this
    simp only [PP, P1, P2, P3, P4, P5, P6, P7, P8, P9, P10, P11, P12, P13, P14, L1, P15, N1, N2, N3, N4, N5, N6, N7, I1, I2, I3, I4, I5, I6, I7, reduceIte, reduceCtorEq, c]
    exact hk N hJ
set_option maxHeartbeats 800000 in
theorem visit30_p {M : Mem} {n : Nat} {ga : FuncId} {ca : List PV} {f1 o1 f2 o2 f3 o3 : Bool} {rows : List (List Int)} {pr : List Int} {A : Nat → Bool}
    (hn : n < 1000000) (lr : rows.length = n) (hrow : ∀ r ∈ rows, r.length < big) (hrx : ∀ r ∈ rows, ∀ x ∈ r, 0 ≤ x ∧ x < n) (hc : ∀ m, M.length ≤ m → M.all (cutOk m) = true) (hca : ∀ m, M.length ≤ m → underL m ca = true)
    (hA : ∀ v, v < n → ∀ (l : Mem) (K' : PV → Mem → Prop), K' (.bool (A v)) (M ++ l) → SemC tab ga (p64 v :: ca) (M ++ l) K') :
    ∀ (d s : Nat) (vA va vI vL vD vB vC gA gS vS : Nat) (ix lo : List Int) (dn : List Bool) (st jk : List Nat) (cl : Int) (ps : List (List Nat)) (K : PV → Mem → Prop),
      cntZ n ix ≤ d → s < n → lo.length = n → TI n (fun v => A v = true) (Sf rows) ix dn st cl ps → XT n ix st jk cl ps → A s = true → gI ix s = 0 →
      (∀ (vA va vI vL vD vB vC gA gS vS : Nat) (ix' lo' : List Int) (dn' : List Bool) (st' jk' : List Nat) (cl' : Int) (ps' : List (List Nat)), VT n (fun v => A v = true) (Sf rows) s ix lo dn st cl ix' lo' dn' st' cl' ps' → XT n ix' st' jk' cl' ps' →
        K (.tuple []) (M ++ cB M.length n ga ca (.cp (parC f1 o1 f2 o2 f3 o3 rows pr) 0) vA va vI vL vD vB vC gA gS vS ix' lo' dn' st' jk' cl' (alOf (Sf rows) ps'))) →
      SemC tab 38 [p64 s, .ptr (M.length + 10) 0 0, .ptr (M.length + 5) 0 0, .ptr (M.length + 6) 0 0, .ptr (M.length + 9) 0 0, .ptr M.length 0 0, .ptr (M.length + 1) 0 0, .ptr (M.length + 11) 0 0, .ptr (M.length + 8) 0 0, .ptr (M.length + 2) 0 0]
        (M ++ cB M.length n ga ca (.cp (parC f1 o1 f2 o2 f3 o3 rows pr) 0) vA va vI vL vD vB vC gA gS vS ix lo dn st jk cl (alOf (Sf rows) ps)) K := by
  intro d
  induction d with
  | zero =>
    intro s vA va vI vL vD vB vC gA gS vS ix lo dn st jk cl ps K hd hs _ _ _ _ hix
    have h1 : cntZ n (ix.set s 1) < cntZ n ix ∨ ¬ s < ix.length := by
      by_cases q : s < ix.length
      · refine .inl (cntZ_lt hs hix (by rw [gI_set q, if_pos rfl]; decide) fun v hv => ?_)
        rw [gI_set q]
        split
        · decide
        · exact hv
      · exact .inr q
    intro _
    rename_i T0 _ _ _
    have := T0.li
    omega
  | succ d IH =>
  intro s vA va vI vL vD vB vC gA gS vS ix lo dn st jk cl ps K hd hs ll T0 X0 hAs hix hk
  have li := T0.li
  have ld := T0.ld
  have hst := X0.sl
  have hcl := T0.c0
  have hcl2 := X0.cz
  have s0 : (0 : Int) ≤ s := by omega
  have sn : (s : Int) < n := by omega
  have sn1 : s + 1 ≤ n := hs
  have hwc : IntKind.i64.wrap (cl + 1) = cl + 1 := wrap64 (by omega) (by omega)
  have hps : psub ((nL st).map (PV.int .i64) ++ (nL jk).map (PV.int .i64)) 0 st.length = (nL st).map (PV.int .i64) := by simp [psub]
  have c8 : (st.length + 1) * 8 ≤ 140737488355328 := by omega
  have c1 : st.length + 1 ≤ 9223372036854775807 := by omega
  have c2 : st.length ≤ st.length + jk.length := by omega
  have X1 : XT n (ix.set s (cl + 1)) (st ++ s :: []) [] (cl + 1) ps := by
    have := cntZ_lt (ix' := ix.set s (cl + 1)) hs hix (by rw [gI_set (by omega), if_pos rfl]; omega) fun v hv => by
      rw [gI_set (by omega)]
      split
      · omega
      · exact hv
    exact ⟨by simp; omega, by omega, by simp; omega, X0.pl⟩
  refine SemC_res (SemC_fn T.h38 ?_)
  simp only [af38, cB, PP, P1, P2, P3, P4, P5, P6, P7, P8, P9, P10, P11, P12, P13, P14, L1, P15, N1, N2, N3, N4, N5, N6, N7, I1, I2, I3, I4, I5, I6, I7, reduceIte, reduceCtorEq, List.append_assoc, getK, getK0, setK, setK0, s0, sn, sn1, li, ll, hwc, hps, c8, c1, c2]
  refine ⟨by simp, ?_⟩
  obtain ⟨r, gr⟩ := some_of (xs := rows) (k := s) (by omega)
  refine SemC_fn T.h36 ?_
  simp only [af36, PP, P1, P2, P3, P4, P5, P6, P7, P8, P9, P10, P11, P12, P13, P14, L1, P15, N1, N2, N3, N4, N5, N6, N7, I1, I2, I3, I4, I5, I6, I7, reduceIte, reduceCtorEq, List.append_assoc, getK, getK0, setK, setK0, s0, sn, gr, lr]
  refine SemC_fn T.h37 ?_
  simp only [af37, PP, P1, P2, P3, P4, P5, P6, P7, P8, P9, P10, P11, P12, P13, P14, L1, P15, N1, N2, N3, N4, N5, N6, N7, I1, I2, I3, I4, I5, I6, I7, reduceIte, reduceCtorEq, List.append_assoc, getK, getK0, setK, setK0]
  refine SemW_rangeN rfl (fun lp q1 q2 q3 q4 q5 q6 => ?_)
  simp only [PP, P1, P2, P3, P4, P5, P6, P7, P8, P9, P10, P11, P12, P13, P14, L1, P15, N1, N2, N3, N4, N5, N6, N7, I1, I2, I3, I4, I5, I6, I7, reduceIte, reduceCtorEq, List.append_assoc, getK, getK0, setK, setK0]
  have hbr : r.length < big := hrow r (List.mem_of_getElem? gr)
  have hlp : ∀ B, lp.body = B → (⟨.ready, none, lp.tmps, lp.params, lp.assign, B⟩ : PLoop) = lp := fun B hB => by cases lp; simp_all
  have hSf : Sf rows s = r.map Int.toNat := by simp [Sf, List.getD, gr]
  refine values30_p T (f := f2) (o := o2) (fun k N => ∃ (vA va vI vL vD vB vC gA gS vS vself ver : Nat) (ix' lo' : List Int) (dn' : List Bool) (e jk' : List Nat) (cl' : Int) (ps' : List (List Nat)), MT n (fun v => A v = true) (Sf rows) s ix lo dn st cl ((r.take k).map Int.toNat) ix' lo' dn' e cl' ps' ∧ XT n ix' (st ++ s :: e) jk' cl' ps' ∧ N = M ++ (cB M.length n ga ca (.cp (parC f1 o1 f2 o2 f3 o3 rows pr) 0) vA va vI vL vD vB vC gA gS vS ix' lo' dn' (st ++ s :: e) jk' cl' (alOf (Sf rows) ps') ++ [.cells 0 0 [p64 s], .cells 0 vself [.bool (decide (s ∈ (r.take k).map Int.toNat))], .cells 0 0 [slI f2 o2 .i64 r], .loop ver lp])) hbr ⟨vA, va, vI + 1, vL + 1, vD, vB + 1, vC + 1, gA, gS + 1, 0, 1, 0, ix.set s (cl + 1), lo.set s (cl + 1), dn, [], [], cl + 1, ps, MT.start T0 hs hAs hix ll, X1, ?_⟩ ?_ ?_ ?_
  · simp only [cB, nL, List.map_set, List.map_append, List.map_cons, List.map_nil, List.cons_append, List.nil_append, List.append_nil, List.length_append, List.length_cons, List.length_nil, List.take_zero, List.not_mem_nil, decide_false]
  · rintro k N ⟨vA, va, vI, vL, vD, vB, vC, gA, gS, vS, vself, ver, ix', lo', dn', e, jk', cl', ps', m, X, rfl⟩
    exact ⟨by rw [getK]; rfl, ver, lp, by rw [getK]; rfl⟩
  · rintro k N x ⟨vA, va, vI, vL, vD, vB, vC, gA, gS, vS, vself, ver, ix', lo', dn', e, jk', cl', ps', m, X, rfl⟩ hx K' hK'
    obtain ⟨sf, hsf⟩ : ∃ sf, decide (s ∈ List.map Int.toNat (List.take k r)) = sf := ⟨_, rfl⟩
    rw [hsf]
    refine SemY_run (ver := ver) (r := lp) (by rw [getK]; rfl) (by rw [q4]; rfl) ?_
    rw [q3, q4, q5]
    refine SemW_of ?_
    simp only [psetAll, PP, P1, P2, P3, P4, P5, P6, P7, P8, P9, P10, P11, P12, P13, P14, L1, P15, N1, N2, N3, N4, N5, N6, N7, I1, I2, I3, I4, I5, I6, I7, reduceIte, reduceCtorEq]
    refine ⟨ver, lp, by rw [getK]; rfl, q1, ?_⟩
    rw [q6]
    refine SemW_of ?_
    simp only [cB, PP, P1, P2, P3, P4, P5, P6, P7, P8, P9, P10, P11, P12, P13, P14, L1, P15, N1, N2, N3, N4, N5, N6, N7, I1, I2, I3, I4, I5, I6, I7, reduceIte, reduceCtorEq, List.append_assoc, getK, getK0, setK, setK0]
    obtain ⟨x0, xn⟩ := hrx r (List.mem_of_getElem? gr) x (List.mem_of_getElem? hx)
    obtain ⟨t, rfl⟩ : ∃ t : Nat, x = t := ⟨x.toNat, by omega⟩
    have htn : t < n := by omega
    have htake : (r.take (k + 1)).map Int.toNat = (r.take k).map Int.toNat ++ [t] := by rw [List.take_add_one, hx, List.map_append]; simp
    have hd1 : decide (s ∈ List.map Int.toNat (List.take k r)) = true → decide (s ∈ List.map Int.toNat (List.take (k + 1) r)) = true := fun h => by
      rw [htake]; simp only [List.mem_append, decide_eq_true_eq] at h ⊢; exact .inl h
    have hd2 : decide (s ∈ List.map Int.toNat (List.take k r)) = false → decide (s ∈ List.map Int.toNat (List.take (k + 1) r)) = decide ((t : Int) = (s : Int)) := fun h => by
      rw [htake]; simp only [decide_eq_false_iff_not] at h
      rw [decide_eq_decide, List.mem_append, List.mem_singleton]
      exact ⟨fun q => q.elim (fun q => absurd q h) fun q => by omega, fun q => .inr (by omega)⟩
    refine hA t htn _ _ ?_
    cases hAt : A t with
    | false =>
      have m2 := m.skip (t := t) (fun h => by rw [hAt] at h; cases h)
      rw [← htake] at m2
      simp only [PP, P1, P2, P3, P4, P5, P6, P7, P8, P9, P10, P11, P12, P13, P14, L1, P15, N1, N2, N3, N4, N5, N6, N7, I1, I2, I3, I4, I5, I6, I7, reduceIte, reduceCtorEq, List.append_assoc, getK, getK0, setK, setK0]
      cases sf with
      | true =>
        simp only [PP, P1, P2, P3, P4, P5, P6, P7, P8, P9, P10, P11, P12, P13, P14, L1, P15, N1, N2, N3, N4, N5, N6, N7, I1, I2, I3, I4, I5, I6, I7, reduceIte, reduceCtorEq, List.append_assoc, getK, getK0, setK, setK0]
        refine ⟨ver + 1, _, by rw [getK]; rfl, ?_⟩
        rw [if_pos rfl]
        refine hK' _ ⟨vA, va, vI, vL, vD, vB, vC, gA, gS, vS, vself + 1, ver + 1 + 1, ix', lo', dn', e, jk', cl', ps', m2, X, ?_⟩
        simp only [cB, nL, PP, P1, P2, P3, P4, P5, P6, P7, P8, P9, P10, P11, P12, P13, P14, L1, P15, N1, N2, N3, N4, N5, N6, N7, I1, I2, I3, I4, I5, I6, I7, reduceIte, reduceCtorEq, List.append_assoc, getK, getK0, setK, setK0, hlp _ q6, hd1 hsf, List.map_set]
      | false =>
        simp only [PP, P1, P2, P3, P4, P5, P6, P7, P8, P9, P10, P11, P12, P13, P14, L1, P15, N1, N2, N3, N4, N5, N6, N7, I1, I2, I3, I4, I5, I6, I7, reduceIte, reduceCtorEq, List.append_assoc, getK, getK0, setK, setK0]
        refine ⟨ver + 1, _, by rw [getK]; rfl, ?_⟩
        rw [if_pos rfl]
        refine hK' _ ⟨vA, va, vI, vL, vD, vB, vC, gA, gS, vS, vself + 1, ver + 1 + 1, ix', lo', dn', e, jk', cl', ps', m2, X, ?_⟩
        simp only [cB, nL, PP, P1, P2, P3, P4, P5, P6, P7, P8, P9, P10, P11, P12, P13, P14, L1, P15, N1, N2, N3, N4, N5, N6, N7, I1, I2, I3, I4, I5, I6, I7, reduceIte, reduceCtorEq, List.append_assoc, getK, getK0, setK, setK0, hlp _ q6, hd2 hsf, List.map_set]
    | true =>
      have t0 : (0 : Int) ≤ t := by omega
      have tn : (t : Int) < n := by omega
      have li' := m.ti.li
      have ld' := m.ti.ld
      have ll' := m.ll
      obtain ⟨y, gy⟩ := some_of (xs := ix') (k := t) (by omega)
      have ey : gI ix' t = y := getD_some gy
      simp only [PP, P1, P2, P3, P4, P5, P6, P7, P8, P9, P10, P11, P12, P13, P14, L1, P15, N1, N2, N3, N4, N5, N6, N7, I1, I2, I3, I4, I5, I6, I7, reduceIte, reduceCtorEq, List.append_assoc, getK, getK0, setK, setK0, t0, tn, gy, li']
      refine QIf.intro (fun c => ?_) (fun c => ?_)
      · simp only [PP, P1, P2, P3, P4, P5, P6, P7, P8, P9, P10, P11, P12, P13, P14, L1, P15, N1, N2, N3, N4, N5, N6, N7, I1, I2, I3, I4, I5, I6, I7, reduceIte, reduceCtorEq, List.append_assoc, getK, getK0, setK, setK0, c]
        refine SemC_pre3 (m := M.length + 14) (N := M ++ cB M.length n ga ca (.cp (parC f1 o1 f2 o2 f3 o3 rows pr) 0) vA va vI vL vD vB vC gA gS vS ix' lo' dn' (st ++ s :: e) jk' cl' (alOf (Sf rows) ps')) ?_ (by simp) (by simp only [PP, P1, P2, P3, P4, P5, P6, P7, P8, P9, P10, P11, P12, P13, P14, L1, P15, N1, N2, N3, N4, N5, N6, N7, I1, I2, I3, I4, I5, I6, I7, reduceIte, reduceCtorEq, PV.under, Nat.add_lt_add_iff_left, Nat.lt_add_right_iff_pos]) ?_ ?_
        · rw [takeK]; simp only [cB, nL, PP, P1, P2, P3, P4, P5, P6, P7, P8, P9, P10, P11, P12, P13, P14, L1, P15, N1, N2, N3, N4, N5, N6, N7, I1, I2, I3, I4, I5, I6, I7, reduceIte, reduceCtorEq, List.append_assoc]
        · rw [List.all_append, hc _ (by omega)]
          exact cB_cut (hca _ (by omega))
        rw [dropK]
        simp only [List.drop_succ_cons, List.drop_zero]
        have hz : cntZ n ix' < cntZ n ix := cntZ_lt hs hix (by rw [m.is]; omega) fun v hv => by rw [(m.keep v hv).1]; exact hv
        refine IH t vA va vI vL vD vB vC gA gS vS ix' lo' dn' (st ++ s :: e) jk' cl' ps' _ (by omega) htn ll' m.ti X hAt (by rw [ey]; exact c) ?_
        intro vA va vI vL vD vB vC gA gS vS ix2 lo2 dn2 st2 jk2 cl2 ps2 V X2
        refine ⟨by simp only [PP, P1, P2, P3, P4, P5, P6, P7, P8, P9, P10, P11, P12, P13, P14, L1, P15, N1, N2, N3, N4, N5, N6, N7, I1, I2, I3, I4, I5, I6, I7, reduceIte, reduceCtorEq], by simp only [List.length_append, List.length_cons, List.length_nil, cB], ?_, ?_⟩
        · rw [List.all_append, hc _ (by omega)]
          exact cB_cut (hca _ (by omega))
        have li2 := V.ti.li
        have ll2 := V.ll
        obtain ⟨a, ga2⟩ := some_of (xs := lo2) (k := s) (by omega)
        obtain ⟨b, gb2⟩ := some_of (xs := lo2) (k := t) (by omega)
        have ea : gI lo2 s = a := getD_some ga2
        have eb : gI lo2 t = b := getD_some gb2
        obtain ⟨e2, rfl, m2⟩ := m.child (mn := min a b) V (by omega) (by omega) (by omega)
        rw [← htake] at m2
        simp only [PP, P1, P2, P3, P4, P5, P6, P7, P8, P9, P10, P11, P12, P13, P14, L1, P15, N1, N2, N3, N4, N5, N6, N7, I1, I2, I3, I4, I5, I6, I7, reduceIte, reduceCtorEq, List.append_assoc, getK, getK0, setK, setK0, t0, tn, s0, sn, sn1, ga2, gb2, ll2, pminV_two]
        cases sf with
        | true =>
          simp only [PP, P1, P2, P3, P4, P5, P6, P7, P8, P9, P10, P11, P12, P13, P14, L1, P15, N1, N2, N3, N4, N5, N6, N7, I1, I2, I3, I4, I5, I6, I7, reduceIte, reduceCtorEq, List.append_assoc, getK, getK0, setK, setK0]
          refine ⟨ver + 1, _, by rw [getK]; rfl, ?_⟩
          rw [if_pos rfl]
          refine hK' _ ⟨vA, va, vI, vL + 1, vD, vB, vC, gA, gS, vS, vself + 1, ver + 1 + 1, ix2, lo2.set s (min a b), dn2, e2, jk2, cl2, ps2, m2, X2, ?_⟩
          simp only [cB, nL, PP, P1, P2, P3, P4, P5, P6, P7, P8, P9, P10, P11, P12, P13, P14, L1, P15, N1, N2, N3, N4, N5, N6, N7, I1, I2, I3, I4, I5, I6, I7, reduceIte, reduceCtorEq, List.append_assoc, getK, getK0, setK, setK0, hlp _ q6, hd1 hsf, List.map_set]
        | false =>
          simp only [PP, P1, P2, P3, P4, P5, P6, P7, P8, P9, P10, P11, P12, P13, P14, L1, P15, N1, N2, N3, N4, N5, N6, N7, I1, I2, I3, I4, I5, I6, I7, reduceIte, reduceCtorEq, List.append_assoc, getK, getK0, setK, setK0]
          refine ⟨ver + 1, _, by rw [getK]; rfl, ?_⟩
          rw [if_pos rfl]
          refine hK' _ ⟨vA, va, vI, vL + 1, vD, vB, vC, gA, gS, vS, vself + 1, ver + 1 + 1, ix2, lo2.set s (min a b), dn2, e2, jk2, cl2, ps2, m2, X2, ?_⟩
          simp only [cB, nL, PP, P1, P2, P3, P4, P5, P6, P7, P8, P9, P10, P11, P12, P13, P14, L1, P15, N1, N2, N3, N4, N5, N6, N7, I1, I2, I3, I4, I5, I6, I7, reduceIte, reduceCtorEq, List.append_assoc, getK, getK0, setK, setK0, hlp _ q6, hd2 hsf, List.map_set]
      · obtain ⟨d, gd⟩ := some_of (xs := dn') (k := t) (by omega)
        cases d with
        | true =>
          have m2 := m.skip (t := t) (fun _ => (bm_of gd).2 rfl)
          rw [← htake] at m2
          simp only [PP, P1, P2, P3, P4, P5, P6, P7, P8, P9, P10, P11, P12, P13, P14, L1, P15, N1, N2, N3, N4, N5, N6, N7, I1, I2, I3, I4, I5, I6, I7, reduceIte, reduceCtorEq, List.append_assoc, getK, getK0, setK, setK0, c, t0, tn, gd, ld']
          cases sf with
          | true =>
            simp only [PP, P1, P2, P3, P4, P5, P6, P7, P8, P9, P10, P11, P12, P13, P14, L1, P15, N1, N2, N3, N4, N5, N6, N7, I1, I2, I3, I4, I5, I6, I7, reduceIte, reduceCtorEq, List.append_assoc, getK, getK0, setK, setK0]
            refine ⟨ver + 1, _, by rw [getK]; rfl, ?_⟩
            rw [if_pos rfl]
            refine hK' _ ⟨vA, va, vI, vL, vD, vB, vC, gA, gS, vS, vself + 1, ver + 1 + 1, ix', lo', dn', e, jk', cl', ps', m2, X, ?_⟩
            simp only [cB, nL, PP, P1, P2, P3, P4, P5, P6, P7, P8, P9, P10, P11, P12, P13, P14, L1, P15, N1, N2, N3, N4, N5, N6, N7, I1, I2, I3, I4, I5, I6, I7, reduceIte, reduceCtorEq, List.append_assoc, getK, getK0, setK, setK0, hlp _ q6, hd1 hsf, List.map_set]
          | false =>
            simp only [PP, P1, P2, P3, P4, P5, P6, P7, P8, P9, P10, P11, P12, P13, P14, L1, P15, N1, N2, N3, N4, N5, N6, N7, I1, I2, I3, I4, I5, I6, I7, reduceIte, reduceCtorEq, List.append_assoc, getK, getK0, setK, setK0]
            refine ⟨ver + 1, _, by rw [getK]; rfl, ?_⟩
            rw [if_pos rfl]
            refine hK' _ ⟨vA, va, vI, vL, vD, vB, vC, gA, gS, vS, vself + 1, ver + 1 + 1, ix', lo', dn', e, jk', cl', ps', m2, X, ?_⟩
            simp only [cB, nL, PP, P1, P2, P3, P4, P5, P6, P7, P8, P9, P10, P11, P12, P13, P14, L1, P15, N1, N2, N3, N4, N5, N6, N7, I1, I2, I3, I4, I5, I6, I7, reduceIte, reduceCtorEq, List.append_assoc, getK, getK0, setK, setK0, hlp _ q6, hd2 hsf, List.map_set]
        | false =>
          have hin : t ∈ st ++ s :: e := (m.ti.vis t htn (by rw [ey]; exact c)).resolve_right (fun h => by rw [bm_of gd] at h; cases h)
          obtain ⟨a, ga'⟩ := some_of (xs := lo') (k := s) (by omega)
          have ea : gI lo' s = a := getD_some ga'
          have m2 := m.back (mn := min a y) hin (by omega) (by omega) (by omega)
          rw [← htake] at m2
          simp only [PP, P1, P2, P3, P4, P5, P6, P7, P8, P9, P10, P11, P12, P13, P14, L1, P15, N1, N2, N3, N4, N5, N6, N7, I1, I2, I3, I4, I5, I6, I7, reduceIte, reduceCtorEq, List.append_assoc, getK, getK0, setK, setK0, c, t0, tn, gd, ld', s0, sn, sn1, ga', ll', gy, li', pminV_two]
          cases sf with
          | true =>
            simp only [PP, P1, P2, P3, P4, P5, P6, P7, P8, P9, P10, P11, P12, P13, P14, L1, P15, N1, N2, N3, N4, N5, N6, N7, I1, I2, I3, I4, I5, I6, I7, reduceIte, reduceCtorEq, List.append_assoc, getK, getK0, setK, setK0]
            refine ⟨ver + 1, _, by rw [getK]; rfl, ?_⟩
            rw [if_pos rfl]
            refine hK' _ ⟨vA, va, vI, vL + 1, vD, vB, vC, gA, gS, vS, vself + 1, ver + 1 + 1, ix', lo'.set s (min a y), dn', e, jk', cl', ps', m2, X, ?_⟩
            simp only [cB, nL, PP, P1, P2, P3, P4, P5, P6, P7, P8, P9, P10, P11, P12, P13, P14, L1, P15, N1, N2, N3, N4, N5, N6, N7, I1, I2, I3, I4, I5, I6, I7, reduceIte, reduceCtorEq, List.append_assoc, getK, getK0, setK, setK0, hlp _ q6, hd1 hsf, List.map_set]
          | false =>
            simp only [PP, P1, P2, P3, P4, P5, P6, P7, P8, P9, P10, P11, P12, P13, P14, L1, P15, N1, N2, N3, N4, N5, N6, N7, I1, I2, I3, I4, I5, I6, I7, reduceIte, reduceCtorEq, List.append_assoc, getK, getK0, setK, setK0]
            refine ⟨ver + 1, _, by rw [getK]; rfl, ?_⟩
            rw [if_pos rfl]
            refine hK' _ ⟨vA, va, vI, vL + 1, vD, vB, vC, gA, gS, vS, vself + 1, ver + 1 + 1, ix', lo'.set s (min a y), dn', e, jk', cl', ps', m2, X, ?_⟩
            simp only [cB, nL, PP, P1, P2, P3, P4, P5, P6, P7, P8, P9, P10, P11, P12, P13, P14, L1, P15, N1, N2, N3, N4, N5, N6, N7, I1, I2, I3, I4, I5, I6, I7, reduceIte, reduceCtorEq, List.append_assoc, getK, getK0, setK, setK0, hlp _ q6, hd2 hsf, List.map_set]
  · rintro N ⟨vA, va, vI, vL, vD, vB, vC, gA, gS, vS, vself, ver, ix', lo', dn', e, jk', cl', ps', m, X, rfl⟩
    have htk : (r.take r.length).map Int.toNat = r.map Int.toNat := by rw [List.take_of_length_le (Nat.le_refl _)]
    rw [htk] at m
    rw [htk]
    have li' := m.ti.li
    have ld' := m.ti.ld
    have ll' := m.ll
    have hall : ∀ t ∈ Sf rows s, t ∈ r.map Int.toNat := fun t ht => by rw [hSf] at ht; exact ht
    obtain ⟨a, ga'⟩ := some_of (xs := lo') (k := s) (by omega)
    obtain ⟨b, gb'⟩ := some_of (xs := ix') (k := s) (by omega)
    have ea : gI lo' s = a := getD_some ga'
    have eb : gI ix' s = b := getD_some gb'
    refine ⟨ver, lp, by rw [getK]; rfl, by rw [q1]; exact (by intro h; cases h), ?_⟩
    rw [q2]
    simp only [cB, PP, P1, P2, P3, P4, P5, P6, P7, P8, P9, P10, P11, P12, P13, P14, L1, P15, N1, N2, N3, N4, N5, N6, N7, I1, I2, I3, I4, I5, I6, I7, reduceIte, reduceCtorEq, List.append_assoc, getK, getK0, setK, setK0, s0, sn, ga', gb', li', ll']
    refine QIf.intro (fun cc => ?_) (fun cc => ?_)
    · simp only [PP, P1, P2, P3, P4, P5, P6, P7, P8, P9, P10, P11, P12, P13, P14, L1, P15, N1, N2, N3, N4, N5, N6, N7, I1, I2, I3, I4, I5, I6, I7, reduceIte, reduceCtorEq, List.append_assoc, getK, getK0, setK, setK0, cc]
      have hnin : (s : Int) ∉ nL st := fun h => by
        obtain ⟨w, hw, ew⟩ := List.mem_map.1 h
        have h1 := (List.pairwise_append.1 m.ti.rise).2.2 w hw s (by simp)
        have : w = s := by omega
        subst this
        omega
      have hlen : (nL (st ++ s :: e)).length = st.length + (e.length + 1) := by simp
      have hsl' := X.sl
      have hcz' := X.cz
      simp only [List.length_append, List.length_cons] at hsl'
      have hix2 : idxI s 0 (nL (st ++ s :: e)) = (st.length : Int) := by
        have := idxI_app s (nL st) (nL e) 0 hnin
        simpa [nL] using this
      refine SemC_bor (args2 := [slI true false .i64 (nL (st ++ s :: e)), p64 s]) ?_ (index_p T (xs := nL (st ++ s :: e)) (by rw [hlen]; show _ < 1000000000000; omega) ⟨rfl, ?_⟩)
      · show PBor _ _ [.sl true false 1 (nL (st ++ s :: e)).length _, _]
        rw [hlen]
        refine .ref (by rw [getK]; rfl) (by simp) (underL_ints _ _ _) ?_ (.same rfl .nil)
        rw [show List.map (PV.int .i64) (List.map (fun (x : Nat) => (x : Int)) st) ++ PV.int .i64 s :: (List.map (PV.int .i64) (List.map (fun (x : Nat) => (x : Int)) e) ++ List.map (PV.int .i64) (nL jk')) = List.map (PV.int .i64) (nL (st ++ s :: e)) ++ List.map (PV.int .i64) (nL jk') by simp [nL]]
        exact psub_app _ _ _ (by simp)
      have z1 : (0 : Int) ≤ st.length := by omega
      have z2 : (st.length : Int) ≤ ((st.length + (e.length + 1) : Nat) : Int) := by omega
      have z3 : (((st.length + (e.length + 1) : Nat) : Int) - (st.length : Int)).toNat = e.length + 1 := by omega
      rw [hix2]
      simp only [PP, P1, P2, P3, P4, P5, P6, P7, P8, P9, P10, P11, P12, P13, P14, L1, P15, N1, N2, N3, N4, N5, N6, N7, I1, I2, I3, I4, I5, I6, I7, reduceIte, reduceCtorEq, List.append_assoc, getK, getK0, setK, setK0, z1, z2, z3]
      refine ⟨Int.le_refl _, ?_⟩
      refine SemC_pre3 (m := M.length + 14) (N := M ++ cB M.length n ga ca (.cp (parC f1 o1 f2 o2 f3 o3 rows pr) 0) vA va vI vL vD vB vC gA gS vS ix' lo' dn' (st ++ s :: e) jk' cl' (alOf (Sf rows) ps')) ?_ (by simp) (by simp only [PP, P1, P2, P3, P4, P5, P6, P7, P8, P9, P10, P11, P12, P13, P14, L1, P15, N1, N2, N3, N4, N5, N6, N7, I1, I2, I3, I4, I5, I6, I7, reduceIte, reduceCtorEq, PV.under, Nat.add_lt_add_iff_left, Nat.lt_add_right_iff_pos]) ?_ ?_
      · rw [takeK]; simp only [cB, nL, PP, P1, P2, P3, P4, P5, P6, P7, P8, P9, P10, P11, P12, P13, P14, L1, P15, N1, N2, N3, N4, N5, N6, N7, I1, I2, I3, I4, I5, I6, I7, reduceIte, reduceCtorEq, List.append_assoc]
      · rw [List.all_append, hc _ (by omega)]
        exact cB_cut (hca _ (by omega))
      rw [dropK]
      simp only [List.drop_succ_cons, List.drop_zero]
      have hjl := X.jl
      simp only [List.length_append, List.length_cons] at hjl
      refine clone_r T (xs := nL (st ++ s :: e ++ jk')) (g := gS) (ver := vS) (by rw [getK]; simp only [cB, nL, PP, P1, P2, P3, P4, P5, P6, P7, P8, P9, P10, P11, P12, P13, P14, L1, P15, N1, N2, N3, N4, N5, N6, N7, I1, I2, I3, I4, I5, I6, I7, reduceIte, reduceCtorEq]) (by simp only [List.length_append, List.length_cons, List.length_map]; omega) ?_ ?_ ⟨under_slI _ _ _ _ _ _ _, by simp only [List.length_append, List.length_cons, List.length_nil, cB], ?_, ?_⟩
      · show (nL (st ++ s :: e ++ jk')).length < 1000000000000
        simp only [List.length_append, List.length_cons, List.length_map]
        omega
      · rw [List.all_append, hc _ (by simp)]
        refine (congrArg (fun i => (true && List.all _ (cutOk i))) ?_).trans (cB_cut (k := M.length) (hca _ (Nat.le_add_right _ 14)))
        simp only [List.length_append, List.length_cons, List.length_nil]
      · rw [List.all_append, hc _ (by omega)]
        exact cB_cut (hca _ (by omega))
      obtain ⟨P, hP⟩ : ∃ P, P = s :: e := ⟨_, rfl⟩
      have hPl : P.length = e.length + 1 := by rw [hP]; rfl
      have hdt : ((nL (st ++ s :: e ++ jk')).drop st.length).take (e.length + 1) = nL P := by
        rw [hP]
        simp [nL, List.map_append, List.drop_append, List.take_append]
      rw [hdt]
      have z4 : (st.length : Int) ≤ ((st.length + (e.length + 1) : Nat) : Int) := by omega
      simp only [cB, PP, P1, P2, P3, P4, P5, P6, P7, P8, P9, P10, P11, P12, P13, P14, L1, P15, N1, N2, N3, N4, N5, N6, N7, I1, I2, I3, I4, I5, I6, I7, reduceIte, reduceCtorEq, List.append_assoc, getK, getK0, setK, setK0, z1, z2, z4, Int.sub_zero]
      refine loop3 (fun (k vD : Nat) (dn2 : List Bool) => k ≤ P.length ∧ dn2.length = n ∧ ∀ v, bm dn2 v ↔ bm dn' v ∨ v ∈ P.take k) (fun k vD dn2 => [.junk, .junk, .junk, .junk, .junk, .junk, .junk, .junk, .ptr (M.length + 8) 0 0, .ptr (M.length + 2) 0 0, .junk, .ptr (M.length + 15) 0 0, .junk, .junk, slI false true .i64 (nL P), .junk, .junk, .junk, .junk, .junk, .junk, .junk, .junk, .junk, .junk, .junk, .junk, .junk, .junk, .junk, .junk, .junk, .junk, .junk, .junk, .junk, .junk, .junk, .junk, .junk, .junk, .junk, .junk, .junk, .junk, .junk, .junk, .junk, .junk, .junk, .junk, .junk, .junk, .junk, .junk, .junk, .junk, .junk, .junk, .junk, .junk, .junk, .junk, .junk, .junk, .junk, .junk, .junk, .junk, .junk, .junk, .junk, .junk, .junk, .junk, .junk, .junk, .junk, .junk, .junk, .junk, .junk, .junk, .junk, .junk, .junk, .junk, .junk, .junk, .junk, .junk, .junk, .junk, .junk, .junk, .junk, .junk, .junk, .junk, .junk, .junk, .junk, .junk, .junk, .junk, slI false true .i64 (nL P), p64 P.length, p64 k, .junk, .junk, .junk, .junk, .junk, .junk, .junk, .junk, .junk, .junk, .junk, .junk, .junk, .junk, .junk, .junk, .junk])
        (fun k vD dn2 => M ++ (cB M.length n ga ca (.cp (parC f1 o1 f2 o2 f3 o3 rows pr) 0) vA va vI vL vD (vB + 1) vC gA gS vS ix' lo' dn2 st (P ++ jk') cl' (alOf (Sf rows) ps') ++ [.cells 0 0 [p64 s], .cells 0 vself [.bool (decide (s ∈ List.map Int.toNat r))], .cells 0 0 [slI f2 o2 .i64 r], .loop (ver + 1) { lp with state := .exhausted, pending := none }]))
        (fun k _ _ => P.length - k) 0 vD dn' ⟨by omega, ld', fun v => by simp⟩ (by simp only [PWeak_nil, PWeak_junk, PWeak_same, Int.cast_ofNat_Int, List.length_append, List.length_cons, List.length_nil, Nat.zero_add]) ?_ ?_
      · rw [hP]
        simp only [cB, nL, PP, P1, P2, P3, P4, P5, P6, P7, P8, P9, P10, P11, P12, P13, P14, L1, P15, N1, N2, N3, N4, N5, N6, N7, I1, I2, I3, I4, I5, I6, I7, reduceIte, reduceCtorEq, List.append_assoc]
      intro k vD dn2 ⟨hle, ld2, hdn⟩ ih
      refine SemW_go (by kernel_rfl) ?_
      simp only [cB, PP, P1, P2, P3, P4, P5, P6, P7, P8, P9, P10, P11, P12, P13, P14, L1, P15, N1, N2, N3, N4, N5, N6, N7, I1, I2, I3, I4, I5, I6, I7, reduceIte, reduceCtorEq, List.append_assoc, getK, getK0, setK, setK0]
      refine QIf.intro (fun c => ?_) (fun c => ?_)
      · have hk' : k < P.length := by omega
        have k0 : (0 : Int) ≤ k := by omega
        have hwk := wrap_succ (k := k) (by show _ < 1000000000000; omega)
        obtain ⟨u, gu⟩ := some_of (xs := P) (k := k) hk'
        have gu2 : (nL P)[k]? = some (u : Int) := by simp [nL, gu]
        have hun : u < n := by
          have := List.mem_of_getElem? gu
          rw [hP] at this
          exact (m.ti.sn u (List.mem_append.2 (.inr this))).1
        have u0 : (0 : Int) ≤ u := by omega
        have un : (u : Int) < n := by omega
        have un1 : u + 1 ≤ n := hun
        simp only [PP, P1, P2, P3, P4, P5, P6, P7, P8, P9, P10, P11, P12, P13, P14, L1, P15, N1, N2, N3, N4, N5, N6, N7, I1, I2, I3, I4, I5, I6, I7, reduceIte, reduceCtorEq, List.append_assoc, getK, getK0, setK, setK0, c, k0, gu2, u0, un, un1, ld2, hwk]
        refine SemW_to (ih (k + 1) (vD + 1) (dn2.set u true) ⟨by omega, by simp [ld2], fun v => ?_⟩ (by omega)) (by simp only [PWeak_nil, PWeak_junk, PWeak_same, Int.cast_ofNat_Int, List.length_append, List.length_cons, List.length_nil, Nat.zero_add]) (by simp only [cB, nL, PP, P1, P2, P3, P4, P5, P6, P7, P8, P9, P10, P11, P12, P13, P14, L1, P15, N1, N2, N3, N4, N5, N6, N7, I1, I2, I3, I4, I5, I6, I7, reduceIte, reduceCtorEq, List.append_assoc, List.map_set])
        rw [bm_set (by omega), hdn, List.take_add_one, gu]
        simp only [Option.toList_some, List.mem_append, List.mem_singleton]
        exact ⟨fun h => h.elim (fun q => .inr (.inr q)) fun q => q.elim .inl fun q => .inr (.inl q), fun h => h.elim (fun q => .inr (.inl q)) fun q => q.elim (fun q => .inr (.inr q)) .inl⟩
      · have hkl : k = P.length := by omega
        subst hkl
        rw [List.take_of_length_le (Nat.le_refl _)] at hdn
        rw [hP] at hdn
        have hsl2 := X.sl
        simp only [List.length_append, List.length_cons] at hsl2
        have X2 : XT n ix' st (P ++ jk') cl' (ps' ++ [P]) := by
          refine ⟨?_, X.cz, ?_, fun Q hQ => (List.mem_append.1 hQ).elim (X.pl Q) fun q => by rw [List.mem_singleton] at q; subst q; omega⟩
          · simp only [List.length_append, List.length_cons, List.length_nil]; omega
          · simp only [List.length_append]; omega
        have V2 := m.pop hall (by omega) ld2 hdn
        rw [← hP] at V2
        have hal : (alOf (Sf rows) ps').length ≤ ps'.length := by
          unfold alOf
          rw [List.length_map]
          exact List.length_filter_le _ _
        have b24 : ((alOf (Sf rows) ps').length + 1) * 24 ≤ 140737488355328 := by omega
        have b1 : (alOf (Sf rows) ps').length + 1 ≤ 9223372036854775807 := by omega
        have hpa : psub (alOf (Sf rows) ps') 0 (alOf (Sf rows) ps').length = alOf (Sf rows) ps' := psub_all _ _ rfl
        have hcut : ∀ (vA va gA : Nat) (ps2 : List (List Nat)), (M ++ cB M.length n ga ca (.cp (parC f1 o1 f2 o2 f3 o3 rows pr) 0) vA va vI vL vD (vB + 1) vC gA gS vS ix' lo' dn2 st (P ++ jk') cl' (alOf (Sf rows) ps2)).all (cutOk (M.length + 14)) = true := fun vA va gA ps2 => by
          rw [List.all_append, hc _ (by omega)]
          exact cB_cut (hca _ (by omega))
        have hkT : keepB (Sf rows) P = true → alOf (Sf rows) (ps' ++ [P]) = alOf (Sf rows) ps' ++ [slI false true .i64 (nL P)] := alOf_snoc_t
        have hkF : keepB (Sf rows) P = false → alOf (Sf rows) (ps' ++ [P]) = alOf (Sf rows) ps' := alOf_snoc_f
        have hkv : keepB (Sf rows) P = (decide (s ∈ r.map Int.toNat) || decide (1 < P.length)) := by
          rw [hP]; simp [keepB, hSf]
        simp only [PP, P1, P2, P3, P4, P5, P6, P7, P8, P9, P10, P11, P12, P13, P14, L1, P15, N1, N2, N3, N4, N5, N6, N7, I1, I2, I3, I4, I5, I6, I7, reduceIte, reduceCtorEq, List.append_assoc, getK, getK0, setK, setK0, c]
        refine QIf.intro (fun c2 => ?_) (fun c2 => ?_)
        · have hkt : keepB (Sf rows) P = true := by rw [hkv, decide_eq_true c2]; rfl
          simp only [PP, P1, P2, P3, P4, P5, P6, P7, P8, P9, P10, P11, P12, P13, P14, L1, P15, N1, N2, N3, N4, N5, N6, N7, I1, I2, I3, I4, I5, I6, I7, reduceIte, reduceCtorEq, List.append_assoc, getK, getK0, setK, setK0, c2, b24, b1, hpa]
          refine ⟨.tuple [], M ++ cB M.length n ga ca (.cp (parC f1 o1 f2 o2 f3 o3 rows pr) 0) (vA + 1) 0 vI vL vD (vB + 1) vC (gA + 1) gS vS ix' lo' dn2 st (P ++ jk') cl' (alOf (Sf rows) (ps' ++ [P])), rfl, ?_, hk _ _ _ _ _ _ _ _ _ _ _ _ _ _ _ _ _ V2 X2⟩
          rw [takeK]
          refine (congrArg (pfrzM _ _) ?_).trans (pfrzM_all (hcut _ _ _ _))
          simp only [cB, nL, PP, P1, P2, P3, P4, P5, P6, P7, P8, P9, P10, P11, P12, P13, P14, L1, P15, N1, N2, N3, N4, N5, N6, N7, I1, I2, I3, I4, I5, I6, I7, reduceIte, reduceCtorEq, List.append_assoc, hkT hkt, slI]
        · simp only [PP, P1, P2, P3, P4, P5, P6, P7, P8, P9, P10, P11, P12, P13, P14, L1, P15, N1, N2, N3, N4, N5, N6, N7, I1, I2, I3, I4, I5, I6, I7, reduceIte, reduceCtorEq, List.append_assoc, getK, getK0, setK, setK0, c2]
          refine QIf.intro (fun c3 => ?_) (fun c3 => ?_)
          · have hkt : keepB (Sf rows) P = true := by rw [hkv, decide_eq_true (p := 1 < P.length) (by omega), Bool.or_true]
            simp only [PP, P1, P2, P3, P4, P5, P6, P7, P8, P9, P10, P11, P12, P13, P14, L1, P15, N1, N2, N3, N4, N5, N6, N7, I1, I2, I3, I4, I5, I6, I7, reduceIte, reduceCtorEq, List.append_assoc, getK, getK0, setK, setK0, c3, b24, b1, hpa]
            refine ⟨.tuple [], M ++ cB M.length n ga ca (.cp (parC f1 o1 f2 o2 f3 o3 rows pr) 0) (vA + 1) 0 vI vL vD (vB + 1) vC (gA + 1) gS vS ix' lo' dn2 st (P ++ jk') cl' (alOf (Sf rows) (ps' ++ [P])), rfl, ?_, hk _ _ _ _ _ _ _ _ _ _ _ _ _ _ _ _ _ V2 X2⟩
            rw [takeK]
            refine (congrArg (pfrzM _ _) ?_).trans (pfrzM_all (hcut _ _ _ _))
            simp only [cB, nL, PP, P1, P2, P3, P4, P5, P6, P7, P8, P9, P10, P11, P12, P13, P14, L1, P15, N1, N2, N3, N4, N5, N6, N7, I1, I2, I3, I4, I5, I6, I7, reduceIte, reduceCtorEq, List.append_assoc, hkT hkt, slI]
          · have hkf : keepB (Sf rows) P = false := by rw [hkv, decide_eq_false c2, decide_eq_false (p := 1 < P.length) (by omega)]; rfl
            simp only [PP, P1, P2, P3, P4, P5, P6, P7, P8, P9, P10, P11, P12, P13, P14, L1, P15, N1, N2, N3, N4, N5, N6, N7, I1, I2, I3, I4, I5, I6, I7, reduceIte, reduceCtorEq, List.append_assoc, getK, getK0, setK, setK0, c3]
            refine ⟨.tuple [], M ++ cB M.length n ga ca (.cp (parC f1 o1 f2 o2 f3 o3 rows pr) 0) vA va vI vL vD (vB + 1) vC gA gS vS ix' lo' dn2 st (P ++ jk') cl' (alOf (Sf rows) (ps' ++ [P])), rfl, ?_, hk _ _ _ _ _ _ _ _ _ _ _ _ _ _ _ _ _ V2 X2⟩
            rw [takeK]
            refine (congrArg (pfrzM _ _) ?_).trans (pfrzM_all (hcut _ _ _ _))
            simp only [cB, nL, PP, P1, P2, P3, P4, P5, P6, P7, P8, P9, P10, P11, P12, P13, P14, L1, P15, N1, N2, N3, N4, N5, N6, N7, I1, I2, I3, I4, I5, I6, I7, reduceIte, reduceCtorEq, List.append_assoc, hkF hkf]
    · simp only [PP, P1, P2, P3, P4, P5, P6, P7, P8, P9, P10, P11, P12, P13, P14, L1, P15, N1, N2, N3, N4, N5, N6, N7, I1, I2, I3, I4, I5, I6, I7, reduceIte, reduceCtorEq, List.append_assoc, getK, getK0, setK, setK0, cc]
      refine ⟨.tuple [], M ++ cB M.length n ga ca (.cp (parC f1 o1 f2 o2 f3 o3 rows pr) 0) vA va vI vL vD vB vC gA gS vS ix' lo' dn' (st ++ s :: e) jk' cl' (alOf (Sf rows) ps'), rfl, ?_, hk _ _ _ _ _ _ _ _ _ _ _ _ _ _ _ _ _ (m.stay hall (by omega)) X⟩
      rw [takeK]
      refine (congrArg (pfrzM _ _) ?_).trans (pfrzM_all (l := M ++ cB M.length n ga ca (.cp (parC f1 o1 f2 o2 f3 o3 rows pr) 0) vA va vI vL vD vB vC gA gS vS ix' lo' dn' (st ++ s :: e) jk' cl' (alOf (Sf rows) ps')) ?_)
      · simp only [cB, nL, PP, P1, P2, P3, P4, P5, P6, P7, P8, P9, P10, P11, P12, P13, P14, L1, P15, N1, N2, N3, N4, N5, N6, N7, I1, I2, I3, I4, I5, I6, I7, reduceIte, reduceCtorEq, List.append_assoc]
      · rw [List.all_append, hc _ (by omega)]
        exact cB_cut (hca _ (by omega))
end
end Go.Am.Ar

