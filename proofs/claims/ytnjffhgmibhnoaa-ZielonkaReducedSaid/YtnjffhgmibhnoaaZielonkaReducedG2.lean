/- Contract: strongly connected components (parity.graph.components), and what goes with it. -/
import Derived.Test.YtnjffhgmibhnoaaZielonkaReducedG1
import Derived.Test.YtnjffhgmibhnoaaZielonkaReducedG0
import Derived.Test.YtnjffhgmibhnoaaPmC
set_option linter.unusedVariables false
set_option linter.unusedSimpArgs false
set_option maxRecDepth 10000
namespace Go.Am.Ar
open Go.Am renaming pchk → P1, pold → P2, PKNo → P3, ppack → P4, PObj.under → P5, pput → P6, ptset → P7, ptget → P8, pev → P9, ofAV → P10, ofAV1 → P11, ppad → P12, pfill → P13, prepl → P14, AO.effect → P15
open List renaming replicate → L1
open Nat renaming reduceAdd → N1, reduceSub → N2, reduceMul → N3, reduceLT → N4, reduceLeDiff → N5, reduceEqDiff → N6, reduceBEq → N7
open Int renaming reduceToNat → I1, reduceLT → I2, reduceLE → I3, reduceEq → I4, reduceAdd → I5, reduceSub → I6, reduceNeg → I7
structure Parts (n : Nat) (A : Nat → Prop) (S : Nat → List Nat) (qs : List (List Nat)) : Prop where
  sub : ∀ P ∈ qs, ∀ v ∈ P, v < n ∧ A v
  dis : qs.Pairwise fun P Q => ∀ v ∈ P, v ∉ Q
  ne : ∀ P ∈ qs, P ≠ []
  len : qs.length ≤ n
  nd : ∀ P ∈ qs, P.length ≤ n
  cyc : ∀ (c : Nat → Nat) (k : Nat), 0 < k → (∀ i, c (i + k) = c i) → (∀ i, c i < n ∧ A (c i)) → (∀ i, c (i + 1) ∈ S (c i)) → ∃ P, P ∈ qs ∧ ∀ j, c j ∈ P
theorem keepB_ne {S : Nat → List Nat} {P : List Nat} (h : keepB S P = true) : P ≠ [] := by
  rintro rfl; simp [keepB] at h
theorem TI.parts {n : Nat} {A : Nat → Prop} {S : Nat → List Nat} {ix : List Int} {dn : List Bool} {jk : List Nat} {cl : Int} {ps : List (List Nat)} (T : TI n A S ix dn [] cl ps) (X : XT n ix [] jk cl ps) (hall : ∀ v, v < n → A v → bm dn v) : Parts n A S (ps.filter (keepB S)) := by
  refine ⟨fun P hP => T.pA P (List.mem_filter.1 hP).1, T.dis.filter _, fun P hP => keepB_ne (List.mem_filter.1 hP).2, ?_, fun P hP => X.pl P (List.mem_filter.1 hP).1, fun c k hk hp hX hS => ?_⟩
  · have h1 := List.length_filter_le (keepB S) ps
    have h2 := X.sl
    have h3 := X.cz
    omega
  · obtain ⟨P, hP, h1, h2⟩ := T.cycle hall hk hp hX hS
    refine ⟨P, List.mem_filter.2 ⟨hP, ?_⟩, h1⟩
    rcases h2 with h2 | ⟨h2, h3⟩
    · simp [keepB, h2]
    · rw [h2]; simp [keepB, h3]
section
variable {tab : FuncId → Option AF} (T : HasA tab)
include T
set_option maxHeartbeats 1000000 in
theorem components_p {M : Mem} {K : PV → Mem → Prop} {n : Nat} {ga : FuncId} {ca : List PV} {f1 o1 f2 o2 f3 o3 : Bool} {rows : List (List Int)} {pr : List Int} {A : Nat → Bool}
    (hn : n < 1000000) (lr : rows.length = n) (hrow : ∀ r ∈ rows, r.length < big) (hrx : ∀ r ∈ rows, ∀ x ∈ r, 0 ≤ x ∧ x < n) (hc : ∀ m, M.length ≤ m → M.all (cutOk m) = true) (hca : ∀ m, M.length ≤ m → underL m ca = true)
    (hA : ∀ v, v < n → ∀ (l : Mem) (K' : PV → Mem → Prop), K' (.bool (A v)) (M ++ l) → SemC tab ga (p64 v :: ca) (M ++ l) K')
    (hk : ∀ qs, Parts n (fun v => A v = true) (Sf rows) qs → K (slR false true false true .i64 (qs.map nL)) M) :
    SemC tab 20 [.agg [p64 n, .func (.func 36) [] [.cp (parC f1 o1 f2 o2 f3 o3 rows pr) 0]], .func (.func ga) [] ca] M K := by
  have n0 : (0 : Int) ≤ n := by omega
  have n1 : (n : Int) * 8 ≤ 140737488355328 := by omega
  have n2 : (n : Int) ≤ 9223372036854775807 := by omega
  have n3 : (n : Int) ≤ 140737488355328 := by omega
  refine SemC_res (SemC_sem T.h20 ?_)
  simp only [af20]
  refine SemW_seq (SemW_of ?_)
  simp only [PP, P1, P2, P3, P4, P5, P6, P7, P8, P9, P10, P11, P12, P13, P14, L1, P15, N1, N2, N3, N4, N5, N6, N7, I1, I2, I3, I4, I5, I6, I7, reduceIte, reduceCtorEq, List.append_assoc]
  refine SemW_seq (SemW_of ?_)
  simp only [PP, P1, P2, P3, P4, P5, P6, P7, P8, P9, P10, P11, P12, P13, P14, L1, P15, N1, N2, N3, N4, N5, N6, N7, I1, I2, I3, I4, I5, I6, I7, reduceIte, reduceCtorEq, List.append_assoc, getK, getK0, setK, setK0, n0, n1, n2, n3, Int.le_refl]
  refine ⟨by simp, SemW_of ?_⟩
  simp only [PP, P1, P2, P3, P4, P5, P6, P7, P8, P9, P10, P11, P12, P13, P14, L1, P15, N1, N2, N3, N4, N5, N6, N7, I1, I2, I3, I4, I5, I6, I7, reduceIte, reduceCtorEq, List.append_assoc, getK, getK0, setK, setK0, n0, n1, n2, n3, Int.le_refl]
  refine ⟨by omega, ?_⟩
  refine SemW_re (GStep.nilbox (M.length + 2) 0 1 (by rw [getK]; rfl) rfl rfl) ?_
  refine SemW_re (GStep.nilbox (M.length + 9) 0 1 (by rw [setK, List.append_assoc, getK]; rfl) rfl rfl) ?_
  simp only [PP, P1, P2, P3, P4, P5, P6, P7, P8, P9, P10, P11, P12, P13, P14, L1, P15, N1, N2, N3, N4, N5, N6, N7, I1, I2, I3, I4, I5, I6, I7, reduceIte, reduceCtorEq, List.append_assoc, setK]
  have ga0 : alOf (Sf rows) [] = [] := rfl
  have cz0 : cntZ n (List.replicate n 0) ≤ n := by
    unfold cntZ
    exact Nat.le_trans (List.length_filter_le _ _) (by simp)
  refine loop2 (fun (k : Nat) (N : Mem) => k ≤ n ∧ ∃ (vA va vI vL vD vB vC gA gS vS : Nat) (ix lo : List Int) (dn : List Bool) (jk : List Nat) (cl : Int) (ps : List (List Nat)), TI n (fun v => A v = true) (Sf rows) ix dn [] cl ps ∧ XT n ix [] jk cl ps ∧ lo.length = n ∧ (∀ v, v < k → A v = true → bm dn v) ∧ N = M ++ cB M.length n ga ca (.cp (parC f1 o1 f2 o2 f3 o3 rows pr) 0) vA va vI vL vD vB vC gA gS vS ix lo dn [] jk cl (alOf (Sf rows) ps))
    (fun k N => [.junk, .junk, .junk, .ptr (M.length + 1) 0 0, .ptr (M.length + 2) 0 0, .ptr (M.length + 5) 0 0, .junk, .junk, .junk, .junk, .ptr (M.length + 11) 0 0, .junk, .junk, .junk, .junk, .junk, .junk, .junk, .junk, .junk, .junk, .junk, .junk, p64 n, p64 k, .junk, .junk, .junk, .junk, .junk, .junk, .junk, .junk, .junk, .junk, .junk, .junk, .junk, .junk, .junk, .junk, .junk]) (fun k N => N) (fun k N => n - k) 0 _
    ⟨by omega, 0, 0, 0, 0, 0, 0, 1, 0, 0, 0, List.replicate n 0, List.replicate n 0, List.replicate n false, [], 0, [], TI.start, ⟨by simp, by omega, by simp, fun P h => by cases h⟩, by simp, fun v h => by omega, rfl⟩ (by simp only [PWeak_nil, PWeak_junk, PWeak_same, Int.cast_ofNat_Int, List.length_append, List.length_cons, List.length_nil, Nat.zero_add]) ?_ ?_
  · simp only [cB, PP, P1, P2, P3, P4, P5, P6, P7, P8, P9, P10, P11, P12, P13, P14, L1, P15, N1, N2, N3, N4, N5, N6, N7, I1, I2, I3, I4, I5, I6, I7, reduceIte, reduceCtorEq, ga0, nL, List.map_replicate]
  rintro k N ⟨hle, vA, va, vI, vL, vD, vB, vC, gA, gS, vS, ix, lo, dn, jk, cl, ps, T0, X0, ll, hdk, rfl⟩ ih
  have li := T0.li
  have ld := T0.ld
  refine SemW_go (by kernel_rfl) ?_
  simp only [cB, PP, P1, P2, P3, P4, P5, P6, P7, P8, P9, P10, P11, P12, P13, P14, L1, P15, N1, N2, N3, N4, N5, N6, N7, I1, I2, I3, I4, I5, I6, I7, reduceIte, reduceCtorEq, List.append_assoc, getK, getK0, setK, setK0]
  refine QIf.intro (fun c => ?_) (fun c => ?_)
  · have hkn : k < n := by omega
    have k0 : (0 : Int) ≤ k := by omega
    have kn : (k : Int) < n := by omega
    have hwk := wrap_succ (k := k) (by show _ < 1000000000000; omega)
    obtain ⟨y, gy⟩ := some_of (xs := ix) (k := k) (by omega)
    have ey : gI ix k = y := getD_some gy
    simp only [PP, P1, P2, P3, P4, P5, P6, P7, P8, P9, P10, P11, P12, P13, P14, L1, P15, N1, N2, N3, N4, N5, N6, N7, I1, I2, I3, I4, I5, I6, I7, reduceIte, reduceCtorEq, List.append_assoc, getK, getK0, setK, setK0, c, k0, kn, gy, li]
    refine QIf.intro (fun c1 => ?_) (fun c1 => ?_)
    · simp only [PP, P1, P2, P3, P4, P5, P6, P7, P8, P9, P10, P11, P12, P13, P14, L1, P15, N1, N2, N3, N4, N5, N6, N7, I1, I2, I3, I4, I5, I6, I7, reduceIte, reduceCtorEq, List.append_assoc, getK, getK0, setK, setK0, c1]
      refine hA k hkn _ _ ?_
      cases hAk : A k with
      | true =>
        simp only [PP, P1, P2, P3, P4, P5, P6, P7, P8, P9, P10, P11, P12, P13, P14, L1, P15, N1, N2, N3, N4, N5, N6, N7, I1, I2, I3, I4, I5, I6, I7, reduceIte, reduceCtorEq, List.append_assoc, getK, getK0, setK, setK0]
        refine SemC_st (N := M ++ cB M.length n ga ca (.cp (parC f1 o1 f2 o2 f3 o3 rows pr) 0) vA va vI vL vD vB vC gA gS vS ix lo dn [] jk cl (alOf (Sf rows) ps)) (by simp only [cB, nL, PP, P1, P2, P3, P4, P5, P6, P7, P8, P9, P10, P11, P12, P13, P14, L1, P15, N1, N2, N3, N4, N5, N6, N7, I1, I2, I3, I4, I5, I6, I7, reduceIte, reduceCtorEq, List.append_assoc]) ?_
        refine visit30_p T hn lr hrow hrx hc hca hA (cntZ n ix) k vA va vI vL vD vB vC gA gS vS ix lo dn [] jk cl ps _ (Nat.le_refl _) hkn ll T0 X0 hAk (by rw [ey]; exact c1) ?_
        intro vA va vI vL vD vB vC gA gS vS ix2 lo2 dn2 st2 jk2 cl2 ps2 V X2
        obtain ⟨rfl, hbk⟩ := V.empty
        simp only [cB, PP, P1, P2, P3, P4, P5, P6, P7, P8, P9, P10, P11, P12, P13, P14, L1, P15, N1, N2, N3, N4, N5, N6, N7, I1, I2, I3, I4, I5, I6, I7, reduceIte, reduceCtorEq, List.append_assoc, getK, getK0, setK, setK0, hwk]
        refine SemW_to (ih (k + 1) _ ⟨by omega, vA, va, vI, vL, vD, vB, vC, gA, gS, vS, ix2, lo2, dn2, jk2, cl2, ps2, V.ti, X2, V.ll, fun v hv hv2 => ?_, rfl⟩ (by omega)) (by simp only [PWeak_nil, PWeak_junk, PWeak_same, Int.cast_ofNat_Int, List.length_append, List.length_cons, List.length_nil, Nat.zero_add]) (by simp only [cB, nL, PP, P1, P2, P3, P4, P5, P6, P7, P8, P9, P10, P11, P12, P13, P14, L1, P15, N1, N2, N3, N4, N5, N6, N7, I1, I2, I3, I4, I5, I6, I7, reduceIte, reduceCtorEq, List.append_assoc])
        by_cases e : v = k
        · rw [e]; exact hbk
        · exact V.dup v (hdk v (by omega) hv2)
      | false =>
        simp only [PP, P1, P2, P3, P4, P5, P6, P7, P8, P9, P10, P11, P12, P13, P14, L1, P15, N1, N2, N3, N4, N5, N6, N7, I1, I2, I3, I4, I5, I6, I7, reduceIte, reduceCtorEq, List.append_assoc, getK, getK0, setK, setK0, hwk]
        refine SemW_to (ih (k + 1) _ ⟨by omega, vA, va, vI, vL, vD, vB, vC, gA, gS, vS, ix, lo, dn, jk, cl, ps, T0, X0, ll, fun v hv hv2 => ?_, rfl⟩ (by omega)) (by simp only [PWeak_nil, PWeak_junk, PWeak_same, Int.cast_ofNat_Int, List.length_append, List.length_cons, List.length_nil, Nat.zero_add]) (by simp only [cB, nL, PP, P1, P2, P3, P4, P5, P6, P7, P8, P9, P10, P11, P12, P13, P14, L1, P15, N1, N2, N3, N4, N5, N6, N7, I1, I2, I3, I4, I5, I6, I7, reduceIte, reduceCtorEq, List.append_assoc])
        by_cases e : v = k
        · rw [e, hAk] at hv2; cases hv2
        · exact hdk v (by omega) hv2
    · simp only [PP, P1, P2, P3, P4, P5, P6, P7, P8, P9, P10, P11, P12, P13, P14, L1, P15, N1, N2, N3, N4, N5, N6, N7, I1, I2, I3, I4, I5, I6, I7, reduceIte, reduceCtorEq, List.append_assoc, getK, getK0, setK, setK0, c1, hwk]
      refine SemW_to (ih (k + 1) _ ⟨by omega, vA, va, vI, vL, vD, vB, vC, gA, gS, vS, ix, lo, dn, jk, cl, ps, T0, X0, ll, fun v hv hv2 => ?_, rfl⟩ (by omega)) (by simp only [PWeak_nil, PWeak_junk, PWeak_same, Int.cast_ofNat_Int, List.length_append, List.length_cons, List.length_nil, Nat.zero_add]) (by simp only [cB, nL, PP, P1, P2, P3, P4, P5, P6, P7, P8, P9, P10, P11, P12, P13, P14, L1, P15, N1, N2, N3, N4, N5, N6, N7, I1, I2, I3, I4, I5, I6, I7, reduceIte, reduceCtorEq, List.append_assoc])
      by_cases e : v = k
      · rw [e]
        exact (T0.vis k hkn (by rw [ey]; exact c1)).resolve_left fun h => by cases h
      · exact hdk v (by omega) hv2
  · have hkn : k = n := by omega
    subst hkn
    simp only [PP, P1, P2, P3, P4, P5, P6, P7, P8, P9, P10, P11, P12, P13, P14, L1, P15, N1, N2, N3, N4, N5, N6, N7, I1, I2, I3, I4, I5, I6, I7, reduceIte, reduceCtorEq, List.append_assoc, getK, getK0, setK, setK0, c]
    refine ⟨slR false true false true .i64 ((ps.filter (keepB (Sf rows))).map nL), M, ?_, ?_, hk _ (T0.parts X0 hdk)⟩
    · refine (pfrz1_ref' (g := gA) (ver := va) (cs := alOf (Sf rows) ps) (by omega) (by rw [getK]; rfl) (by simp) (underL_map _ (fun P => slI false true .i64 (nL P)) (fun P => under_slI _ _ _ _ _ _ (nL P)) _)).trans (congrArg some ?_)
      simp only [slR, alOf, psub, List.drop_zero, List.length_map, Nat.mul_one, List.map_map]
      rw [List.take_of_length_le (by simp)]
      rfl
    · rw [List.take_left' rfl]
      exact pfrzM_all (hc _ (Nat.le_refl _))
end
end Go.Am.Ar
set_option linter.unusedVariables false
set_option linter.unusedSimpArgs false
set_option maxRecDepth 10000
namespace Go.Am.Ar
open Go.Am renaming pchk → P1, pold → P2, PKNo → P3, ppack → P4, PObj.under → P5, pput → P6, ptset → P7, ptget → P8, pev → P9, ofAV → P10, ofAV1 → P11, ppad → P12, pfill → P13, prepl → P14, AO.effect → P15
open List renaming replicate → L1
open Nat renaming reduceAdd → N1, reduceSub → N2, reduceMul → N3, reduceLT → N4, reduceLeDiff → N5, reduceEqDiff → N6, reduceBEq → N7
open Int renaming reduceToNat → I1, reduceLT → I2, reduceLE → I3, reduceEq → I4, reduceAdd → I5, reduceSub → I6, reduceNeg → I7
theorem cutOk_cells (n g v : Nat) (cs : List PV) : cutOk n (.cells g v cs) = underL n cs := rfl
def idxB (v : Bool) : Nat → List Bool → Int
  | _, [] => -1
  | k, x :: l => if v = x then (k : Int) else idxB v (k + 1) l
theorem idxB_iff (v : Bool) : ∀ (l : List Bool) (k : Nat), 0 ≤ idxB v k l ↔ v ∈ l
  | [], k => by simp [idxB]
  | x :: l, k => by
    unfold idxB
    by_cases h : v = x
    · rw [if_pos h]; simp [h]
    · rw [if_neg h, idxB_iff v l (k + 1)]; simp [h]
def minusL (a b : List Bool) (n : Nat) : List Bool := (List.range n).map fun v => a.getD v false && !b.getD v false
theorem minusL_len (a b : List Bool) (n : Nat) : (minusL a b n).length = n := by simp [minusL]
theorem bm_minus {a b : List Bool} {n : Nat} (ha : a.length = n) {v : Nat} : bm (minusL a b n) v ↔ bm a v ∧ ¬ bm b v := by
  unfold bm minusL
  rw [List.getElem?_map]
  by_cases h : v < n
  · rw [List.getElem?_range h]
    simp only [Option.map_some, Option.some.injEq, Bool.and_eq_true, List.getD]
    rw [List.getElem?_eq_getElem (by omega : v < a.length)]
    simp only [Option.getD_some, Option.some.injEq]
    cases hb : b[v]? with
    | none => simp
    | some x => cases x <;> simp
  · rw [List.getElem?_eq_none (by simp; omega), List.getElem?_eq_none (by omega : a.length ≤ v)]
    simp
theorem filter_lt {l : List Nat} {p q : Nat → Bool} (h : ∀ x ∈ l, p x = true → q x = true) {y : Nat} (hy : y ∈ l) (h1 : q y = true) (h2 : p y = false) : (l.filter p).length < (l.filter q).length := by
  have le : ∀ l : List Nat, (∀ x ∈ l, p x = true → q x = true) → (l.filter p).length ≤ (l.filter q).length := by
    intro l
    induction l with
    | nil => intro _; exact Nat.le_refl _
    | cons x l ih =>
      intro h
      have ih := ih fun z hz => h z (by simp [hz])
      by_cases e : p x = true
      · have := h x (by simp) e
        simp only [List.filter_cons, e, this, if_true, List.length_cons]; omega
      · by_cases e2 : q x = true
        · simp only [List.filter_cons, e, e2, if_true, List.length_cons]; simp only [Bool.false_eq_true, if_false]; omega
        · simp only [List.filter_cons, e, e2]; simpa using ih
  induction l with
  | nil => cases hy
  | cons x l ih =>
    have hl := le l fun z hz => h z (by simp [hz])
    rcases List.mem_cons.1 hy with rfl | hy
    · simp only [List.filter_cons, h1, h2, if_true, List.length_cons]
      simp only [Bool.false_eq_true, if_false]; omega
    · have ih := ih (fun z hz => h z (by simp [hz])) hy
      by_cases e : p x = true
      · have := h x (by simp) e
        simp only [List.filter_cons, e, this, if_true, List.length_cons]; omega
      · by_cases e2 : q x = true
        · simp only [List.filter_cons, e, e2, if_true, List.length_cons]; simp only [Bool.false_eq_true, if_false]; omega
        · simp only [List.filter_cons, e, e2]; simpa using ih
theorem count_eq {L : List Bool} {n : Nat} (h : L.length = n) : L.count true = ((List.range n).filter fun v => decide (bm L v)).length := by
  have e : L = (List.range n).map fun v => L.getD v false := by
    apply List.ext_getElem?
    intro v
    by_cases hv : v < n
    · simp [hv, List.getD, List.getElem?_eq_getElem (h ▸ hv : v < L.length)]
    · rw [List.getElem?_eq_none (by omega), List.getElem?_eq_none (by simp; omega)]
  have h2 : L.count true = ((List.range n).map fun v => L.getD v false).count true := congrArg _ e
  rw [h2, List.count, List.countP_map, List.countP_eq_length_filter]
  congr 1
  refine List.filter_congr fun v hv => ?_
  have hv := List.mem_range.1 hv
  show (L.getD v false == true) = decide (bm L v)
  have hg : L[v]? = some L[v] := List.getElem?_eq_getElem (by omega : v < L.length)
  have hb := bm_of hg
  rw [List.getD, hg]
  cases hL : L[v] with
  | true => simp [hb, hL]
  | false => simp [hb, hL]
theorem count_minus {a b : List Bool} {n : Nat} (ha : a.length = n) {v : Nat} (h1 : bm a v) (h2 : bm b v) : (minusL a b n).count true < a.count true := by
  rw [count_eq (minusL_len a b n), count_eq ha]
  refine filter_lt (fun x _ h => decide_eq_true ((bm_minus ha).1 (of_decide_eq_true h)).1) (y := v) (List.mem_range.2 (by have := bm_lt h1; omega)) (decide_eq_true h1) (decide_eq_false fun h => ((bm_minus ha).1 h).2 h2)
theorem mem_bm {L : List Bool} : true ∈ L ↔ ∃ v, bm L v := by
  constructor
  · intro h; obtain ⟨i, hi⟩ := List.getElem?_of_mem h; exact ⟨i, hi⟩
  · rintro ⟨v, h⟩; exact List.mem_of_getElem? h
theorem not_mem_bm {L : List Bool} (h : ¬ true ∈ L) (v : Nat) : ¬ bm L v := fun q => h (mem_bm.2 ⟨v, q⟩)
def SmI (row : List Int) (inL out : List Bool) (i : Nat) (sm : Int) (al : Bool) : Prop :=
  ((sm < 0 ∧ ∀ u ∈ row.take i, ¬ (bm inL u.toNat ∧ bm out u.toNat)) ∨ (0 ≤ sm ∧ sm ∈ row ∧ bm out sm.toNat)) ∧ (al = true ↔ ∀ u ∈ row.take i, bm inL u.toNat → bm out u.toNat)
theorem SmI.al {row : List Int} {inL out : List Bool} {i : Nat} {sm : Int} {al : Bool} (h : SmI row inL out i sm al) {u : Int} (g : row[i]? = some u) {x y : Bool} (hx : inL[u.toNat]? = some x) (hy : out[u.toNat]? = some y) : (al && (!x || y)) = true ↔ ∀ u ∈ row.take (i + 1), bm inL u.toNat → bm out u.toNat := by
  rw [take_some g]
  have h1 : (!x || y) = true ↔ (bm inL u.toNat → bm out u.toNat) := by
    rw [bm_of hx, bm_of hy]
    cases x <;> cases y <;> simp
  rw [Bool.and_eq_true, h.2, h1]
  constructor
  · rintro ⟨q1, q2⟩ w hw
    rcases List.mem_append.1 hw with q | q
    · exact q1 w q
    · rw [List.mem_singleton] at q; subst q; exact q2
  · intro q
    exact ⟨fun w hw => q w (by simp [hw]), q u (by simp)⟩
theorem SmI.keep {row : List Int} {inL out : List Bool} {i : Nat} {sm : Int} {al : Bool} (h : SmI row inL out i sm al) {u : Int} (g : row[i]? = some u) {x y : Bool} (hx : inL[u.toNat]? = some x) (hy : out[u.toNat]? = some y) (hk : (x && y) = false ∨ ¬ sm < 0) : SmI row inL out (i + 1) sm (al && (!x || y)) := by
  refine ⟨?_, h.al g hx hy⟩
  rcases h.1 with ⟨q1, q2⟩ | q
  · refine .inl ⟨q1, fun w hw => ?_⟩
    rw [take_some g] at hw
    rcases List.mem_append.1 hw with q | q
    · exact q2 w q
    · rw [List.mem_singleton] at q; subst q
      rw [bm_of hx, bm_of hy]
      rcases hk with hk | hk
      · rintro ⟨rfl, rfl⟩; cases hk
      · exact absurd q1 hk
  · exact .inr q
theorem SmI.take {row : List Int} {inL out : List Bool} {i : Nat} {sm : Int} {al : Bool} (h : SmI row inL out i sm al) {u : Int} (g : row[i]? = some u) (hu : 0 ≤ u) (hx : inL[u.toNat]? = some true) (hy : out[u.toNat]? = some true) : SmI row inL out (i + 1) u (al && (!true || true)) :=
  ⟨.inr ⟨hu, List.mem_of_getElem? g, (bm_of hy).2 rfl⟩, h.al g hx hy⟩
section
variable {tab : FuncId → Option AF} (T : HasA tab)
include T
theorem indexB_p {M : Mem} {K : PV → Mem → Prop} {f o : Bool} {xs : List Bool} {v : Bool} (hm : xs.length < big) (hk : K (p64 (idxB v 0 xs)) M) :
    SemC tab 43 [slB f o xs, .bool v] M K := by
  refine SemC_pure T.h43 (by simp only [PP, P1, P2, P3, P4, P5, P6, P7, P8, P9, P10, P11, P12, P13, P14, L1, P15, N1, N2, N3, N4, N5, N6, N7, I1, I2, I3, I4, I5, I6, I7, reduceIte, reduceCtorEq]) ?_
  simp only [af43, PP, P1, P2, P3, P4, P5, P6, P7, P8, P9, P10, P11, P12, P13, P14, L1, P15, N1, N2, N3, N4, N5, N6, N7, I1, I2, I3, I4, I5, I6, I7, reduceIte, reduceCtorEq]
  refine loop1 (fun (k : Nat) => k ≤ xs.length ∧ K (p64 (idxB v k (xs.drop k))) M) (fun k => [slB f o xs, .bool v, .junk, .junk, .junk, .junk, .junk, p64 xs.length, p64 k, .junk, .junk, .junk, .junk, .junk, .junk, .junk, .junk, .junk, .junk]) (fun _ => []) (fun k => xs.length - k) 0 ⟨by omega, hk⟩ (by simp only [PWeak_nil, PWeak_junk, PWeak_same, Int.cast_ofNat_Int, List.length_append, List.length_cons, List.length_nil, Nat.zero_add]) rfl ?_
  intro k ⟨hle, hq⟩ ih
  refine SemW_go (by kernel_rfl) ?_
  simp only [PP, P1, P2, P3, P4, P5, P6, P7, P8, P9, P10, P11, P12, P13, P14, L1, P15, N1, N2, N3, N4, N5, N6, N7, I1, I2, I3, I4, I5, I6, I7, reduceIte, reduceCtorEq]
  refine QIf.intro (fun c => ?_) (fun c => ?_)
  · have hk' : k < xs.length := by omega
    obtain ⟨x, g⟩ := some_of hk'
    rw [drop_some g, idxB] at hq
    have hw := wrap_succ (k := k) (by omega)
    have h0 : (0 : Int) ≤ k := by omega
    by_cases h1 : v = x
    · subst h1
      rw [if_pos rfl] at hq
      simp only [PP, P1, P2, P3, P4, P5, P6, P7, P8, P9, P10, P11, P12, P13, P14, L1, P15, N1, N2, N3, N4, N5, N6, N7, I1, I2, I3, I4, I5, I6, I7, reduceIte, reduceCtorEq, c, g, h0]
      exact hq
    · rw [if_neg h1] at hq
      have hb : (v == x) = false := by simpa using h1
      simp only [PP, P1, P2, P3, P4, P5, P6, P7, P8, P9, P10, P11, P12, P13, P14, L1, P15, N1, N2, N3, N4, N5, N6, N7, I1, I2, I3, I4, I5, I6, I7, reduceIte, reduceCtorEq, c, g, h0, hb, hw]
      exact SemW_weak (ih (k + 1) ⟨by omega, hq⟩ (by omega)) (by simp only [PWeak_nil, PWeak_junk, PWeak_same, Int.cast_ofNat_Int, List.length_append, List.length_cons, List.length_nil, Nat.zero_add])
  · rw [List.drop_eq_nil_of_le (by omega)] at hq
    simp only [PP, P1, P2, P3, P4, P5, P6, P7, P8, P9, P10, P11, P12, P13, P14, L1, P15, N1, N2, N3, N4, N5, N6, N7, I1, I2, I3, I4, I5, I6, I7, reduceIte, reduceCtorEq, c]
    exact hq
theorem containsB_p {M : Mem} {K : PV → Mem → Prop} {f o : Bool} {xs : List Bool} {v : Bool} (hm : xs.length < big) (hk : K (.bool (decide (v ∈ xs))) M) :
    SemC tab 41 [slB f o xs, .bool v] M K := by
  refine SemC_pure T.h41 (by simp only [PP, P1, P2, P3, P4, P5, P6, P7, P8, P9, P10, P11, P12, P13, P14, L1, P15, N1, N2, N3, N4, N5, N6, N7, I1, I2, I3, I4, I5, I6, I7, reduceIte, reduceCtorEq]) ?_
  simp only [af41, PP, P1, P2, P3, P4, P5, P6, P7, P8, P9, P10, P11, P12, P13, P14, L1, P15, N1, N2, N3, N4, N5, N6, N7, I1, I2, I3, I4, I5, I6, I7, reduceIte, reduceCtorEq]
  refine indexB_p T hm ?_
  have e : decide (0 ≤ idxB v 0 xs) = decide (v ∈ xs) := by simp only [idxB_iff]
  simp only [PP, P1, P2, P3, P4, P5, P6, P7, P8, P9, P10, P11, P12, P13, P14, L1, P15, N1, N2, N3, N4, N5, N6, N7, I1, I2, I3, I4, I5, I6, I7, reduceIte, reduceCtorEq, e]
  exact hk
theorem empty_p {M : Mem} {K : PV → Mem → Prop} {f o : Bool} {xs : List Bool} (hm : xs.length < big) (hk : K (.bool (!decide (true ∈ xs))) M) :
    SemC tab 30 [slB f o xs] M K := by
  refine SemC_pure T.h30 (by simp only [PP, P1, P2, P3, P4, P5, P6, P7, P8, P9, P10, P11, P12, P13, P14, L1, P15, N1, N2, N3, N4, N5, N6, N7, I1, I2, I3, I4, I5, I6, I7, reduceIte, reduceCtorEq]) ?_
  simp only [af30, PP, P1, P2, P3, P4, P5, P6, P7, P8, P9, P10, P11, P12, P13, P14, L1, P15, N1, N2, N3, N4, N5, N6, N7, I1, I2, I3, I4, I5, I6, I7, reduceIte, reduceCtorEq]
  refine containsB_p T hm ?_
  simp only [PP, P1, P2, P3, P4, P5, P6, P7, P8, P9, P10, P11, P12, P13, P14, L1, P15, N1, N2, N3, N4, N5, N6, N7, I1, I2, I3, I4, I5, I6, I7, reduceIte, reduceCtorEq]
  exact hk
theorem minus_z {M : Mem} {K : PV → Mem → Prop} {f o f' o' : Bool} {a b : List Bool} {n : Nat} (ha : a.length = n) (hb : b.length = n) (hm : n < 1000000) (hk : K (slB false true (minusL a b n)) M) :
    SemC tab 28 [slB f o a, slB f' o' b] M K := by
  refine SemC_pure T.h28 (by simp only [PP, P1, P2, P3, P4, P5, P6, P7, P8, P9, P10, P11, P12, P13, P14, L1, P15, N1, N2, N3, N4, N5, N6, N7, I1, I2, I3, I4, I5, I6, I7, reduceIte, reduceCtorEq]) ?_
  have b0 : (0 : Int) ≤ n := by omega
  have b1 : (n : Int) * 1 ≤ 140737488355328 := by omega
  have b2 : (n : Int) ≤ 9223372036854775807 := by omega
  simp only [af28, PP, P1, P2, P3, P4, P5, P6, P7, P8, P9, P10, P11, P12, P13, P14, L1, P15, N1, N2, N3, N4, N5, N6, N7, I1, I2, I3, I4, I5, I6, I7, reduceIte, reduceCtorEq, ha, b0, b1, b2, Int.le_refl]
  refine loop3 (fun (k ver : Nat) (w : List Bool) => k ≤ n ∧ w.length = n ∧ ∀ v, v < k → w[v]? = some (a.getD v false && !b.getD v false))
    (fun k ver w => [slB f o a, slB f' o' b, .junk, .junk, .junk, .ref 0 0 1 0 n, .junk, .junk, .junk, .junk, .junk, p64 n, p64 k, .junk, .junk, .junk, .junk, .junk, .junk, .junk, .junk, .junk, .junk, .junk, .junk, .junk, .junk, .junk, .junk, .junk, .junk]) (fun k ver w => [.cells 0 ver (w.map PV.bool)]) (fun k _ _ => n - k) 0 0 (List.replicate n false) ⟨by omega, by simp, by intro v h; omega⟩ (by simp only [PWeak_nil, PWeak_junk, PWeak_same, Int.cast_ofNat_Int, List.length_append, List.length_cons, List.length_nil, Nat.zero_add]) (by simp only [List.map_replicate]) ?_
  intro k ver w ⟨hle, hw, hget⟩ ih
  refine SemW_go (by kernel_rfl) ?_
  simp only [PP, P1, P2, P3, P4, P5, P6, P7, P8, P9, P10, P11, P12, P13, P14, L1, P15, N1, N2, N3, N4, N5, N6, N7, I1, I2, I3, I4, I5, I6, I7, reduceIte, reduceCtorEq]
  refine QIf.intro (fun c => ?_) (fun c => ?_)
  · have hk' : k < n := by omega
    obtain ⟨x, g1⟩ := some_of (xs := a) (k := k) (by omega)
    obtain ⟨y, g2⟩ := some_of (xs := b) (k := k) (by omega)
    have ea : a.getD k false = x := by simp [List.getD, g1]
    have eb : b.getD k false = y := by simp [List.getD, g2]
    have hwk := wrap_succ (k := k) (by show _ < 1000000000000; omega)
    have k0 : (0 : Int) ≤ k := by omega
    have k1 : k + 1 ≤ w.length := by omega
    have up : ∀ z, z = (x && !y) → k + 1 ≤ n ∧ (w.set k z).length = n ∧ ∀ v, v < k + 1 → (w.set k z)[v]? = some (a.getD v false && !b.getD v false) := fun z hz => by
      refine ⟨by omega, by simp [hw], fun v hv => ?_⟩
      by_cases e : v = k
      · subst e; rw [List.getElem?_set_self (by omega), ea, eb, hz]
      · rw [List.getElem?_set_ne (by omega)]; exact hget v (by omega)
    cases x
    · simp only [PP, P1, P2, P3, P4, P5, P6, P7, P8, P9, P10, P11, P12, P13, P14, L1, P15, N1, N2, N3, N4, N5, N6, N7, I1, I2, I3, I4, I5, I6, I7, reduceIte, reduceCtorEq, c, g1, k0, k1, ha, hb, hwk]
      exact SemW_to (ih (k + 1) (ver + 1) (w.set k false) (up _ rfl) (by omega)) (by simp only [PWeak_nil, PWeak_junk, PWeak_same, Int.cast_ofNat_Int, List.length_append, List.length_cons, List.length_nil, Nat.zero_add]) (by simp only [← List.map_set])
    · cases y
      · simp only [PP, P1, P2, P3, P4, P5, P6, P7, P8, P9, P10, P11, P12, P13, P14, L1, P15, N1, N2, N3, N4, N5, N6, N7, I1, I2, I3, I4, I5, I6, I7, reduceIte, reduceCtorEq, c, g1, g2, k0, k1, ha, hb, hwk]
        exact SemW_to (ih (k + 1) (ver + 1) (w.set k true) (up _ rfl) (by omega)) (by simp only [PWeak_nil, PWeak_junk, PWeak_same, Int.cast_ofNat_Int, List.length_append, List.length_cons, List.length_nil, Nat.zero_add]) (by simp only [← List.map_set])
      · simp only [PP, P1, P2, P3, P4, P5, P6, P7, P8, P9, P10, P11, P12, P13, P14, L1, P15, N1, N2, N3, N4, N5, N6, N7, I1, I2, I3, I4, I5, I6, I7, reduceIte, reduceCtorEq, c, g1, g2, k0, k1, ha, hb, hwk]
        exact SemW_to (ih (k + 1) (ver + 1) (w.set k false) (up _ rfl) (by omega)) (by simp only [PWeak_nil, PWeak_junk, PWeak_same, Int.cast_ofNat_Int, List.length_append, List.length_cons, List.length_nil, Nat.zero_add]) (by simp only [← List.map_set])
  · have hkn : k = n := by omega
    subst hkn
    have hwm : w = minusL a b k := by
      apply List.ext_getElem?
      intro v
      by_cases hv : v < k
      · rw [hget v hv]; simp [minusL, hv]
      · rw [List.getElem?_eq_none (by omega), List.getElem?_eq_none (by rw [minusL_len]; omega)]
    subst hwm
    have hfz : frzO (some (PObj.cells 0 ver ((minusL a b k).map PV.bool))) 0 1 0 k = some (slB false true (minusL a b k)) := by
      rw [frzO_cells (by rw [List.length_map, minusL_len]; omega) (underL_map _ _ (fun _ => rfl) _), psub_all _ _ (by rw [List.length_map, minusL_len]; omega)]
      unfold slB
      rw [minusL_len]
    simp only [PP, P1, P2, P3, P4, P5, P6, P7, P8, P9, P10, P11, P12, P13, P14, L1, P15, N1, N2, N3, N4, N5, N6, N7, I1, I2, I3, I4, I5, I6, I7, reduceIte, reduceCtorEq, c, hfz]
    exact hk
end
end Go.Am.Ar
set_option linter.unusedVariables false
set_option linter.unusedSimpArgs false
set_option maxRecDepth 10000
namespace Go.Am.Ar
open Go.Am renaming pchk → P1, pold → P2, PKNo → P3, ppack → P4, PObj.under → P5, pput → P6, ptset → P7, ptget → P8, pev → P9, ofAV → P10, ofAV1 → P11, ppad → P12, pfill → P13, prepl → P14, AO.effect → P15
open List renaming replicate → L1
open Nat renaming reduceAdd → N1, reduceSub → N2, reduceMul → N3, reduceLT → N4, reduceLeDiff → N5, reduceEqDiff → N6, reduceBEq → N7
open Int renaming reduceToNat → I1, reduceLT → I2, reduceLE → I3, reduceEq → I4, reduceAdd → I5, reduceSub → I6, reduceNeg → I7
abbrev zO (ow : List Int) (v : Nat) : Int := ow.getD v 0
abbrev zSol (f1 p1 f2 p2 f3 p3 f4 p4 : Bool) (ow pr : List Int) (su : List (List Int)) : List PV := [slI f1 p1 .u8 ow, slI f2 p2 .i64 pr, slR f3 p3 f4 p4 .i64 su, .ref 2 0 1 0 ow.length]
structure ZSt where
  ver : Nat
  ver2 : Nat
  st : List Int
  out : List Bool
  r : Nat → Nat
  c : Nat
theorem cnt_le (l : List Bool) : l.count true ≤ l.length := List.count_le_length
section
variable {tab : FuncId → Option AF} (T : HasA tab)
include T
theorem attract_z {K : PV → Mem → Prop} {o0 o1 : PObj} {f1 p1 f2 p2 f3 p3 f4 p4 f5 p5 f6 p6 : Bool} {ow pr st0 : List Int} {su : List (List Int)} {inL tgt : List Bool} {p : Int} {ver0 : Nat} (V : Valid ow pr su) (B : Bnd ow pr su)
    (h0 : cutOk 4 o0 = true) (h1 : cutOk 4 o1 = true) (hi : inL.length = ow.length) (ht : tgt.length = ow.length) (hs : st0.length = ow.length) (hs0 : ∀ x ∈ st0, 0 ≤ x) (hti : ∀ v, bm tgt v → bm inL v)
    (hk : ∀ ver out st r, out.length = ow.length → st.length = ow.length → (∀ x ∈ st, 0 ≤ x) → AttIn (zO ow) (Sf su) (bm inL) p (bm tgt) (bm out) (stN st0) (stN st) r →
      K (slB false true out) [o0, o1, .cells 0 ver (st.map (PV.int .i64)), .cells 0 0 (zSol f1 p1 f2 p2 f3 p3 f4 p4 ow pr su)]) :
    SemC tab 29 [.ptr 3 0 0, slB f5 p5 inL, p8 p, slB f6 p6 tgt] [o0, o1, .cells 0 ver0 (st0.map (PV.int .i64)), .cells 0 0 (zSol f1 p1 f2 p2 f3 p3 f4 p4 ow pr su)] K := by
  refine SemC_gh (SemC_fn T.h29 ?_)
  have n0 := V.n0
  have n1 := V.n1
  have hsl := V.s
  have b1 : ow.length ≤ 140737488355328 := by omega
  have b2 : ow.length ≤ 9223372036854775807 := by omega
  have nz : ¬ ow.length = 0 := by omega
  simp only [af29, PP, P1, P2, P3, P4, P5, P6, P7, P8, P9, P10, P11, P12, P13, P14, L1, P15, N1, N2, N3, N4, N5, N6, N7, I1, I2, I3, I4, I5, I6, I7, reduceIte, reduceCtorEq]
  refine SemC_fn T.h33 ?_
  simp only [af33, PP, P1, P2, P3, P4, P5, P6, P7, P8, P9, P10, P11, P12, P13, P14, L1, P15, N1, N2, N3, N4, N5, N6, N7, I1, I2, I3, I4, I5, I6, I7, reduceIte, reduceCtorEq, ht, nz, b1, b2]
  refine loop1 (fun (s : ZSt) => AJ (zO ow) (Sf su) (bm inL) (bm tgt) p (stN st0) ow.length s.out s.st s.r s.c)
    (fun s => [.ptr 3 0 0, slB f5 p5 inL, p8 p, .junk, .junk, .junk, .junk, .junk, .junk, .ref 4 0 1 0 ow.length, .junk, .junk, .junk, .junk, .junk, .junk, .junk, .junk, .junk, .junk, .junk, .junk, .junk, .junk, .junk, .junk, .junk, .junk, .junk, .junk, .junk, .junk, .junk, .junk, .junk, .junk, .junk, .junk, .junk, .junk, .junk, .junk, .junk, .junk, .junk, .junk, .junk, .junk, .junk, .junk, .junk, .junk, .junk, .junk, .junk, .junk, .junk, .junk, .junk, .junk, .junk, .junk, .junk, .junk, .junk, .junk, .junk, .junk, .junk, .junk, .junk, .junk, .junk, .junk, .junk, .junk, .junk, .junk, .junk, .junk, .junk, .junk, .junk, .junk, .junk, .junk, .junk, .junk, .junk, .junk, .junk, .junk, .junk, .junk, .junk, .junk, .junk, .junk, .junk, .junk, .junk, .junk, .junk, .junk, .junk, .junk, .junk, .junk, .junk, .junk, .junk, .junk, .junk, .junk, .junk, .junk, .junk, .junk, .junk]) (fun s => [o0, o1, .cells 0 s.ver (s.st.map (PV.int .i64)), .cells 0 0 (zSol f1 p1 f2 p2 f3 p3 f4 p4 ow pr su), .cells 0 s.ver2 (s.out.map PV.bool)]) (fun s => ow.length - s.out.count true)
    ⟨ver0, 0, st0, tgt, fun _ => 0, 1⟩ (AJ.start ht hs hs0 hti) (by simp only [PWeak_nil, PWeak_junk, PWeak_same, Int.cast_ofNat_Int, List.length_append, List.length_cons, List.length_nil, Nat.zero_add]) rfl ?_
  intro s0 J0 ih
  refine SemW_go (by kernel_rfl) ?_
  simp only [PP, P1, P2, P3, P4, P5, P6, P7, P8, P9, P10, P11, P12, P13, P14, L1, P15, N1, N2, N3, N4, N5, N6, N7, I1, I2, I3, I4, I5, I6, I7, reduceIte, reduceCtorEq]
  refine loop3 (fun (s : ZSt) (v : Nat) (ch : Bool) => v ≤ ow.length ∧ AJ (zO ow) (Sf su) (bm inL) (bm tgt) p (stN st0) ow.length s.out s.st s.r s.c ∧ (ch = true → s0.out.count true < s.out.count true) ∧ s0.out.count true ≤ s.out.count true ∧ (ch = false → ∀ w, w < v → Stab (zO ow) (Sf su) (bm inL) p s.out w))
    (fun s v ch => [.ptr 3 0 0, slB f5 p5 inL, p8 p, .junk, .junk, .junk, .junk, .junk, .junk, .ref 4 0 1 0 ow.length, .bool ch, .junk, .junk, .junk, .junk, .junk, .junk, .junk, .junk, .junk, .junk, .junk, .junk, slR f3 p3 f4 p4 .i64 su, p64 su.length, p64 v, .junk, .junk, .junk, .junk, .junk, .junk, .junk, .junk, .junk, .junk, .junk, .junk, .junk, .junk, .junk, .junk, .junk, .junk, .junk, .junk, .junk, .junk, .junk, .junk, .junk, .junk, .junk, .junk, .junk, .junk, .junk, .junk, .junk, .junk, .junk, .junk, .junk, .junk, .junk, .junk, .junk, .junk, .junk, .junk, .junk, .junk, .junk, .junk, .junk, .junk, .junk, .junk, .junk, .junk, .junk, .junk, .junk, .junk, .junk, .junk, .junk, .junk, .junk, .junk, .junk, .junk, .junk, .junk, .junk, .junk, .junk, .junk, .junk, .junk, .junk, .junk, .junk, .junk, .junk, .junk, .junk, .junk, .junk, .junk, .junk, .junk, .junk, .junk, .junk, .junk, .junk, .junk, .junk]) (fun s _ _ => [o0, o1, .cells 0 s.ver (s.st.map (PV.int .i64)), .cells 0 0 (zSol f1 p1 f2 p2 f3 p3 f4 p4 ow pr su), .cells 0 s.ver2 (s.out.map PV.bool)]) (fun _ v _ => ow.length - v)
    s0 0 false ⟨by omega, J0, fun h => (by cases h), Nat.le_refl _, fun _ w hw => by omega⟩ (by simp only [PWeak_nil, PWeak_junk, PWeak_same, Int.cast_ofNat_Int, List.length_append, List.length_cons, List.length_nil, Nat.zero_add]) rfl ?_
  intro s v ch ⟨hle, J, hch, hcn, hst⟩ ih2
  have jo := J.lo
  have js := J.ls
  refine SemW_go (by kernel_rfl) ?_
  simp only [PP, P1, P2, P3, P4, P5, P6, P7, P8, P9, P10, P11, P12, P13, P14, L1, P15, N1, N2, N3, N4, N5, N6, N7, I1, I2, I3, I4, I5, I6, I7, reduceIte, reduceCtorEq]
  refine QIf.intro (fun c => ?_) (fun c => ?_)
  · have hv : v < ow.length := by omega
    have v0 : (0 : Int) ≤ v := by omega
    have hwv := wrap_succ (k := v) (by show _ < 1000000000000; omega)
    obtain ⟨row, g1⟩ := some_of (xs := su) (k := v) (by omega)
    obtain ⟨o, g2⟩ := some_of (xs := ow) (k := v) hv
    obtain ⟨x, g3⟩ := some_of (xs := inL) (k := v) (by omega)
    obtain ⟨y, g4⟩ := some_of (xs := s.out) (k := v) (by omega)
    have e1 : su.getD v [] = row := by simp [List.getD, g1]
    have eo : zO ow v = o := getD_some g2
    have eS : Sf su v = row.map Int.toNat := by unfold Sf; rw [e1]
    have hrb : row.length < 1000000000000 := B.r _ (List.mem_of_getElem? g1)
    have rr : ∀ u ∈ row, 0 ≤ u ∧ u < ow.length := fun u hu => su_range V hv (by rw [e1]; exact hu)
    have v1 : (v : Int) < inL.length := by omega
    have v2 : (v : Int) < ow.length := by omega
    -- nothing is added
    have skip : Stab (zO ow) (Sf su) (bm inL) p s.out v → (v + 1 ≤ ow.length ∧ AJ (zO ow) (Sf su) (bm inL) (bm tgt) p (stN st0) ow.length s.out s.st s.r s.c ∧ (ch = true → s0.out.count true < s.out.count true) ∧ s0.out.count true ≤ s.out.count true ∧ (ch = false → ∀ w, w < v + 1 → Stab (zO ow) (Sf su) (bm inL) p s.out w)) := fun h =>
      ⟨by omega, J, hch, hcn, fun e w hw => by
        by_cases q : w = v
        · subst q; exact h
        · exact hst e w (by omega)⟩
    simp only [PP, P1, P2, P3, P4, P5, P6, P7, P8, P9, P10, P11, P12, P13, P14, L1, P15, N1, N2, N3, N4, N5, N6, N7, I1, I2, I3, I4, I5, I6, I7, reduceIte, reduceCtorEq, c, g1, g3, v0, v1, hi, v2]
    cases x
    · simp only [PP, P1, P2, P3, P4, P5, P6, P7, P8, P9, P10, P11, P12, P13, P14, L1, P15, N1, N2, N3, N4, N5, N6, N7, I1, I2, I3, I4, I5, I6, I7, reduceIte, reduceCtorEq, hwv]
      exact SemW_weak (ih2 s (v + 1) ch (skip fun h => by rw [bm_of g3] at h; cases h) (by omega)) (by simp only [PWeak_nil, PWeak_junk, PWeak_same, Int.cast_ofNat_Int, List.length_append, List.length_cons, List.length_nil, Nat.zero_add])
    simp only [PP, P1, P2, P3, P4, P5, P6, P7, P8, P9, P10, P11, P12, P13, P14, L1, P15, N1, N2, N3, N4, N5, N6, N7, I1, I2, I3, I4, I5, I6, I7, reduceIte, reduceCtorEq, g4, v0, v2, jo]
    cases y
    rotate_left
    · simp only [PP, P1, P2, P3, P4, P5, P6, P7, P8, P9, P10, P11, P12, P13, P14, L1, P15, N1, N2, N3, N4, N5, N6, N7, I1, I2, I3, I4, I5, I6, I7, reduceIte, reduceCtorEq, hwv]
      exact SemW_weak (ih2 s (v + 1) ch (skip fun _ h => absurd ((bm_of g4).2 rfl) h) (by omega)) (by simp only [PWeak_nil, PWeak_junk, PWeak_same, Int.cast_ofNat_Int, List.length_append, List.length_cons, List.length_nil, Nat.zero_add])
    simp only [PP, P1, P2, P3, P4, P5, P6, P7, P8, P9, P10, P11, P12, P13, P14, L1, P15, N1, N2, N3, N4, N5, N6, N7, I1, I2, I3, I4, I5, I6, I7, reduceIte, reduceCtorEq]
    have hbi : bm inL v := (bm_of g3).2 rfl
    have hbo : ¬ bm s.out v := fun h => by rw [bm_of g4] at h; cases h
    refine loop3 (fun (i : Nat) (sm : Int) (al : Bool) => i ≤ row.length ∧ SmI row inL s.out i sm al)
      (fun i sm al => [.ptr 3 0 0, slB f5 p5 inL, p8 p, .junk, .junk, .junk, .junk, .junk, .junk, .ref 4 0 1 0 ow.length, .bool ch, p64 v, .junk, p64 sm, .bool al, .junk, .junk, .junk, .junk, .junk, .junk, .junk, .junk, slR f3 p3 f4 p4 .i64 su, p64 su.length, p64 v, .junk, .junk, .junk, .junk, .junk, .junk, .junk, .junk, .junk, .junk, .junk, .junk, .junk, .junk, .junk, slI f4 p4 .i64 row, p64 row.length, p64 i, .junk, .junk, .junk, .junk, .junk, .junk, .junk, .junk, .junk, .junk, .junk, .junk, .junk, .junk, .junk, .junk, .junk, .junk, .junk, .junk, .junk, .junk, .junk, .junk, .junk, .junk, .junk, .junk, .junk, .junk, .junk, .junk, .junk, .junk, .junk, .junk, .junk, .junk, .junk, .junk, .junk, .junk, .junk, .junk, .junk, .junk, .junk, .junk, .junk, .junk, .junk, .junk, .junk, .junk, .junk, .junk, .junk, .junk, .junk, .junk, .junk, .junk, .junk, .junk, .junk, .junk, .junk, .junk, .junk, .junk, .junk, .junk, .junk, .junk, .junk]) (fun _ _ _ => [o0, o1, .cells 0 s.ver (s.st.map (PV.int .i64)), .cells 0 0 (zSol f1 p1 f2 p2 f3 p3 f4 p4 ow pr su), .cells 0 s.ver2 (s.out.map PV.bool)]) (fun i _ _ => row.length - i)
      0 (-1) true ⟨by omega, .inl ⟨by omega, by simp⟩, by simp⟩ (by simp only [PWeak_nil, PWeak_junk, PWeak_same, Int.cast_ofNat_Int, List.length_append, List.length_cons, List.length_nil, Nat.zero_add]) rfl ?_
    intro i sm al ⟨hil, hI⟩ ih3
    refine SemW_go (by kernel_rfl) ?_
    simp only [PP, P1, P2, P3, P4, P5, P6, P7, P8, P9, P10, P11, P12, P13, P14, L1, P15, N1, N2, N3, N4, N5, N6, N7, I1, I2, I3, I4, I5, I6, I7, reduceIte, reduceCtorEq]
    refine QIf.intro (fun d => ?_) (fun d => ?_)
    · have hi3 : i < row.length := by omega
      have i0 : (0 : Int) ≤ i := by omega
      have hwi := wrap_succ (k := i) (by show _ < 1000000000000; omega)
      obtain ⟨u, g5⟩ := some_of hi3
      obtain ⟨u0, u1⟩ := rr u (List.mem_of_getElem? g5)
      obtain ⟨x, g6⟩ := some_of (xs := inL) (k := u.toNat) (by omega)
      obtain ⟨y, g7⟩ := some_of (xs := s.out) (k := u.toNat) (by omega)
      simp only [PP, P1, P2, P3, P4, P5, P6, P7, P8, P9, P10, P11, P12, P13, P14, L1, P15, N1, N2, N3, N4, N5, N6, N7, I1, I2, I3, I4, I5, I6, I7, reduceIte, reduceCtorEq, d, g5, i0, g6, u0, u1, hi]
      cases x
      · have hn : SmI row inL s.out (i + 1) sm al := by simpa only [Bool.not_false, Bool.true_or, Bool.and_true] using hI.keep g5 g6 g7 (.inl rfl)
        cases al <;> simp only [PP, P1, P2, P3, P4, P5, P6, P7, P8, P9, P10, P11, P12, P13, P14, L1, P15, N1, N2, N3, N4, N5, N6, N7, I1, I2, I3, I4, I5, I6, I7, reduceIte, reduceCtorEq, g6, g7, u0, u1, hi, jo, hwi] <;> exact SemW_weak (ih3 (i + 1) sm _ ⟨by omega, hn⟩ (by omega)) (by simp only [PWeak_nil, PWeak_junk, PWeak_same, Int.cast_ofNat_Int, List.length_append, List.length_cons, List.length_nil, Nat.zero_add])
      cases y
      · have hn : SmI row inL s.out (i + 1) sm false := by simpa only [Bool.not_true, Bool.or_false, Bool.and_false] using hI.keep g5 g6 g7 (.inl rfl)
        cases al <;> simp only [PP, P1, P2, P3, P4, P5, P6, P7, P8, P9, P10, P11, P12, P13, P14, L1, P15, N1, N2, N3, N4, N5, N6, N7, I1, I2, I3, I4, I5, I6, I7, reduceIte, reduceCtorEq, g6, g7, u0, u1, hi, jo, hwi] <;> exact SemW_weak (ih3 (i + 1) sm _ ⟨by omega, hn⟩ (by omega)) (by simp only [PWeak_nil, PWeak_junk, PWeak_same, Int.cast_ofNat_Int, List.length_append, List.length_cons, List.length_nil, Nat.zero_add])
      simp only [PP, P1, P2, P3, P4, P5, P6, P7, P8, P9, P10, P11, P12, P13, P14, L1, P15, N1, N2, N3, N4, N5, N6, N7, I1, I2, I3, I4, I5, I6, I7, reduceIte, reduceCtorEq, g6, g7, u0, u1, hi, jo]
      refine QIf.intro (fun q => ?_) (fun q => ?_)
      · have hn : SmI row inL s.out (i + 1) u al := by simpa only [Bool.or_true, Bool.and_true] using hI.take g5 u0 g6 g7
        cases al <;> simp only [PP, P1, P2, P3, P4, P5, P6, P7, P8, P9, P10, P11, P12, P13, P14, L1, P15, N1, N2, N3, N4, N5, N6, N7, I1, I2, I3, I4, I5, I6, I7, reduceIte, reduceCtorEq, q, g6, g7, u0, u1, hi, jo, hwi] <;> exact SemW_weak (ih3 (i + 1) u _ ⟨by omega, hn⟩ (by omega)) (by simp only [PWeak_nil, PWeak_junk, PWeak_same, Int.cast_ofNat_Int, List.length_append, List.length_cons, List.length_nil, Nat.zero_add])
      · have hn : SmI row inL s.out (i + 1) sm al := by simpa only [Bool.or_true, Bool.and_true] using hI.keep g5 g6 g7 (.inr q)
        cases al <;> simp only [PP, P1, P2, P3, P4, P5, P6, P7, P8, P9, P10, P11, P12, P13, P14, L1, P15, N1, N2, N3, N4, N5, N6, N7, I1, I2, I3, I4, I5, I6, I7, reduceIte, reduceCtorEq, q, g6, g7, u0, u1, hi, jo, hwi] <;> exact SemW_weak (ih3 (i + 1) sm _ ⟨by omega, hn⟩ (by omega)) (by simp only [PWeak_nil, PWeak_junk, PWeak_same, Int.cast_ofNat_Int, List.length_append, List.length_cons, List.length_nil, Nat.zero_add])
    · unfold SmI at hI
      rw [List.take_of_length_le (by omega)] at hI
      obtain ⟨hsm, hal⟩ := hI
      have st1 : v + 1 ≤ s.st.length := by omega
      have st3 : v + 1 ≤ ow.length := hv
      have st2 : v + 1 ≤ s.out.length := by omega
      have cnt := count_add g4
      have hmem : ∀ u ∈ row, u.toNat ∈ Sf su v := fun u hu => by rw [eS]; exact List.mem_map.2 ⟨u, hu, rfl⟩
      simp only [PP, P1, P2, P3, P4, P5, P6, P7, P8, P9, P10, P11, P12, P13, P14, L1, P15, N1, N2, N3, N4, N5, N6, N7, I1, I2, I3, I4, I5, I6, I7, reduceIte, reduceCtorEq, d, g2, v0, v2]
      refine QIf.intro (fun q => ?_) (fun q => ?_)
      · simp only [PP, P1, P2, P3, P4, P5, P6, P7, P8, P9, P10, P11, P12, P13, P14, L1, P15, N1, N2, N3, N4, N5, N6, N7, I1, I2, I3, I4, I5, I6, I7, reduceIte, reduceCtorEq, q]
        refine QIf.intro (fun q2 => ?_) (fun q2 => ?_)
        · rcases hsm with ⟨q3, _⟩ | ⟨q3, q4, q5⟩
          · omega
          have J2 := J.addOwn hv hbo hbi (by rw [eo]; exact q) q3 (hmem _ q4) q5
          simp only [PP, P1, P2, P3, P4, P5, P6, P7, P8, P9, P10, P11, P12, P13, P14, L1, P15, N1, N2, N3, N4, N5, N6, N7, I1, I2, I3, I4, I5, I6, I7, reduceIte, reduceCtorEq, q, q2, v0, v2, js, jo, st3, hwv]
          refine SemW_to (ih2 ⟨s.ver + 1, s.ver2 + 1, s.st.set v sm, s.out.set v true, _, s.c + 1⟩ (v + 1) true ⟨by omega, J2, fun _ => by show _ < (s.out.set v true).count true; omega, by show _ ≤ (s.out.set v true).count true; omega, fun h => by cases h⟩ (by omega)) (by simp only [PWeak_nil, PWeak_junk, PWeak_same, Int.cast_ofNat_Int, List.length_append, List.length_cons, List.length_nil, Nat.zero_add]) (by simp only [← List.map_set])
        · rcases hsm with ⟨q3, q4⟩ | ⟨q3, _⟩
          rotate_left
          · omega
          simp only [PP, P1, P2, P3, P4, P5, P6, P7, P8, P9, P10, P11, P12, P13, P14, L1, P15, N1, N2, N3, N4, N5, N6, N7, I1, I2, I3, I4, I5, I6, I7, reduceIte, reduceCtorEq, q, q2, g2, v0, v2, hwv]
          refine SemW_weak (ih2 s (v + 1) ch (skip fun _ _ => ⟨fun _ u hu => ?_, fun h => absurd (by rw [eo]; exact q) h⟩) (by omega)) (by simp only [PWeak_nil, PWeak_junk, PWeak_same, Int.cast_ofNat_Int, List.length_append, List.length_cons, List.length_nil, Nat.zero_add])
          rw [eS] at hu
          obtain ⟨y, hy, rfl⟩ := List.mem_map.1 hu
          exact fun h => q4 y hy ⟨J.sub _ h, h⟩
      · simp only [PP, P1, P2, P3, P4, P5, P6, P7, P8, P9, P10, P11, P12, P13, P14, L1, P15, N1, N2, N3, N4, N5, N6, N7, I1, I2, I3, I4, I5, I6, I7, reduceIte, reduceCtorEq, q, g2, v0, v2]
        cases al
        · simp only [PP, P1, P2, P3, P4, P5, P6, P7, P8, P9, P10, P11, P12, P13, P14, L1, P15, N1, N2, N3, N4, N5, N6, N7, I1, I2, I3, I4, I5, I6, I7, reduceIte, reduceCtorEq, hwv]
          refine SemW_weak (ih2 s (v + 1) ch (skip fun _ _ => ⟨fun h => absurd (by rw [← eo]; exact h) q, fun _ => ?_⟩) (by omega)) (by simp only [PWeak_nil, PWeak_junk, PWeak_same, Int.cast_ofNat_Int, List.length_append, List.length_cons, List.length_nil, Nat.zero_add])
          refine Classical.byContradiction fun hn => ?_
          have := hal.2 fun u hu hin => Classical.byContradiction fun ho => hn ⟨u.toNat, hmem u hu, hin, ho⟩
          cases this
        · have J2 := J.addOpp hv hbo hbi (by rw [eo]; exact q) fun u hu hin => by
            rw [eS] at hu
            obtain ⟨y, hy, rfl⟩ := List.mem_map.1 hu
            exact hal.1 rfl y hy hin
          simp only [PP, P1, P2, P3, P4, P5, P6, P7, P8, P9, P10, P11, P12, P13, P14, L1, P15, N1, N2, N3, N4, N5, N6, N7, I1, I2, I3, I4, I5, I6, I7, reduceIte, reduceCtorEq, v0, v2, js, jo, st3, hwv]
          refine SemW_to (ih2 ⟨s.ver, s.ver2 + 1, s.st, s.out.set v true, _, s.c + 1⟩ (v + 1) true ⟨by omega, J2, fun _ => by show _ < (s.out.set v true).count true; omega, by show _ ≤ (s.out.set v true).count true; omega, fun h => by cases h⟩ (by omega)) (by simp only [PWeak_nil, PWeak_junk, PWeak_same, Int.cast_ofNat_Int, List.length_append, List.length_cons, List.length_nil, Nat.zero_add]) (by simp only [← List.map_set])
  · have hvn : v = ow.length := by omega
    simp only [PP, P1, P2, P3, P4, P5, P6, P7, P8, P9, P10, P11, P12, P13, P14, L1, P15, N1, N2, N3, N4, N5, N6, N7, I1, I2, I3, I4, I5, I6, I7, reduceIte, reduceCtorEq, c]
    cases ch
    · have hA := J.fin (fun v h => by rw [← hi]; exact bm_lt h) (fun w hw => hst rfl w (by omega))
      simp only [PP, P1, P2, P3, P4, P5, P6, P7, P8, P9, P10, P11, P12, P13, P14, L1, P15, N1, N2, N3, N4, N5, N6, N7, I1, I2, I3, I4, I5, I6, I7, reduceIte, reduceCtorEq]
      exact Gh_retB (M := [o0, o1, .cells 0 s.ver (s.st.map (PV.int .i64)), .cells 0 0 (zSol f1 p1 f2 p2 f3 p3 f4 p4 ow pr su)]) (by simp only [PP, P1, P2, P3, P4, P5, P6, P7, P8, P9, P10, P11, P12, P13, P14, L1, P15, N1, N2, N3, N4, N5, N6, N7, I1, I2, I3, I4, I5, I6, I7, reduceIte, reduceCtorEq, cutOk_cells, h0, h1, underL_ints]) jo (hk s.ver s.out s.st s.r jo js J.nn hA)
    · have := cnt_le s.out
      have := hch rfl
      simp only [PP, P1, P2, P3, P4, P5, P6, P7, P8, P9, P10, P11, P12, P13, P14, L1, P15, N1, N2, N3, N4, N5, N6, N7, I1, I2, I3, I4, I5, I6, I7, reduceIte, reduceCtorEq]
      exact SemW_weak (ih s J (by omega)) (by simp only [PWeak_nil, PWeak_junk, PWeak_same, Int.cast_ofNat_Int, List.length_append, List.length_cons, List.length_nil, Nat.zero_add])
end
end Go.Am.Ar

