/- Contracts: Follow: the value of a play, and what goes with it. -/
import Derived.Test.YtgapkfaikhlipaaImproveMatchesG1
import Derived.Test.YtgapkfaikhlipaaImproveMatchesG2
import Derived.Test.YtgapkfaikhlipaaPmC
import Derived.Test.YtgapkfaikhlipaaImproveMatchesG0
import Derived.Test.YtgapkfaikhlipaaPmL
set_option linter.unusedVariables false
set_option linter.unusedSimpArgs false
set_option maxRecDepth 10000
namespace Go.Am.Ar
open Go.Am renaming pchk → P1, pold → P2, PKNo → P3, ppack → P4, PObj.under → P5, pput → P6, ptset → P7, ptget → P8, pev → P9, ofAV → P10, ofAV1 → P11, ppad → P12, pfill → P13, prepl → P14, AO.effect → P15
open List renaming replicate → L1
open Nat renaming reduceAdd → N1, reduceSub → N2, reduceMul → N3, reduceLT → N4, reduceLeDiff → N5, reduceEqDiff → N6, reduceBEq → N7
open Int renaming reduceToNat → I1, reduceLT → I2, reduceLE → I3, reduceEq → I4, reduceAdd → I5, reduceSub → I6, reduceNeg → I7
def seF (n : Nat) (pr : List Int) (all : List Int) (w : Int) : List Int := (natI (List.range n)).filter fun u => decide (u ∈ all ∧ 0 < relI pr u w)
def folV (n : Nat) (pr : List Int) (p l : List Int) : Vl :=
  match l with
  | [] => ⟨0, [], 0⟩
  | x :: xs => ⟨maxR pr x xs, seF n pr (p ++ x :: xs) (maxR pr x xs), idxI (maxR pr x xs) 0 (p ++ x :: xs)⟩
def folX (ow pr st : List Int) (v : Int) : Vl := folV ow.length pr (playL st (ow.length + 1) v []).1 (playL st (ow.length + 1) v []).2
def folA (ow pr : List Int) (su : List (List Int)) (st : List Int) (v : Int) : Vl := if playE ow pr su st v = 0 then folX ow pr st v else ⟨0, [], 0⟩
theorem rise_of {l : List Int} : ∀ {k : Int}, l.Pairwise (· < ·) → (∀ x ∈ l, k < x) → Rise k l := by
  induction l with
  | nil => intro k _ _; trivial
  | cons x l ih =>
    intro k h1 h2
    rw [List.pairwise_cons] at h1
    exact ⟨h2 x (by simp), ih h1.2 h1.1⟩
theorem seF_mem {n : Nat} {pr all : List Int} {w u : Int} : u ∈ seF n pr all w ↔ (0 ≤ u ∧ u < n) ∧ u ∈ all ∧ 0 < relI pr u w := by
  unfold seF
  rw [List.mem_filter, decide_eq_true_eq]
  constructor
  · rintro ⟨h1, h2⟩
    obtain ⟨a, h3, rfl⟩ := List.mem_map.1 h1
    rw [List.mem_range] at h3
    exact ⟨⟨by omega, by omega⟩, h2⟩
  · rintro ⟨⟨h1, h2⟩, h3⟩
    exact ⟨List.mem_map.2 ⟨u.toNat, List.mem_range.2 (by omega), by omega⟩, h3⟩
theorem range_rise (n : Nat) : (natI (List.range n)).Pairwise (· < ·) := by
  rw [List.pairwise_map]
  exact List.Pairwise.imp (fun {a b} (h : a < b) => by show (a : Int) < b; omega) List.pairwise_lt_range
theorem seF_rise (n : Nat) (pr all : List Int) (w : Int) : Rise (-1) (seF n pr all w) :=
  rise_of ((range_rise n).filter _) fun x hx => by have := (seF_mem.1 hx).1; omega
theorem seF_len {n : Nat} {pr all : List Int} {w : Int} : (seF n pr all w).length ≤ n := by
  refine Nat.le_trans (List.length_filter_le _ _) ?_
  simp
theorem sorted_seF {n : Nat} {pr all l : List Int} {w : Int} (hnd : all.Nodup) (hr : ∀ x ∈ all, 0 ≤ x ∧ x < n) (hp : l.Perm (all.filter fun u => decide (0 < relI pr u w))) (hs : l.Pairwise (· ≤ ·)) : l = seF n pr all w := by
  have hm : ∀ u, u ∈ l ↔ u ∈ seF n pr all w := fun u => by
    rw [hp.mem_iff, List.mem_filter, seF_mem, decide_eq_true_eq]
    exact ⟨fun ⟨h1, h2⟩ => ⟨hr u h1, h1, h2⟩, fun ⟨_, h1, h2⟩ => ⟨h1, h2⟩⟩
  have hn : l.Nodup := hp.nodup_iff.2 (hnd.filter _)
  have hlt : l.Pairwise (· < ·) := by
    have := hs.and hn
    exact this.imp fun {a b} ⟨h1, h2⟩ => by omega
  refine Rise.ext (rise_of hlt fun x hx => ?_) (seF_rise n pr all w) hm
  have := (seF_mem.1 ((hm x).1 hx)).1
  omega
theorem play_facts {ow pr st : List Int} {su : List (List Int)} {v : Int} (h : playE ow pr su st v = 0) :
    checkM ow pr su = 0 ∧ 0 ≤ v ∧ v < ow.length ∧ st.length = ow.length ∧ (∃ f : Nat → Nat, (∀ v, v < ow.length → st[v]? = some ((f v : Nat) : Int)) ∧ (∀ v, v < ow.length → f v < ow.length ∧ ((f v : Nat) : Int) ∈ su.getD v []) ∧ ∃ m k, IsPlay f v.toNat ow.length (playL st (ow.length + 1) v []).1 (playL st (ow.length + 1) v []).2 m k) := by
  unfold playE at h
  split at h
  · rename_i c
    split at h
    · simp at h
    · split at h
      · simp at h
      · split at h
        · rename_i c1 c2 c3
          split at h
          · rename_i c4
            have V := valid_of c
            have hg : ∀ k, k < ow.length → ∃ u : Int, st[k]? = some u ∧ u ∈ su.getD k [] ∧ 0 ≤ u ∧ u < ow.length := fun k hk => by
              obtain ⟨u, hu⟩ := some_of (xs := st) (k := k) (by omega)
              have hm := movM_get c4 k u hu
              rw [Nat.zero_add] at hm
              exact ⟨u, hu, hm, su_range V hk hm⟩
            have h1 : ∀ v, v < ow.length → st[v]? = some (((st.getD v 0).toNat : Nat) : Int) := fun v hv => by
              obtain ⟨u, hu, _, h2, h3⟩ := hg v hv
              rw [getD_some hu, hu]; congr 1; omega
            have h2 : ∀ v, v < ow.length → (st.getD v 0).toNat < ow.length := fun v hv => by
              obtain ⟨u, hu, _, h2, h3⟩ := hg v hv
              rw [getD_some hu]; omega
            refine ⟨c, by omega, by omega, by omega, fun v => (st.getD v 0).toNat, h1, fun v hv => ?_, ?_⟩
            · obtain ⟨u, hu, h4, h5, h6⟩ := hg v hv
              show (st.getD v 0).toNat < ow.length ∧ (((st.getD v 0).toNat : Nat) : Int) ∈ su.getD v []
              rw [getD_some hu]
              exact ⟨by omega, by rw [show ((u.toNat : Nat) : Int) = u by omega]; exact h4⟩
            · have := play_spec (v := v.toNat) h1 h2 (by omega)
              rw [show ((v.toNat : Nat) : Int) = v by omega] at this
              exact this
          · simp at h
        · simp at h
  · rename_i c; exact absurd h c
theorem IsPlay.all {f : Nat → Nat} {v n m k : Nat} {p l : List Int} (h : IsPlay f v n p l m k) : p ++ l = natI (its f v m) := by
  rw [h.p, h.l, ← List.map_append, List.take_append_drop]
theorem natI_nodup {l : List Nat} (h : l.Nodup) : (natI l).Nodup := by
  unfold natI
  rw [List.Nodup, List.pairwise_map]
  exact List.Pairwise.imp (fun {a b} (q : a ≠ b) => by show (a : Int) ≠ b; omega) h
theorem IsPlay.facts {f : Nat → Nat} {v n m k : Nat} {p l : List Int} (h : IsPlay f v n p l m k) (hf : ∀ v, v < n → f v < n) (hv : v < n) : (p ++ l).Nodup ∧ (∀ x ∈ p ++ l, 0 ≤ x ∧ x < n) ∧ (p ++ l).length ≤ n ∧ l ≠ [] := by
  rw [h.all]
  refine ⟨natI_nodup h.nd, fun x hx => ?_, ?_, ?_⟩
  · obtain ⟨a, ha, rfl⟩ := List.mem_map.1 hx
    have := its_lt hf hv a ha
    omega
  · rw [List.length_map, its_len]; exact h.mn
  · have h1 := h.len.2
    have h2 := h.km
    intro e
    rw [e] at h1
    simp only [List.length_nil] at h1
    omega
section
variable {tab : FuncId → Option AF} (T : HasA tab)
include T
set_option maxHeartbeats 1000000 in
theorem follow_p {M : Mem} {K : PV → Mem → Prop} {F : GF} {f5 o5 : Bool} {ow pr st : List Int} {su : List (List Int)} {v : Int} (B : Bnd ow pr su) (h14 : ow.length ≤ 14) (hb : st.length < big) (hq : K (.tuple [.agg (vlL false true (folA ow pr su st v)), p64 (playE ow pr su st v)]) M) :
    SemC tab 27 [.agg (gmF F ow pr su), slI f5 o5 .i64 st, p64 v] M K := by
  refine SemC_wk ?_
  refine SemC_pure T.h27 (by simp only [PP, P1, P2, P3, P4, P5, P6, P7, P8, P9, P10, P11, P12, P13, P14, L1, P15, N1, N2, N3, N4, N5, N6, N7, I1, I2, I3, I4, I5, I6, I7, reduceIte, reduceCtorEq]) ?_
  simp only [af27, PP, P1, P2, P3, P4, P5, P6, P7, P8, P9, P10, P11, P12, P13, P14, L1, P15, N1, N2, N3, N4, N5, N6, N7, I1, I2, I3, I4, I5, I6, I7, reduceIte, reduceCtorEq]
  refine play_p T B hb ?_
  unfold playM
  unfold folA at hq
  by_cases c1 : playE ow pr su st v = 0
  rotate_left
  · rw [if_neg c1] at hq ⊢
    simp only [PP, P1, P2, P3, P4, P5, P6, P7, P8, P9, P10, P11, P12, P13, P14, L1, P15, N1, N2, N3, N4, N5, N6, N7, I1, I2, I3, I4, I5, I6, I7, reduceIte, reduceCtorEq, c1]
    refine ⟨.tuple [.agg (vlL false true ⟨0, [], 0⟩), p64 (playE ow pr su st v)], PvWk.tuple rfl fun i y z h1 h2 => ?_, hq⟩
    match i with
    | 0 =>
      cases h1; cases h2
      refine PvWk.agg rfl fun i y z h1 h2 => ?_
      match i with
      | 0 => cases h1; cases h2; exact PvWk.refl _
      | 1 => cases h1; cases h2; exact PvWk.nils _ _ _
      | 2 => cases h1; cases h2; exact PvWk.refl _
      | i + 3 => simp at h1
    | 1 => cases h1; cases h2; exact PvWk.refl _
    | i + 2 => simp at h1
  rw [if_pos c1] at hq ⊢
  rw [c1] at hq
  obtain ⟨cc, v0, v1, hst, f, hf1, hf2, m, k, hP⟩ := play_facts c1
  have V := valid_of cc
  obtain ⟨hnd, hran, hlen, hne⟩ := hP.facts (fun v hv => (hf2 v hv).1) (by omega)
  have hpl : pr.length = ow.length := V.p
  unfold folX at hq
  obtain ⟨P, hPP⟩ : ∃ P, P = (playL st (ow.length + 1) v []).1 := ⟨_, rfl⟩
  obtain ⟨L, hLL⟩ : ∃ L, L = (playL st (ow.length + 1) v []).2 := ⟨_, rfl⟩
  rw [← hPP, ← hLL] at hnd hran hlen hq ⊢
  rw [← hLL] at hne
  obtain ⟨x, xs, rfl⟩ : ∃ x xs, L = x :: xs := by cases L with | nil => exact absurd rfl hne | cons x xs => exact ⟨x, xs, rfl⟩
  simp only [folV] at hq
  rw [List.length_append] at hlen
  obtain ⟨L, hL⟩ : ∃ L, L = x :: xs := ⟨_, rfl⟩
  obtain ⟨w, hw⟩ : ∃ w, w = maxR pr x xs := ⟨_, rfl⟩
  rw [← hL, ← hw] at hq
  simp only [PP, P1, P2, P3, P4, P5, P6, P7, P8, P9, P10, P11, P12, P13, P14, L1, P15, N1, N2, N3, N4, N5, N6, N7, I1, I2, I3, I4, I5, I6, I7, reduceIte, reduceCtorEq]
  rw [← hL]
  refine relevance_p T ?_
  simp only [PP, P1, P2, P3, P4, P5, P6, P7, P8, P9, P10, P11, P12, P13, P14, L1, P15, N1, N2, N3, N4, N5, N6, N7, I1, I2, I3, I4, I5, I6, I7, reduceIte, reduceCtorEq]
  have hrL : ∀ v ∈ x :: xs, 0 ≤ v ∧ v < pr.length := fun y hy => by
    have := hran y (List.mem_append.2 (.inr hy)); omega
  have hwr : 0 ≤ w ∧ w < pr.length := by
    rcases maxR_mem pr xs x with h | h
    · rw [hw, h]; exact hrL x (by simp)
    · rw [hw]; exact hrL _ (List.mem_cons_of_mem _ h)
  rw [hL]
  refine maxF_p T (F := F) (by show _ < 1000000000000; omega) hrL ?_
  rw [← hL, ← hw]
  have hLlen : P.length + L.length ≤ ow.length := by rw [hL]; exact hlen
  simp only [PP, P1, P2, P3, P4, P5, P6, P7, P8, P9, P10, P11, P12, P13, P14, L1, P15, N1, N2, N3, N4, N5, N6, N7, I1, I2, I3, I4, I5, I6, I7, reduceIte, reduceCtorEq]
  refine concat_p T (by omega) (by rw [hL]; simp) ?_
  obtain ⟨A, hA⟩ : ∃ A, A = P ++ L := ⟨_, rfl⟩
  rw [← hA] at hq ⊢
  have hAn : A.length ≤ ow.length := by rw [hA, List.length_append]; exact hLlen
  have hnA : A.Nodup := by rw [hA, hL]; exact hnd
  have hrA : ∀ x ∈ A, 0 ≤ x ∧ x < ow.length := by rw [hA, hL]; exact hran
  have hwA : w ∈ A := by
    rw [hA, hL]
    refine List.mem_append.2 (.inr ?_)
    rcases maxR_mem pr xs x with h | h
    · rw [hw, h]; simp
    · rw [hw]; exact List.mem_cons_of_mem _ h
  simp only [PP, P1, P2, P3, P4, P5, P6, P7, P8, P9, P10, P11, P12, P13, P14, L1, P15, N1, N2, N3, N4, N5, N6, N7, I1, I2, I3, I4, I5, I6, I7, reduceIte, reduceCtorEq]
  refine index_p T (by show _ < 1000000000000; omega) ?_
  simp only [PP, P1, P2, P3, P4, P5, P6, P7, P8, P9, P10, P11, P12, P13, P14, L1, P15, N1, N2, N3, N4, N5, N6, N7, I1, I2, I3, I4, I5, I6, I7, reduceIte, reduceCtorEq]
  refine SemW_re (GStep.nilbox 2 1 1 rfl rfl rfl) ?_
  simp only [List.set_cons_succ, List.set_cons_zero, List.cons_append, List.nil_append, List.length_cons, List.length_nil, Nat.reduceAdd]
  refine loop5 (fun (k g v ver n : Nat) => k ≤ A.length ∧ n = ((A.take k).filter fun u => decide (0 < relI pr u w)).length) (fun k g v ver n => [.junk, .junk, .junk, .junk, .junk, .junk, .ptr 1 0 0, .junk, .junk, .junk, .junk, moreV (gmF F ow pr su), p64 w, .junk, .ptr 2 0 0, .junk, .junk, .junk, .junk, .junk, .junk, .junk, .junk, .junk, .junk, .junk, .junk, .junk, .junk, .junk, .junk, .junk, .junk, .junk, .junk, .junk, .junk, .junk, .junk, .junk, .junk, .junk, .junk, slI false true .i64 A, p64 A.length, p64 k, .junk, .junk, .junk, .junk, .junk, .junk, .junk, .junk, .junk, .junk, .junk, .junk, .junk, .junk, .junk, .junk, .junk, .junk, .junk])
    (fun k g v ver n => [.cells 0 0 (gmF F ow pr su), .cells 0 0 [p64 0, .nils, p64 0], .cells 0 ver [p64 w, .ref 3 g 1 0 n, p64 (idxI w 0 A)], .cells g v (((A.take k).filter fun u => decide (0 < relI pr u w)).map p64)]) (fun k _ _ _ _ => A.length - k) 0 0 0 1 0 ⟨by omega, rfl⟩ (by simp only [PWeak_nil, PWeak_junk, PWeak_same, Int.cast_ofNat_Int, List.length_append, List.length_cons, List.length_nil, Nat.zero_add]) rfl ?_
  intro k g v ver n ⟨hle, hn⟩ ih
  refine SemW_go (by kernel_rfl) ?_
  simp only [PP, P1, P2, P3, P4, P5, P6, P7, P8, P9, P10, P11, P12, P13, P14, L1, P15, N1, N2, N3, N4, N5, N6, N7, I1, I2, I3, I4, I5, I6, I7, reduceIte, reduceCtorEq]
  refine QIf.intro (fun c => ?_) (fun c => ?_)
  · have hk' : k < A.length := by omega
    obtain ⟨u, gu⟩ := some_of hk'
    obtain ⟨u0, u1⟩ := hrA u (List.mem_of_getElem? gu)
    have hwk := wrap_succ (k := k) (by show _ < 1000000000000; omega)
    have k0 : (0 : Int) ≤ k := by omega
    simp only [PP, P1, P2, P3, P4, P5, P6, P7, P8, P9, P10, P11, P12, P13, P14, L1, P15, N1, N2, N3, N4, N5, N6, N7, I1, I2, I3, I4, I5, I6, I7, reduceIte, reduceCtorEq, c, gu, k0]
    refine rel1_p T u0 (by omega) hwr.1 hwr.2 ?_
    simp only [PP, P1, P2, P3, P4, P5, P6, P7, P8, P9, P10, P11, P12, P13, P14, L1, P15, N1, N2, N3, N4, N5, N6, N7, I1, I2, I3, I4, I5, I6, I7, reduceIte, reduceCtorEq]
    have htk := take_some gu
    have hnk : n ≤ k := by
      rw [hn]
      refine Nat.le_trans (List.length_filter_le _ _) ?_
      rw [List.length_take]; omega
    obtain ⟨X, hX⟩ : ∃ X, X = (A.take k).filter fun u => decide (0 < relI pr u w) := ⟨_, rfl⟩
    rw [← hX] at hn ⊢
    refine QIf.intro (fun d => ?_) (fun d => ?_)
    · have hX2 : (A.take (k + 1)).filter (fun u => decide (0 < relI pr u w)) = X ++ [u] := by
        rw [htk, List.filter_append, ← hX]; simp [d]
      have hps : psub (X.map p64) 0 n = X.map p64 := psub_all _ _ (by simp [hn])
      have hxl : n ≤ X.length := by omega
      simp only [PP, P1, P2, P3, P4, P5, P6, P7, P8, P9, P10, P11, P12, P13, P14, L1, P15, N1, N2, N3, N4, N5, N6, N7, I1, I2, I3, I4, I5, I6, I7, reduceIte, reduceCtorEq, d, hps, hxl, hwk]
      refine ⟨⟨by omega, by omega⟩, SemW_to (ih (k + 1) (g + 1) 0 (ver + 1) (n + 1) ⟨by omega, by rw [hX2]; simp [hn]⟩ (by omega)) (by simp only [PWeak_nil, PWeak_junk, PWeak_same, Int.cast_ofNat_Int, List.length_append, List.length_cons, List.length_nil, Nat.zero_add]) (by rw [hX2]; simp)⟩
    · have hX2 : (A.take (k + 1)).filter (fun u => decide (0 < relI pr u w)) = X := by
        rw [htk, List.filter_append, ← hX]; simp [d]
      simp only [PP, P1, P2, P3, P4, P5, P6, P7, P8, P9, P10, P11, P12, P13, P14, L1, P15, N1, N2, N3, N4, N5, N6, N7, I1, I2, I3, I4, I5, I6, I7, reduceIte, reduceCtorEq, d, hwk]
      exact SemW_to (ih (k + 1) g v ver n ⟨by omega, by rw [hX2]; exact hn⟩ (by omega)) (by simp only [PWeak_nil, PWeak_junk, PWeak_same, Int.cast_ofNat_Int, List.length_append, List.length_cons, List.length_nil, Nat.zero_add]) (by rw [hX2])
  · have hkA : k = A.length := by omega
    rw [hkA, List.take_length] at hn ⊢
    obtain ⟨X, hX⟩ : ∃ X, X = A.filter fun u => decide (0 < relI pr u w) := ⟨_, rfl⟩
    rw [← hX] at hn ⊢
    have hn13 : n ≤ 13 := by
      have h1 : X.length ≤ (A.erase w).length := by
        refine List.Nodup.length_le_of_subset ?_ ?_
        · rw [hX]; exact hnA.filter _
        · intro y hy
          rw [hX, List.mem_filter, decide_eq_true_eq] at hy
          refine (List.Nodup.mem_erase_iff hnA).2 ⟨fun e => ?_, hy.1⟩
          rw [e, (ord3_rel pr).self] at hy
          exact absurd hy.2 (by omega)
      rw [List.length_erase_of_mem hwA] at h1
      omega
    simp only [PP, P1, P2, P3, P4, P5, P6, P7, P8, P9, P10, P11, P12, P13, P14, L1, P15, N1, N2, N3, N4, N5, N6, N7, I1, I2, I3, I4, I5, I6, I7, reduceIte, reduceCtorEq, c]
    refine SemC_at (cs := X.map p64) (ver := v) rfl (by simp only [PP, P1, P2, P3, P4, P5, P6, P7, P8, P9, P10, P11, P12, P13, P14, L1, P15, N1, N2, N3, N4, N5, N6, N7, I1, I2, I3, I4, I5, I6, I7, reduceIte, reduceCtorEq]) rfl (sort13_p T hn.symm hn13 (fun v' l' h1 h2 => ⟨rfl, v', l'.map p64, [], rfl, by simp only [PP, P1, P2, P3, P4, P5, P6, P7, P8, P9, P10, P11, P12, P13, P14, L1, P15, N1, N2, N3, N4, N5, N6, N7, I1, I2, I3, I4, I5, I6, I7, reduceIte, reduceCtorEq], ?_⟩))
    have e := sorted_seF (n := ow.length) (pr := pr) (w := w) (all := A) hnA hrA (by rw [← hX]; exact h1) h2
    have hll : n = l'.length := by rw [h1.length_eq]; exact hn
    have hps : psub (l'.map p64) 0 n = l'.map p64 := psub_all _ _ (by rw [List.length_map]; omega)
    have hle2 : n ≤ l'.length := by omega
    simp only [PP, P1, P2, P3, P4, P5, P6, P7, P8, P9, P10, P11, P12, P13, P14, L1, P15, N1, N2, N3, N4, N5, N6, N7, I1, I2, I3, I4, I5, I6, I7, reduceIte, reduceCtorEq, hle2, hps]
    refine ⟨_, PvWk.refl _, ?_⟩
    rw [hll, e]
    exact hq
end
end Go.Am.Ar
set_option linter.unusedVariables false
set_option linter.unusedSimpArgs false
set_option maxRecDepth 10000
namespace Go.Am.Ar
open Go.Am renaming pchk → P1, pold → P2, PKNo → P3, ppack → P4, PObj.under → P5, pput → P6, ptset → P7, ptget → P8, pev → P9, ofAV → P10, ofAV1 → P11, ppad → P12, pfill → P13, prepl → P14, AO.effect → P15
open List renaming replicate → L1
open Nat renaming reduceAdd → N1, reduceSub → N2, reduceMul → N3, reduceLT → N4, reduceLeDiff → N5, reduceEqDiff → N6, reduceBEq → N7
open Int renaming reduceToNat → I1, reduceLT → I2, reduceLE → I3, reduceEq → I4, reduceAdd → I5, reduceSub → I6, reduceNeg → I7
def cyI (pr : List Int) (u v : Int) : Int := if sgI pr u ≠ sgI pr v then sgI pr u else sgI pr u * relI pr u v
theorem par_cases {pr : List Int} {v : Int} (h : 0 ≤ prI pr v) : ((prI pr v).tmod 2 = 0 ∧ sgI pr v = 1) ∨ ((prI pr v).tmod 2 = 1 ∧ sgI pr v = -1) := by
  unfold sgI
  rw [Int.tmod_eq_emod_of_nonneg h]; omega
theorem relI_pos {pr : List Int} {u v : Int} : 0 < relI pr u v ↔ (prI pr v < prI pr u ∨ (prI pr u = prI pr v ∧ v < u)) := by
  unfold relI lex3
  simp only
  rcases cmp3_cases (prI pr u) (prI pr v) with ⟨h, e⟩ | ⟨h, e⟩ | ⟨h, e⟩ <;> rcases cmp3_cases u v with ⟨g, e'⟩ | ⟨g, e'⟩ | ⟨g, e'⟩ <;> rw [e, e'] <;> simp <;> omega
def Dif (a b : List Int) (v : Int) : Prop := (v ∈ a ∧ v ∉ b) ∨ (v ∈ b ∧ v ∉ a)
open Classical in
theorem dif_dec (a b : List Int) (v : Int) : (!(decide (v ∈ a) == decide (v ∈ b))) = decide (Dif a b v) := by
  unfold Dif
  by_cases h1 : v ∈ a <;> by_cases h2 : v ∈ b <;> simp [h1, h2]
theorem seenI_none {pr a b : List Int} (ha : Nn a) (hb : Nn b) (h : ∀ v, ¬ Dif a b v) : seenI pr a b = 0 := by
  refine (seenI_spec ha hb).fun (.inl ⟨fun v => ?_, rfl⟩)
  have := h v
  unfold Dif at this
  by_cases h1 : v ∈ a <;> by_cases h2 : v ∈ b <;> simp_all
theorem seenI_some {pr a b : List Int} {x : Int} (ha : Nn a) (hb : Nn b) (hx : Dif a b x) (h : ∀ v, Dif a b v → relI pr v x ≤ 0) : seenI pr a b = if x ∈ a then sgI pr x else - sgI pr x := by
  refine (seenI_spec ha hb).fun (.inr ⟨x, ?_, h⟩)
  rcases hx with ⟨h1, h2⟩ | ⟨h1, h2⟩
  · exact .inl ⟨h1, h2, if_pos h1⟩
  · exact .inr ⟨h1, h2, if_neg h2⟩
theorem ordI_cy {pr : List Int} {a b : Vl} (hp : ∀ v, 0 ≤ prI pr v) (h : a.cy ≠ b.cy) : ordI pr a b = cyI pr a.cy b.cy := by
  unfold ordI lex3
  exact if_pos fun e => h ((cycI_zero hp).1 e)
theorem ordI_se {pr : List Int} {a b : Vl} (hp : ∀ v, 0 ≤ prI pr v) (h : a.cy = b.cy) (h2 : seenI pr a.se b.se ≠ 0) : ordI pr a b = seenI pr a.se b.se := by
  unfold ordI lex3
  rw [if_neg (fun e => e ((cycI_zero hp).2 h))]
  exact if_pos h2
theorem ordI_st {pr : List Int} {a b : Vl} (hp : ∀ v, 0 ≤ prI pr v) (h : a.cy = b.cy) (h2 : seenI pr a.se b.se = 0) : ordI pr a b = stepI pr a b := by
  unfold ordI lex3
  rw [if_neg (fun e => e ((cycI_zero hp).2 h))]
  exact if_neg fun e => e h2
section
variable {tab : FuncId → Option AF} (T : HasA tab)
include T
theorem relevant_p {M : Mem} {K : PV → Mem → Prop} {F : GF} {ow pr : List Int} {su : List (List Int)} {u v : Int} (u0 : 0 ≤ u) (u1 : u < pr.length) (v0 : 0 ≤ v) (v1 : v < pr.length)
    (hk : K (.bool (decide (0 < relI pr u v))) M) : SemC tab 59 [.agg (gmF F ow pr su), p64 u, p64 v] M K := by
  refine SemC_pure T.h59 (by simp only [PP, P1, P2, P3, P4, P5, P6, P7, P8, P9, P10, P11, P12, P13, P14, L1, P15, N1, N2, N3, N4, N5, N6, N7, I1, I2, I3, I4, I5, I6, I7, reduceIte, reduceCtorEq, PV.under]) ?_
  have gu := prI_get u0 u1
  have gv := prI_get v0 v1
  simp only [af59, PP, P1, P2, P3, P4, P5, P6, P7, P8, P9, P10, P11, P12, P13, P14, L1, P15, N1, N2, N3, N4, N5, N6, N7, I1, I2, I3, I4, I5, I6, I7, reduceIte, reduceCtorEq, u0, u1, v0, v1, gu, gv]
  have e := relI_pos (pr := pr) (u := u) (v := v)
  refine QIf.intro (fun c => ?_) (fun c => ?_)
  · have : 0 < relI pr u v := e.2 (.inl c)
    simp only [PP, P1, P2, P3, P4, P5, P6, P7, P8, P9, P10, P11, P12, P13, P14, L1, P15, N1, N2, N3, N4, N5, N6, N7, I1, I2, I3, I4, I5, I6, I7, reduceIte, reduceCtorEq, c, this] at hk ⊢
    exact hk
  · simp only [PP, P1, P2, P3, P4, P5, P6, P7, P8, P9, P10, P11, P12, P13, P14, L1, P15, N1, N2, N3, N4, N5, N6, N7, I1, I2, I3, I4, I5, I6, I7, reduceIte, reduceCtorEq, c, u0, u1, v0, v1, gu, gv]
    refine QIf.intro (fun d => ?_) (fun d => ?_)
    · have e2 : decide (0 < relI pr u v) = decide (v < u) := by congr 1; exact propext (e.trans ⟨fun h => h.elim (fun h => absurd h c) (fun h => h.2), fun h => .inr ⟨d, h⟩⟩)
      rw [e2] at hk
      simp only [PP, P1, P2, P3, P4, P5, P6, P7, P8, P9, P10, P11, P12, P13, P14, L1, P15, N1, N2, N3, N4, N5, N6, N7, I1, I2, I3, I4, I5, I6, I7, reduceIte, reduceCtorEq, d]
      exact hk
    · have : ¬ 0 < relI pr u v := fun h => (e.1 h).elim c fun h => d h.1
      simp only [PP, P1, P2, P3, P4, P5, P6, P7, P8, P9, P10, P11, P12, P13, P14, L1, P15, N1, N2, N3, N4, N5, N6, N7, I1, I2, I3, I4, I5, I6, I7, reduceIte, reduceCtorEq, this] at hk
      simp only [PP, P1, P2, P3, P4, P5, P6, P7, P8, P9, P10, P11, P12, P13, P14, L1, P15, N1, N2, N3, N4, N5, N6, N7, I1, I2, I3, I4, I5, I6, I7, reduceIte, reduceCtorEq, d]
      exact hk
theorem better_p {M : Mem} {K : PV → Mem → Prop} {F : GF} {ow pr : List Int} {su : List (List Int)} {u v : Int} (hp : ∀ v, 0 ≤ prI pr v) (u0 : 0 ≤ u) (u1 : u < pr.length) (v0 : 0 ≤ v) (v1 : v < pr.length)
    (hk : K (.bool (decide (0 < cyI pr u v))) M) : SemC tab 78 [.agg (gmF F ow pr su), p64 u, p64 v] M K := by
  refine SemC_pure T.h78 (by simp only [PP, P1, P2, P3, P4, P5, P6, P7, P8, P9, P10, P11, P12, P13, P14, L1, P15, N1, N2, N3, N4, N5, N6, N7, I1, I2, I3, I4, I5, I6, I7, reduceIte, reduceCtorEq, PV.under]) ?_
  have gu := prI_get u0 u1
  have gv := prI_get v0 v1
  have pu := par_cases (hp u)
  have pv := par_cases (hp v)
  simp only [af78, PP, P1, P2, P3, P4, P5, P6, P7, P8, P9, P10, P11, P12, P13, P14, L1, P15, N1, N2, N3, N4, N5, N6, N7, I1, I2, I3, I4, I5, I6, I7, reduceIte, reduceCtorEq, u0, u1, v0, v1, gu, gv, prem (show (2 : Int) ≠ 0 by decide)]
  unfold cyI at hk
  refine QIf.intro (fun c => ?_) (fun c => ?_)
  · have cs : sgI pr u = sgI pr v := by omega
    rw [if_neg (fun h => h cs)] at hk
    simp only [PP, P1, P2, P3, P4, P5, P6, P7, P8, P9, P10, P11, P12, P13, P14, L1, P15, N1, N2, N3, N4, N5, N6, N7, I1, I2, I3, I4, I5, I6, I7, reduceIte, reduceCtorEq, c]
    by_cases d : u = v
    · subst d
      simp only [PP, P1, P2, P3, P4, P5, P6, P7, P8, P9, P10, P11, P12, P13, P14, L1, P15, N1, N2, N3, N4, N5, N6, N7, I1, I2, I3, I4, I5, I6, I7, reduceIte, reduceCtorEq]
      rw [(ord3_rel pr).self] at hk
      simp only [PP, P1, P2, P3, P4, P5, P6, P7, P8, P9, P10, P11, P12, P13, P14, L1, P15, N1, N2, N3, N4, N5, N6, N7, I1, I2, I3, I4, I5, I6, I7, reduceIte, reduceCtorEq, Int.mul_zero, Int.lt_irrefl] at hk
      exact hk
    · have hz : relI pr u v ≠ 0 := fun h => d (relI_zero.1 h)
      simp only [PP, P1, P2, P3, P4, P5, P6, P7, P8, P9, P10, P11, P12, P13, P14, L1, P15, N1, N2, N3, N4, N5, N6, N7, I1, I2, I3, I4, I5, I6, I7, reduceIte, reduceCtorEq, d]
      refine relevant_p T u0 u1 v0 v1 ?_
      simp only [PP, P1, P2, P3, P4, P5, P6, P7, P8, P9, P10, P11, P12, P13, P14, L1, P15, N1, N2, N3, N4, N5, N6, N7, I1, I2, I3, I4, I5, I6, I7, reduceIte, reduceCtorEq]
      have e : decide (0 < sgI pr u * relI pr u v) = (decide (0 < relI pr u v) == decide ((prI pr v).tmod 2 = 0)) := by
        rcases relI_rng pr u v with r | r | r
        · rw [r]; rcases pu with ⟨p1, p2⟩ | ⟨p1, p2⟩ <;> rw [p2, ← c, p1] <;> decide
        · exact absurd r hz
        · rw [r]; rcases pu with ⟨p1, p2⟩ | ⟨p1, p2⟩ <;> rw [p2, ← c, p1] <;> decide
      rw [e] at hk
      exact hk
  · have cs : sgI pr u ≠ sgI pr v := by omega
    rw [if_pos cs] at hk
    simp only [PP, P1, P2, P3, P4, P5, P6, P7, P8, P9, P10, P11, P12, P13, P14, L1, P15, N1, N2, N3, N4, N5, N6, N7, I1, I2, I3, I4, I5, I6, I7, reduceIte, reduceCtorEq, c]
    have e : decide (0 < sgI pr u) = decide ((prI pr u).tmod 2 = 0) := by
      rcases pu with ⟨p1, p2⟩ | ⟨p1, p2⟩ <;> rw [p1, p2] <;> decide
    rw [e] at hk
    exact hk
theorem rcompare_p {M : Mem} {K : PV → Mem → Prop} {F : GF} {fa oa fb ob : Bool} {ow pr : List Int} {su : List (List Int)} {a b : Vl} (hl : pr.length = ow.length) (hlb : ow.length < big) (hp : ∀ v, 0 ≤ prI pr v) (ia : InV pr.length a) (ib : InV pr.length b)
    (hk : K (p64 (ordI pr a b)) M) : SemC tab 49 [.agg (gmF F ow pr su), .agg (vlL fa oa a), .agg (vlL fb ob b)] M K := by
  refine SemC_pure T.h49 (by simp only [PP, P1, P2, P3, P4, P5, P6, P7, P8, P9, P10, P11, P12, P13, P14, L1, P15, N1, N2, N3, N4, N5, N6, N7, I1, I2, I3, I4, I5, I6, I7, reduceIte, reduceCtorEq, PV.under]) ?_
  have hlb' : ow.length < 1000000000000 := hlb
  simp only [af49, PP, P1, P2, P3, P4, P5, P6, P7, P8, P9, P10, P11, P12, P13, P14, L1, P15, N1, N2, N3, N4, N5, N6, N7, I1, I2, I3, I4, I5, I6, I7, reduceIte, reduceCtorEq]
  refine QIf.intro (fun c => ?_) (fun c => ?_)
  rotate_left
  · rw [ordI_cy hp c] at hk
    simp only [PP, P1, P2, P3, P4, P5, P6, P7, P8, P9, P10, P11, P12, P13, P14, L1, P15, N1, N2, N3, N4, N5, N6, N7, I1, I2, I3, I4, I5, I6, I7, reduceIte, reduceCtorEq, c]
    refine better_p T hp ia.c0 ia.c1 ib.c0 ib.c1 ?_
    have hr : cyI pr a.cy b.cy = 1 ∨ cyI pr a.cy b.cy = -1 := by
      have := relI_zero (pr := pr) (u := a.cy) (v := b.cy)
      unfold cyI
      split
      · exact sgI_one hp _
      · rcases sgI_one hp a.cy with h | h <;> rcases relI_rng pr a.cy b.cy with g | g | g <;> rw [h, g] <;> first | decide | exact absurd (this.1 g) c
    simp only [PP, P1, P2, P3, P4, P5, P6, P7, P8, P9, P10, P11, P12, P13, P14, L1, P15, N1, N2, N3, N4, N5, N6, N7, I1, I2, I3, I4, I5, I6, I7, reduceIte, reduceCtorEq]
    refine QIf.intro (fun d => ?_) (fun d => ?_)
    · rw [show cyI pr a.cy b.cy = 1 by omega] at hk
      simp only [PP, P1, P2, P3, P4, P5, P6, P7, P8, P9, P10, P11, P12, P13, P14, L1, P15, N1, N2, N3, N4, N5, N6, N7, I1, I2, I3, I4, I5, I6, I7, reduceIte, reduceCtorEq, d]; exact hk
    · rw [show cyI pr a.cy b.cy = -1 by omega] at hk
      simp only [PP, P1, P2, P3, P4, P5, P6, P7, P8, P9, P10, P11, P12, P13, P14, L1, P15, N1, N2, N3, N4, N5, N6, N7, I1, I2, I3, I4, I5, I6, I7, reduceIte, reduceCtorEq, d]; exact hk
  simp only [PP, P1, P2, P3, P4, P5, P6, P7, P8, P9, P10, P11, P12, P13, P14, L1, P15, N1, N2, N3, N4, N5, N6, N7, I1, I2, I3, I4, I5, I6, I7, reduceIte, reduceCtorEq, c]
  have na : Nn a.se := fun v hv => (ia.se v hv).1
  have nb : Nn b.se := fun v hv => (ib.se v hv).1
  have hdl : ∀ v, Dif a.se b.se v → 0 ≤ v ∧ v < pr.length := fun v hv => by
    rcases hv with ⟨h, _⟩ | ⟨h, _⟩
    · exact ia.se v h
    · exact ib.se v h
  refine loop2 (fun (k : Nat) (x : Int) => k ≤ ow.length ∧ ((x < 0 ∧ ∀ v : Int, v < k → ¬ Dif a.se b.se v) ∨ (0 ≤ x ∧ x < k ∧ Dif a.se b.se x ∧ ∀ v : Int, v < k → Dif a.se b.se v → relI pr v x ≤ 0)))
    (fun k x => [.junk, .junk, .junk, .ptr 0 0 0, .ptr 1 0 0, .ptr 2 0 0, .junk, p64 x, p64 k, .junk, .junk, .junk, .junk, .junk, .junk, .junk, .junk, .junk, .junk, .junk, .junk, .junk, .junk, .junk, .junk, .junk, .junk, .junk, .junk, .junk, .junk, .junk, .junk, .junk, .junk, .junk, .junk, .junk, .junk, .junk, .junk, .junk, .junk, .junk, .junk, .junk, .junk, .junk, .junk, .junk, .junk, .junk, .junk, .junk, .junk, .junk, .junk, .junk, .junk, .junk, .junk, .junk, .junk, .junk, .junk, .junk, .junk, .junk, .junk, .junk, .junk, .junk, .junk, .junk, .junk, .junk, .junk, .junk, .junk, .junk]) (fun _ _ => [.cells 0 0 (gmF F ow pr su), .cells 0 0 (vlL fa oa a), .cells 0 0 (vlL fb ob b)]) (fun k _ => ow.length - k) 0 (-1) ⟨by omega, .inl ⟨by omega, fun v hv hd => by have := hdl v hd; omega⟩⟩ (by simp only [PWeak_nil, PWeak_junk, PWeak_same, Int.cast_ofNat_Int, List.length_append, List.length_cons, List.length_nil, Nat.zero_add, c]) rfl ?_
  intro k x ⟨hle, hx⟩ ih
  refine SemW_go (by kernel_rfl) ?_
  simp only [PP, P1, P2, P3, P4, P5, P6, P7, P8, P9, P10, P11, P12, P13, P14, L1, P15, N1, N2, N3, N4, N5, N6, N7, I1, I2, I3, I4, I5, I6, I7, reduceIte, reduceCtorEq]
  refine QIf.intro (fun d => ?_) (fun d => ?_)
  · have hk' : k < ow.length := by omega
    have hw := wrap_succ (k := k) (by omega)
    have k0 : (0 : Int) ≤ k := by omega
    simp only [PP, P1, P2, P3, P4, P5, P6, P7, P8, P9, P10, P11, P12, P13, P14, L1, P15, N1, N2, N3, N4, N5, N6, N7, I1, I2, I3, I4, I5, I6, I7, reduceIte, reduceCtorEq, d]
    refine hasInt_p T ia.b ?_
    simp only [PP, P1, P2, P3, P4, P5, P6, P7, P8, P9, P10, P11, P12, P13, P14, L1, P15, N1, N2, N3, N4, N5, N6, N7, I1, I2, I3, I4, I5, I6, I7, reduceIte, reduceCtorEq]
    refine hasInt_p T ib.b ?_
    simp only [PP, P1, P2, P3, P4, P5, P6, P7, P8, P9, P10, P11, P12, P13, P14, L1, P15, N1, N2, N3, N4, N5, N6, N7, I1, I2, I3, I4, I5, I6, I7, reduceIte, reduceCtorEq, dif_dec]
    have old : ∀ v : Int, v < ((k + 1 : Nat) : Int) → v < k ∨ v = k := fun v hv => by omega
    by_cases e : Dif a.se b.se k
    · simp only [PP, P1, P2, P3, P4, P5, P6, P7, P8, P9, P10, P11, P12, P13, P14, L1, P15, N1, N2, N3, N4, N5, N6, N7, I1, I2, I3, I4, I5, I6, I7, reduceIte, reduceCtorEq, e]
      refine QIf.intro (fun e2 => ?_) (fun e2 => ?_)
      · simp only [PP, P1, P2, P3, P4, P5, P6, P7, P8, P9, P10, P11, P12, P13, P14, L1, P15, N1, N2, N3, N4, N5, N6, N7, I1, I2, I3, I4, I5, I6, I7, reduceIte, reduceCtorEq, e2, hw]
        refine SemW_weak (ih (k + 1) k ⟨by omega, .inr ⟨k0, by omega, e, fun v hv hd => ?_⟩⟩ (by omega)) (by simp only [PWeak_nil, PWeak_junk, PWeak_same, Int.cast_ofNat_Int, List.length_append, List.length_cons, List.length_nil, Nat.zero_add])
        rcases hx with ⟨h1, h2⟩ | ⟨h1, _⟩
        · rcases old v hv with h | h
          · exact absurd hd (h2 v h)
          · rw [h, (ord3_rel pr).self]; exact Int.le_refl _
        · omega
      · rcases hx with ⟨h1, _⟩ | ⟨h1, h2, h3, h4⟩
        · exact absurd h1 e2
        simp only [PP, P1, P2, P3, P4, P5, P6, P7, P8, P9, P10, P11, P12, P13, P14, L1, P15, N1, N2, N3, N4, N5, N6, N7, I1, I2, I3, I4, I5, I6, I7, reduceIte, reduceCtorEq, e2]
        refine relevant_p T k0 (by omega) h1 (by omega) ?_
        simp only [PP, P1, P2, P3, P4, P5, P6, P7, P8, P9, P10, P11, P12, P13, P14, L1, P15, N1, N2, N3, N4, N5, N6, N7, I1, I2, I3, I4, I5, I6, I7, reduceIte, reduceCtorEq]
        by_cases e3 : 0 < relI pr k x
        · simp only [PP, P1, P2, P3, P4, P5, P6, P7, P8, P9, P10, P11, P12, P13, P14, L1, P15, N1, N2, N3, N4, N5, N6, N7, I1, I2, I3, I4, I5, I6, I7, reduceIte, reduceCtorEq, e3, hw]
          refine SemW_weak (ih (k + 1) k ⟨by omega, .inr ⟨k0, by omega, e, fun v hv hd => ?_⟩⟩ (by omega)) (by simp only [PWeak_nil, PWeak_junk, PWeak_same, Int.cast_ofNat_Int, List.length_append, List.length_cons, List.length_nil, Nat.zero_add])
          rcases old v hv with h | h
          · refine (ord3_rel pr).tr v x k (h4 v h hd) ?_
            have := (ord3_rel pr).anti k x
            show relI pr x k ≤ 0
            omega
          · rw [h, (ord3_rel pr).self]; exact Int.le_refl _
        · simp only [PP, P1, P2, P3, P4, P5, P6, P7, P8, P9, P10, P11, P12, P13, P14, L1, P15, N1, N2, N3, N4, N5, N6, N7, I1, I2, I3, I4, I5, I6, I7, reduceIte, reduceCtorEq, e3, hw]
          refine SemW_weak (ih (k + 1) x ⟨by omega, .inr ⟨h1, by omega, h3, fun v hv hd => ?_⟩⟩ (by omega)) (by simp only [PWeak_nil, PWeak_junk, PWeak_same, Int.cast_ofNat_Int, List.length_append, List.length_cons, List.length_nil, Nat.zero_add])
          rcases old v hv with h | h
          · exact h4 v h hd
          · rw [h]; omega
    · simp only [PP, P1, P2, P3, P4, P5, P6, P7, P8, P9, P10, P11, P12, P13, P14, L1, P15, N1, N2, N3, N4, N5, N6, N7, I1, I2, I3, I4, I5, I6, I7, reduceIte, reduceCtorEq, e, hw]
      refine SemW_weak (ih (k + 1) x ⟨by omega, ?_⟩ (by omega)) (by simp only [PWeak_nil, PWeak_junk, PWeak_same, Int.cast_ofNat_Int, List.length_append, List.length_cons, List.length_nil, Nat.zero_add])
      rcases hx with ⟨h1, h2⟩ | ⟨h1, h2, h3, h4⟩
      · refine .inl ⟨h1, fun v hv hd => ?_⟩
        rcases old v hv with h | h
        · exact h2 v h hd
        · rw [h] at hd; exact e hd
      · refine .inr ⟨h1, by omega, h3, fun v hv hd => ?_⟩
        rcases old v hv with h | h
        · exact h4 v h hd
        · rw [h] at hd; exact absurd hd e
  · have hkn : k = ow.length := by omega
    simp only [PP, P1, P2, P3, P4, P5, P6, P7, P8, P9, P10, P11, P12, P13, P14, L1, P15, N1, N2, N3, N4, N5, N6, N7, I1, I2, I3, I4, I5, I6, I7, reduceIte, reduceCtorEq, d]
    rcases hx with ⟨h1, h2⟩ | ⟨h1, h2, h3, h4⟩
    · have hs : seenI pr a.se b.se = 0 := seenI_none na nb fun v hd => h2 v (by have := hdl v hd; omega) hd
      rw [ordI_st hp c hs] at hk
      have h1' : ¬ 0 ≤ x := by omega
      have gc := prI_get ia.c0 ia.c1
      have hc0 := ia.c0
      have hc1 := ia.c1
      simp only [PP, P1, P2, P3, P4, P5, P6, P7, P8, P9, P10, P11, P12, P13, P14, L1, P15, N1, N2, N3, N4, N5, N6, N7, I1, I2, I3, I4, I5, I6, I7, reduceIte, reduceCtorEq, h1']
      unfold stepI at hk
      refine QIf.intro (fun e => ?_) (fun e => ?_)
      · rw [cmp3_eq e.symm, Int.mul_zero] at hk
        simp only [PP, P1, P2, P3, P4, P5, P6, P7, P8, P9, P10, P11, P12, P13, P14, L1, P15, N1, N2, N3, N4, N5, N6, N7, I1, I2, I3, I4, I5, I6, I7, reduceIte, reduceCtorEq, e]; exact hk
      · simp only [PP, P1, P2, P3, P4, P5, P6, P7, P8, P9, P10, P11, P12, P13, P14, L1, P15, N1, N2, N3, N4, N5, N6, N7, I1, I2, I3, I4, I5, I6, I7, reduceIte, reduceCtorEq, e, gc, hc0, hc1, prem (show (2 : Int) ≠ 0 by decide)]
        have hh : (decide (a.st < b.st) == decide ((prI pr a.cy).tmod 2 = 0)) = decide (sgI pr a.cy * cmp3 b.st a.st = 1) := by
          rcases cmp3_cases b.st a.st with ⟨g, e'⟩ | ⟨g, e'⟩ | ⟨g, e'⟩
          · rw [e']; rcases par_cases (hp a.cy) with ⟨p1, p2⟩ | ⟨p1, p2⟩ <;> rw [p1, p2] <;> simp <;> omega
          · exact absurd g.symm e
          · rw [e']; rcases par_cases (hp a.cy) with ⟨p1, p2⟩ | ⟨p1, p2⟩ <;> rw [p1, p2] <;> simp <;> omega
        have hr : sgI pr a.cy * cmp3 b.st a.st = 1 ∨ sgI pr a.cy * cmp3 b.st a.st = -1 := by
          rcases cmp3_cases b.st a.st with ⟨g, e'⟩ | ⟨g, e'⟩ | ⟨g, e'⟩
          · rw [e']; rcases par_cases (hp a.cy) with ⟨p1, p2⟩ | ⟨p1, p2⟩ <;> rw [p2] <;> decide
          · exact absurd g.symm e
          · rw [e']; rcases par_cases (hp a.cy) with ⟨p1, p2⟩ | ⟨p1, p2⟩ <;> rw [p2] <;> decide
        rw [hh]
        simp only [PP, P1, P2, P3, P4, P5, P6, P7, P8, P9, P10, P11, P12, P13, P14, L1, P15, N1, N2, N3, N4, N5, N6, N7, I1, I2, I3, I4, I5, I6, I7, reduceIte, reduceCtorEq]
        refine QIf.intro (fun g => ?_) (fun g => ?_)
        · rw [g] at hk; simp only [PP, P1, P2, P3, P4, P5, P6, P7, P8, P9, P10, P11, P12, P13, P14, L1, P15, N1, N2, N3, N4, N5, N6, N7, I1, I2, I3, I4, I5, I6, I7, reduceIte, reduceCtorEq, g]; exact hk
        · rw [show sgI pr a.cy * cmp3 b.st a.st = -1 by omega] at hk
          simp only [PP, P1, P2, P3, P4, P5, P6, P7, P8, P9, P10, P11, P12, P13, P14, L1, P15, N1, N2, N3, N4, N5, N6, N7, I1, I2, I3, I4, I5, I6, I7, reduceIte, reduceCtorEq, g]; exact hk
    · have hs := seenI_some (pr := pr) na nb h3 fun v hd => h4 v (by have := hdl v hd; omega) hd
      have hr : seenI pr a.se b.se = 1 ∨ seenI pr a.se b.se = -1 := by
        rw [hs]; have := sgI_one hp x; split <;> omega
      rw [ordI_se hp c (by omega)] at hk
      have gx := prI_get (pr := pr) h1 (by omega)
      have x1 : x < pr.length := by omega
      simp only [PP, P1, P2, P3, P4, P5, P6, P7, P8, P9, P10, P11, P12, P13, P14, L1, P15, N1, N2, N3, N4, N5, N6, N7, I1, I2, I3, I4, I5, I6, I7, reduceIte, reduceCtorEq, h1]
      refine hasInt_p T ia.b ?_
      have hh : (decide (x ∈ a.se) == decide ((prI pr x).tmod 2 = 0)) = decide (seenI pr a.se b.se = 1) := by
        rw [hs]
        by_cases hx : x ∈ a.se <;> rcases par_cases (hp x) with ⟨p1, p2⟩ | ⟨p1, p2⟩ <;> rw [p1, p2] <;> simp [hx]
      simp only [PP, P1, P2, P3, P4, P5, P6, P7, P8, P9, P10, P11, P12, P13, P14, L1, P15, N1, N2, N3, N4, N5, N6, N7, I1, I2, I3, I4, I5, I6, I7, reduceIte, reduceCtorEq, gx, h1, x1, prem (show (2 : Int) ≠ 0 by decide), hh]
      refine QIf.intro (fun g => ?_) (fun g => ?_)
      · rw [g] at hk; simp only [PP, P1, P2, P3, P4, P5, P6, P7, P8, P9, P10, P11, P12, P13, P14, L1, P15, N1, N2, N3, N4, N5, N6, N7, I1, I2, I3, I4, I5, I6, I7, reduceIte, reduceCtorEq, g]; exact hk
      · rw [show seenI pr a.se b.se = -1 by omega] at hk
        simp only [PP, P1, P2, P3, P4, P5, P6, P7, P8, P9, P10, P11, P12, P13, P14, L1, P15, N1, N2, N3, N4, N5, N6, N7, I1, I2, I3, I4, I5, I6, I7, reduceIte, reduceCtorEq, g]; exact hk
theorem rwrong_p {M : Mem} {K : PV → Mem → Prop} {F : GF} {fa oa : Bool} {ow pr : List Int} {su : List (List Int)} {a : Vl} (hb : a.se.length < big)
    (hk : K (p64 (vlE ow.length a)) M) : SemC tab 52 [.agg (gmF F ow pr su), .agg (vlL fa oa a)] M K := by
  refine SemC_pure T.h52 (by simp only [PP, P1, P2, P3, P4, P5, P6, P7, P8, P9, P10, P11, P12, P13, P14, L1, P15, N1, N2, N3, N4, N5, N6, N7, I1, I2, I3, I4, I5, I6, I7, reduceIte, reduceCtorEq, PV.under]) ?_
  simp only [af52, PP, P1, P2, P3, P4, P5, P6, P7, P8, P9, P10, P11, P12, P13, P14, L1, P15, N1, N2, N3, N4, N5, N6, N7, I1, I2, I3, I4, I5, I6, I7, reduceIte, reduceCtorEq]
  unfold vlE at hk
  refine QIf.intro (fun c1 => ?_) (fun c1 => ?_)
  · simp only [PP, P1, P2, P3, P4, P5, P6, P7, P8, P9, P10, P11, P12, P13, P14, L1, P15, N1, N2, N3, N4, N5, N6, N7, I1, I2, I3, I4, I5, I6, I7, reduceIte, reduceCtorEq, c1] at hk ⊢
    exact hk
  simp only [PP, P1, P2, P3, P4, P5, P6, P7, P8, P9, P10, P11, P12, P13, P14, L1, P15, N1, N2, N3, N4, N5, N6, N7, I1, I2, I3, I4, I5, I6, I7, reduceIte, reduceCtorEq, c1] at hk ⊢
  refine QIf.intro (fun c2 => ?_) (fun c2 => ?_)
  · simp only [PP, P1, P2, P3, P4, P5, P6, P7, P8, P9, P10, P11, P12, P13, P14, L1, P15, N1, N2, N3, N4, N5, N6, N7, I1, I2, I3, I4, I5, I6, I7, reduceIte, reduceCtorEq, c2] at hk ⊢
    exact hk
  simp only [PP, P1, P2, P3, P4, P5, P6, P7, P8, P9, P10, P11, P12, P13, P14, L1, P15, N1, N2, N3, N4, N5, N6, N7, I1, I2, I3, I4, I5, I6, I7, reduceIte, reduceCtorEq, c2] at hk ⊢
  refine rises_p T hb ?_
  simp only [PP, P1, P2, P3, P4, P5, P6, P7, P8, P9, P10, P11, P12, P13, P14, L1, P15, N1, N2, N3, N4, N5, N6, N7, I1, I2, I3, I4, I5, I6, I7, reduceIte, reduceCtorEq]
  by_cases h : posM ow.length (-1) a.se = true
  · simp only [PP, P1, P2, P3, P4, P5, P6, P7, P8, P9, P10, P11, P12, P13, P14, L1, P15, N1, N2, N3, N4, N5, N6, N7, I1, I2, I3, I4, I5, I6, I7, reduceIte, reduceCtorEq, h] at hk ⊢
    refine QIf.intro (fun e => ?_) (fun e => ?_)
    · simp only [PP, P1, P2, P3, P4, P5, P6, P7, P8, P9, P10, P11, P12, P13, P14, L1, P15, N1, N2, N3, N4, N5, N6, N7, I1, I2, I3, I4, I5, I6, I7, reduceIte, reduceCtorEq, e] at hk ⊢; exact hk
    · simp only [PP, P1, P2, P3, P4, P5, P6, P7, P8, P9, P10, P11, P12, P13, P14, L1, P15, N1, N2, N3, N4, N5, N6, N7, I1, I2, I3, I4, I5, I6, I7, reduceIte, reduceCtorEq, e] at hk ⊢; exact hk
  · simp only [PP, P1, P2, P3, P4, P5, P6, P7, P8, P9, P10, P11, P12, P13, P14, L1, P15, N1, N2, N3, N4, N5, N6, N7, I1, I2, I3, I4, I5, I6, I7, reduceIte, reduceCtorEq, h] at hk ⊢; exact hk
theorem rCompare_p {M : Mem} {K : PV → Mem → Prop} {F : GF} {fa oa fb ob : Bool} {ow pr : List Int} {su : List (List Int)} {a b : Vl} (B : Bnd ow pr su) (ha : a.se.length < big) (hb : b.se.length < big)
    (hk : K (.tuple [p64 (cmpM ow pr su a b), p64 (cmpE ow pr su a b)]) M) : SemC tab 26 [.agg (gmF F ow pr su), .agg (vlL fa oa a), .agg (vlL fb ob b)] M K := by
  refine SemC_pure T.h26 (by simp only [PP, P1, P2, P3, P4, P5, P6, P7, P8, P9, P10, P11, P12, P13, P14, L1, P15, N1, N2, N3, N4, N5, N6, N7, I1, I2, I3, I4, I5, I6, I7, reduceIte, reduceCtorEq, PV.under]) ?_
  simp only [af26, PP, P1, P2, P3, P4, P5, P6, P7, P8, P9, P10, P11, P12, P13, P14, L1, P15, N1, N2, N3, N4, N5, N6, N7, I1, I2, I3, I4, I5, I6, I7, reduceIte, reduceCtorEq]
  refine refCheck_p T B ?_
  simp only [PP, P1, P2, P3, P4, P5, P6, P7, P8, P9, P10, P11, P12, P13, P14, L1, P15, N1, N2, N3, N4, N5, N6, N7, I1, I2, I3, I4, I5, I6, I7, reduceIte, reduceCtorEq]
  unfold cmpM cmpE at hk
  refine QIf.intro (fun c1 => ?_) (fun c1 => ?_)
  rotate_left
  · rw [if_neg c1, if_neg c1] at hk
    simp only [PP, P1, P2, P3, P4, P5, P6, P7, P8, P9, P10, P11, P12, P13, P14, L1, P15, N1, N2, N3, N4, N5, N6, N7, I1, I2, I3, I4, I5, I6, I7, reduceIte, reduceCtorEq, c1]
    exact hk
  rw [if_pos c1] at hk
  have V := valid_of c1
  simp only [PP, P1, P2, P3, P4, P5, P6, P7, P8, P9, P10, P11, P12, P13, P14, L1, P15, N1, N2, N3, N4, N5, N6, N7, I1, I2, I3, I4, I5, I6, I7, reduceIte, reduceCtorEq, c1]
  refine rwrong_p T ha ?_
  simp only [PP, P1, P2, P3, P4, P5, P6, P7, P8, P9, P10, P11, P12, P13, P14, L1, P15, N1, N2, N3, N4, N5, N6, N7, I1, I2, I3, I4, I5, I6, I7, reduceIte, reduceCtorEq]
  refine QIf.intro (fun e1 => ?_) (fun e1 => ?_)
  rotate_left
  · rw [if_neg e1, if_neg e1] at hk
    simp only [PP, P1, P2, P3, P4, P5, P6, P7, P8, P9, P10, P11, P12, P13, P14, L1, P15, N1, N2, N3, N4, N5, N6, N7, I1, I2, I3, I4, I5, I6, I7, reduceIte, reduceCtorEq, e1]
    exact hk
  rw [if_pos e1] at hk
  simp only [PP, P1, P2, P3, P4, P5, P6, P7, P8, P9, P10, P11, P12, P13, P14, L1, P15, N1, N2, N3, N4, N5, N6, N7, I1, I2, I3, I4, I5, I6, I7, reduceIte, reduceCtorEq, e1]
  refine rwrong_p T hb ?_
  simp only [PP, P1, P2, P3, P4, P5, P6, P7, P8, P9, P10, P11, P12, P13, P14, L1, P15, N1, N2, N3, N4, N5, N6, N7, I1, I2, I3, I4, I5, I6, I7, reduceIte, reduceCtorEq]
  refine QIf.intro (fun e2 => ?_) (fun e2 => ?_)
  rotate_left
  · rw [if_neg e2] at hk
    simp only [PP, P1, P2, P3, P4, P5, P6, P7, P8, P9, P10, P11, P12, P13, P14, L1, P15, N1, N2, N3, N4, N5, N6, N7, I1, I2, I3, I4, I5, I6, I7, reduceIte, reduceCtorEq, e2]
    exact hk
  rw [if_pos e2, e2] at hk
  simp only [PP, P1, P2, P3, P4, P5, P6, P7, P8, P9, P10, P11, P12, P13, P14, L1, P15, N1, N2, N3, N4, N5, N6, N7, I1, I2, I3, I4, I5, I6, I7, reduceIte, reduceCtorEq, e2]
  have hp : pr.length = ow.length := V.p
  refine rcompare_p T V.p B.o (fun v => (V.prI v).1) (hp ▸ (vlE_in e1 ha).1) (hp ▸ (vlE_in e2 hb).1) ?_
  simp only [PP, P1, P2, P3, P4, P5, P6, P7, P8, P9, P10, P11, P12, P13, P14, L1, P15, N1, N2, N3, N4, N5, N6, N7, I1, I2, I3, I4, I5, I6, I7, reduceIte, reduceCtorEq]
  exact hk
theorem same_p {M : Mem} {K : PV → Mem → Prop} {fa oa fb ob : Bool} {a b : Vl} (ha : a.se.length < big)
    (hk : ∀ r : Bool, (r = true ↔ a = b) → K (.bool r) M) : SemC tab 22 [.agg (vlL fa oa a), .agg (vlL fb ob b)] M K := by
  refine SemC_pure T.h22 (by simp only [PP, P1, P2, P3, P4, P5, P6, P7, P8, P9, P10, P11, P12, P13, P14, L1, P15, N1, N2, N3, N4, N5, N6, N7, I1, I2, I3, I4, I5, I6, I7, reduceIte, reduceCtorEq, PV.under]) ?_
  simp only [af22, PP, P1, P2, P3, P4, P5, P6, P7, P8, P9, P10, P11, P12, P13, P14, L1, P15, N1, N2, N3, N4, N5, N6, N7, I1, I2, I3, I4, I5, I6, I7, reduceIte, reduceCtorEq]
  refine QIf.intro (fun c => ?_) (fun c => ?_)
  · simp only [PP, P1, P2, P3, P4, P5, P6, P7, P8, P9, P10, P11, P12, P13, P14, L1, P15, N1, N2, N3, N4, N5, N6, N7, I1, I2, I3, I4, I5, I6, I7, reduceIte, reduceCtorEq, c]
    refine QIf.intro (fun d => ?_) (fun d => ?_)
    · simp only [PP, P1, P2, P3, P4, P5, P6, P7, P8, P9, P10, P11, P12, P13, P14, L1, P15, N1, N2, N3, N4, N5, N6, N7, I1, I2, I3, I4, I5, I6, I7, reduceIte, reduceCtorEq, d]
      refine equalInts_p T ha ?_
      simp only [PP, P1, P2, P3, P4, P5, P6, P7, P8, P9, P10, P11, P12, P13, P14, L1, P15, N1, N2, N3, N4, N5, N6, N7, I1, I2, I3, I4, I5, I6, I7, reduceIte, reduceCtorEq]
      exact hk _ (by cases a; cases b; simp_all)
    · simp only [PP, P1, P2, P3, P4, P5, P6, P7, P8, P9, P10, P11, P12, P13, P14, L1, P15, N1, N2, N3, N4, N5, N6, N7, I1, I2, I3, I4, I5, I6, I7, reduceIte, reduceCtorEq, d]
      exact hk false (by cases a; cases b; simp_all)
  · simp only [PP, P1, P2, P3, P4, P5, P6, P7, P8, P9, P10, P11, P12, P13, P14, L1, P15, N1, N2, N3, N4, N5, N6, N7, I1, I2, I3, I4, I5, I6, I7, reduceIte, reduceCtorEq, c]
    exact hk false (by cases a; cases b; simp_all)
end
end Go.Am.Ar
set_option linter.unusedVariables false
set_option linter.unusedSimpArgs false
set_option maxRecDepth 10000
namespace Go.Am.Ar
open Go.Am renaming pchk → P1, pold → P2, PKNo → P3, ppack → P4, PObj.under → P5, pput → P6, ptset → P7, ptget → P8, pev → P9, ofAV → P10, ofAV1 → P11, ppad → P12, pfill → P13, prepl → P14, AO.effect → P15
open List renaming replicate → L1
open Nat renaming reduceAdd → N1, reduceSub → N2, reduceMul → N3, reduceLT → N4, reduceLeDiff → N5, reduceEqDiff → N6, reduceBEq → N7
open Int renaming reduceToNat → I1, reduceLT → I2, reduceLE → I3, reduceEq → I4, reduceAdd → I5, reduceSub → I6, reduceNeg → I7
section
variable {tab : FuncId → Option AF} (T : HasA tab)
include T
set_option maxHeartbeats 1000000 in
theorem rplay_l {o1 o2 : PObj} {K : PV → Mem → Prop} {F : GF} {f5 o5 : Bool} {ow pr st : List Int} {su : List (List Int)} {from' : Int} (B : Bnd ow pr su) (hb : st.length < big)
    (hq1 : playE ow pr su st from' ≠ 0 → ∀ x, K (.tuple [.nils, .nils, p64 (playE ow pr su st from')]) [o1, o2, x])
    (hq2 : playE ow pr su st from' = 0 → ∀ x2 x3, K (.tuple [.ref 4 0 1 0 (playL st (ow.length + 1) from' []).1.length, .ref 5 0 1 0 (playL st (ow.length + 1) from' []).2.length, p64 0]) [o1, o2, x2, x3, .cells 0 0 ((playL st (ow.length + 1) from' []).1.map p64), .cells 0 0 ((playL st (ow.length + 1) from' []).2.map p64)]) :
    SemC tab 58 [.agg (gmF F ow pr su), slI f5 o5 .i64 st, p64 from'] [o1, o2] K := by
  refine SemC_fn T.h58 ?_
  simp only [af58, PP, P1, P2, P3, P4, P5, P6, P7, P8, P9, P10, P11, P12, P13, P14, L1, P15, N1, N2, N3, N4, N5, N6, N7, I1, I2, I3, I4, I5, I6, I7, reduceIte, reduceCtorEq]
  refine refCheck_p T B ?_
  simp only [PP, P1, P2, P3, P4, P5, P6, P7, P8, P9, P10, P11, P12, P13, P14, L1, P15, N1, N2, N3, N4, N5, N6, N7, I1, I2, I3, I4, I5, I6, I7, reduceIte, reduceCtorEq]
  unfold playE at hq1 hq2
  refine QIf.intro (fun c1 => ?_) (fun c1 => ?_)
  rotate_left
  · rw [if_neg c1] at hq1
    simp only [PP, P1, P2, P3, P4, P5, P6, P7, P8, P9, P10, P11, P12, P13, P14, L1, P15, N1, N2, N3, N4, N5, N6, N7, I1, I2, I3, I4, I5, I6, I7, reduceIte, reduceCtorEq, c1]
    exact hq1 c1 _
  have V := valid_of c1
  have hs := V.s
  have n1 := V.n1
  rw [if_pos c1] at hq1 hq2
  simp only [PP, P1, P2, P3, P4, P5, P6, P7, P8, P9, P10, P11, P12, P13, P14, L1, P15, N1, N2, N3, N4, N5, N6, N7, I1, I2, I3, I4, I5, I6, I7, reduceIte, reduceCtorEq, c1]
  refine QIf.intro (fun c2 => ?_) (fun c2 => ?_)
  · rw [if_pos c2] at hq1
    simp only [PP, P1, P2, P3, P4, P5, P6, P7, P8, P9, P10, P11, P12, P13, P14, L1, P15, N1, N2, N3, N4, N5, N6, N7, I1, I2, I3, I4, I5, I6, I7, reduceIte, reduceCtorEq, c2]
    exact hq1 (by decide) _
  rw [if_neg c2] at hq1 hq2
  simp only [PP, P1, P2, P3, P4, P5, P6, P7, P8, P9, P10, P11, P12, P13, P14, L1, P15, N1, N2, N3, N4, N5, N6, N7, I1, I2, I3, I4, I5, I6, I7, reduceIte, reduceCtorEq, c2]
  refine QIf.intro (fun c3 => ?_) (fun c3 => ?_)
  · rw [if_pos c3] at hq1
    simp only [PP, P1, P2, P3, P4, P5, P6, P7, P8, P9, P10, P11, P12, P13, P14, L1, P15, N1, N2, N3, N4, N5, N6, N7, I1, I2, I3, I4, I5, I6, I7, reduceIte, reduceCtorEq, c3]
    exact hq1 (by decide) _
  rw [if_neg c3] at hq1 hq2
  simp only [PP, P1, P2, P3, P4, P5, P6, P7, P8, P9, P10, P11, P12, P13, P14, L1, P15, N1, N2, N3, N4, N5, N6, N7, I1, I2, I3, I4, I5, I6, I7, reduceIte, reduceCtorEq, c3]
  refine QIf.intro (fun c4 => ?_) (fun c4 => ?_)
  rotate_left
  · rw [if_neg c4] at hq1
    simp only [PP, P1, P2, P3, P4, P5, P6, P7, P8, P9, P10, P11, P12, P13, P14, L1, P15, N1, N2, N3, N4, N5, N6, N7, I1, I2, I3, I4, I5, I6, I7, reduceIte, reduceCtorEq, c4]
    exact hq1 (by decide) _
  rw [if_pos c4] at hq1 hq2
  simp only [PP, P1, P2, P3, P4, P5, P6, P7, P8, P9, P10, P11, P12, P13, P14, L1, P15, N1, N2, N3, N4, N5, N6, N7, I1, I2, I3, I4, I5, I6, I7, reduceIte, reduceCtorEq, c4]
  refine loop1 (fun (k : Nat) => k ≤ ow.length ∧ movM su k (st.drop k) = movM su 0 st) (fun k => [.junk, slI f5 o5 .i64 st, p64 from', .ptr 2 0 0, .junk, .junk, .junk, .junk, .junk, .junk, p64 k, .junk, .junk, .junk, .junk, .junk, .junk, .junk, .junk, .junk, .junk, .junk, .junk, .junk, .junk, .junk, .junk, .junk, .junk, .junk, .junk, .junk, .junk, .junk, .junk, .junk, .junk, .junk, .junk, .junk, .junk, .junk, .junk, .junk, .junk, .junk, .junk, .junk, .junk, .junk, .junk, .junk, .junk, .junk, .junk, .junk, .junk, .junk, .junk, .junk, .junk, .junk, .junk, .junk, .junk, .junk, .junk, .junk, .junk, .junk, .junk, .junk, .junk, .junk, .junk, .junk, .junk, .junk, .junk, .junk]) (fun _ => [o1, o2, .cells 0 0 (gmF F ow pr su)]) (fun k => ow.length - k) 0 ⟨by omega, rfl⟩ (by simp only [PWeak_nil, PWeak_junk, PWeak_same, Int.cast_ofNat_Int, List.length_append, List.length_cons, List.length_nil, Nat.zero_add]) rfl ?_
  intro k ⟨hle, hmv⟩ ih
  refine SemW_go (by kernel_rfl) ?_
  simp only [PP, P1, P2, P3, P4, P5, P6, P7, P8, P9, P10, P11, P12, P13, P14, L1, P15, N1, N2, N3, N4, N5, N6, N7, I1, I2, I3, I4, I5, I6, I7, reduceIte, reduceCtorEq]
  refine QIf.intro (fun d => ?_) (fun d => ?_)
  · have hk : k < ow.length := by omega
    have hw := wrap_succ (k := k) (by show _ < 1000000000000; omega)
    have k0 : (0 : Int) ≤ k := by omega
    obtain ⟨u, g1⟩ := some_of (xs := st) (k := k) (by omega)
    obtain ⟨row, g2⟩ := some_of (xs := su) (k := k) (by omega)
    have ks : (k : Int) < su.length := by omega
    have e2 : su.getD k [] = row := by simp [List.getD, g2]
    rw [drop_some g1, movM, e2] at hmv
    simp only [PP, P1, P2, P3, P4, P5, P6, P7, P8, P9, P10, P11, P12, P13, P14, L1, P15, N1, N2, N3, N4, N5, N6, N7, I1, I2, I3, I4, I5, I6, I7, reduceIte, reduceCtorEq, c4, d, g1, g2, k0, ks]
    refine ⟨by omega, hasInt_p T (B.r _ (List.mem_of_getElem? g2)) ?_⟩
    by_cases h1 : u ∈ row
    · rw [if_pos h1] at hmv
      simp only [PP, P1, P2, P3, P4, P5, P6, P7, P8, P9, P10, P11, P12, P13, P14, L1, P15, N1, N2, N3, N4, N5, N6, N7, I1, I2, I3, I4, I5, I6, I7, reduceIte, reduceCtorEq, h1, hw]
      exact SemW_weak (ih (k + 1) ⟨by omega, hmv⟩ (by omega)) (by simp only [PWeak_nil, PWeak_junk, PWeak_same, Int.cast_ofNat_Int, List.length_append, List.length_cons, List.length_nil, Nat.zero_add])
    · rw [if_neg h1] at hmv
      rw [← hmv] at hq1
      simp only [PP, P1, P2, P3, P4, P5, P6, P7, P8, P9, P10, P11, P12, P13, P14, L1, P15, N1, N2, N3, N4, N5, N6, N7, I1, I2, I3, I4, I5, I6, I7, reduceIte, reduceCtorEq, h1]
      exact hq1 (by decide) _
  have hkn : k = st.length := by omega
  rw [List.drop_eq_nil_of_le (by omega), movM] at hmv
  rw [← hmv] at hq2
  have hst : ∀ (k : Nat) (u : Int), st[k]? = some u → 0 ≤ u ∧ u < ow.length := by
    intro k u hu
    have h1 := movM_get hmv.symm k u hu
    have hks : k < ow.length := by have := getSome_lt hu; omega
    rw [Nat.zero_add] at h1
    exact su_range V hks h1
  obtain ⟨v0, rfl⟩ : ∃ v0 : Nat, from' = v0 := ⟨from'.toNat, by omega⟩
  have hq2 := hq2 rfl
  simp only [PP, P1, P2, P3, P4, P5, P6, P7, P8, P9, P10, P11, P12, P13, P14, L1, P15, N1, N2, N3, N4, N5, N6, N7, I1, I2, I3, I4, I5, I6, I7, reduceIte, reduceCtorEq, d]
  refine SemW_re (GStep.nil 11 1 rfl rfl rfl) ?_
  simp only [ptset, List.cons_append, List.nil_append, List.length_cons, List.length_nil, Nat.reduceAdd]
  refine loop3 (fun (v g : Nat) (l : List Nat) => v < ow.length ∧ l.Nodup ∧ (∀ x ∈ l, x < ow.length) ∧ playL st (ow.length + 1 - l.length) v (natI l) = playL st (ow.length + 1) v0 [])
    (fun v g l => [.junk, slI f5 o5 .i64 st, .junk, .junk, .junk, .junk, .junk, .junk, .junk, .junk, .junk, .ref 3 g 1 0 l.length, p64 v, .junk, .junk, .junk, .junk, .junk, .junk, .junk, .junk, .junk, .junk, .junk, .junk, .junk, .junk, .junk, .junk, .junk, .junk, .junk, .junk, .junk, .junk, .junk, .junk, .junk, .junk, .junk, .junk, .junk, .junk, .junk, .junk, .junk, .junk, .junk, .junk, .junk, .junk, .junk, .junk, .junk, .junk, .junk, .junk, .junk, .junk, .junk, .junk, .junk, .junk, .junk, .junk, .junk, .junk, .junk, .junk, .junk, .junk, .junk, .junk, .junk, .junk, .junk, .junk, .junk, .junk, .junk])
    (fun v g l => [o1, o2, .cells 0 0 (gmF F ow pr su), .cells g 0 ((natI l).map p64)])
    (fun v g l => ow.length + 1 - l.length) v0 0 [] ⟨by omega, List.nodup_nil, by simp, rfl⟩ (by simp only [PWeak_nil, PWeak_junk, PWeak_same, Int.cast_ofNat_Int, List.length_append, List.length_cons, List.length_nil, Nat.zero_add]) rfl ?_
  intro v g l ⟨hv, hnd, hlt, hpl⟩ ih2
  have hll := nodup_lenN _ l hnd hlt
  have hlb : (natI l).length < big := by show _ < 1000000000000; rw [List.length_map]; omega
  have ll : (natI l).length = l.length := List.length_map _
  obtain ⟨fu, hfu⟩ : ∃ fu, ow.length + 1 - l.length = fu + 1 := ⟨ow.length - l.length, by omega⟩
  rw [hfu, playL] at hpl
  refine SemW_go (by kernel_rfl) ?_
  simp only [PP, P1, P2, P3, P4, P5, P6, P7, P8, P9, P10, P11, P12, P13, P14, L1, P15, N1, N2, N3, N4, N5, N6, N7, I1, I2, I3, I4, I5, I6, I7, reduceIte, reduceCtorEq]
  refine loop1 (fun (k : Nat) => k ≤ l.length ∧ idxI v k ((natI l).drop k) = idxI v 0 (natI l)) (fun k => [.junk, slI f5 o5 .i64 st, .junk, .junk, .junk, .junk, .junk, .junk, .junk, .junk, .junk, .ref 3 g 1 0 l.length, p64 v, p64 k, .junk, .junk, .junk, .junk, .junk, .junk, .junk, .junk, .junk, .junk, .junk, .junk, .junk, .junk, .junk, .junk, .junk, .junk, .junk, .junk, .junk, .junk, .junk, .junk, .junk, .junk, .junk, .junk, .junk, .junk, .junk, .junk, .junk, .junk, .junk, .junk, .junk, .junk, .junk, .junk, .junk, .junk, .junk, .junk, .junk, .junk, .junk, .junk, .junk, .junk, .junk, .junk, .junk, .junk, .junk, .junk, .junk, .junk, .junk, .junk, .junk, .junk, .junk, .junk, .junk, .junk]) (fun _ => [o1, o2, .cells 0 0 (gmF F ow pr su), .cells g 0 ((natI l).map p64)]) (fun k => l.length - k) 0 ⟨by omega, rfl⟩ (by simp only [PWeak_nil, PWeak_junk, PWeak_same, Int.cast_ofNat_Int, List.length_append, List.length_cons, List.length_nil, Nat.zero_add]) rfl ?_
  intro k ⟨hle, hid⟩ ih3
  obtain ⟨X, hX⟩ : ∃ X, X = natI l := ⟨_, rfl⟩
  rw [← hX] at ll hid hpl hlb ⊢
  refine SemW_go (by kernel_rfl) ?_
  simp only [PP, P1, P2, P3, P4, P5, P6, P7, P8, P9, P10, P11, P12, P13, P14, L1, P15, N1, N2, N3, N4, N5, N6, N7, I1, I2, I3, I4, I5, I6, I7, reduceIte, reduceCtorEq]
  refine QIf.intro (fun d2 => ?_) (fun d2 => ?_)
  · have hk : k < X.length := by omega
    obtain ⟨u, gu⟩ := some_of hk
    have k0 : (0 : Int) ≤ k := by omega
    have hw := wrap_succ (k := k) (by show _ < 1000000000000; omega)
    rw [drop_some gu, idxI] at hid
    have gm : (X.map p64)[k]? = some (p64 u) := by rw [List.getElem?_map, gu]; rfl
    simp only [PP, P1, P2, P3, P4, P5, P6, P7, P8, P9, P10, P11, P12, P13, P14, L1, P15, N1, N2, N3, N4, N5, N6, N7, I1, I2, I3, I4, I5, I6, I7, reduceIte, reduceCtorEq, d2, k0, gu]
    refine QIf.intro (fun e => ?_) (fun e => ?_)
    · rw [if_pos e.symm] at hid
      rw [← hid, if_pos k0, Int.toNat_natCast] at hpl
      have kl : (k : Int) ≤ l.length := by omega
      have e0 : ((k : Int) - 0).toNat = k := by omega
      have e1 : ((l.length : Int) - k).toNat = l.length - k := by omega
      have hp1 : psub (X.map p64) 0 k = (X.take k).map p64 := by simp [psub, List.map_take]
      have hp2 : psub (X.map p64) k (l.length - k) = (X.drop k).map p64 := by
        simp only [psub, ← List.map_drop]
        rw [List.take_of_length_le (by simp; omega)]
      rw [← hpl] at hq2
      have l1 : (X.take k).length = k := by rw [List.length_take]; omega
      have l2 : (X.drop k).length = l.length - k := by rw [List.length_drop]; omega
      have hq3 := hq2 (.cells 0 0 (gmF F ow pr su)) (.cells g 0 (X.map p64))
      simp only [l1, l2] at hq3
      have kx : k ≤ X.length := by omega
      have b2 : k * 8 ≤ 140737488355328 ∧ k ≤ 9223372036854775807 := ⟨by omega, by omega⟩
      have b3 : (l.length - k) * 8 ≤ 140737488355328 ∧ l.length - k ≤ 9223372036854775807 := ⟨by omega, by omega⟩
      have b4 : k + (l.length - k) ≤ X.length := by omega
      simp only [PP, P1, P2, P3, P4, P5, P6, P7, P8, P9, P10, P11, P12, P13, P14, L1, P15, N1, N2, N3, N4, N5, N6, N7, I1, I2, I3, I4, I5, I6, I7, reduceIte, reduceCtorEq, e, kl, e0, k0]
      refine SemC_fn T.h13 ?_
      simp only [af13, PP, P1, P2, P3, P4, P5, P6, P7, P8, P9, P10, P11, P12, P13, P14, L1, P15, N1, N2, N3, N4, N5, N6, N7, I1, I2, I3, I4, I5, I6, I7, reduceIte, reduceCtorEq, hp1, kx, b2.1, b2.2, kl, e1, k0]
      refine ⟨by omega, SemC_fn T.h13 ?_⟩
      simp only [af13, PP, P1, P2, P3, P4, P5, P6, P7, P8, P9, P10, P11, P12, P13, P14, L1, P15, N1, N2, N3, N4, N5, N6, N7, I1, I2, I3, I4, I5, I6, I7, reduceIte, reduceCtorEq, hp2, b3.1, b3.2, b4]
      exact hq3
    · rw [if_neg (fun q => e q.symm)] at hid
      simp only [PP, P1, P2, P3, P4, P5, P6, P7, P8, P9, P10, P11, P12, P13, P14, L1, P15, N1, N2, N3, N4, N5, N6, N7, I1, I2, I3, I4, I5, I6, I7, reduceIte, reduceCtorEq, e, hw]
      refine SemW_to (ih3 (k + 1) ⟨by omega, by rw [← hX]; exact hid⟩ (by omega)) (by simp only [PWeak_nil, PWeak_junk, PWeak_same, Int.cast_ofNat_Int, List.length_append, List.length_cons, List.length_nil, Nat.zero_add]) (by rw [hX])
  · have hk : k = X.length := by omega
    rw [hk, List.drop_length, idxI] at hid
    rw [← hid, if_neg (by omega)] at hpl
    have hv0 : (0 : Int) ≤ v := by omega
    have hvs : (v : Int) < st.length := by omega
    obtain ⟨u, g1⟩ := some_of (xs := st) (k := v) (by omega)
    obtain ⟨u0, u1⟩ := hst v u g1
    obtain ⟨w, rfl⟩ : ∃ w : Nat, u = w := ⟨u.toNat, by omega⟩
    have e1 : st.getD v 0 = w := by simp [List.getD, g1]
    have b1 : (l.length + 1) * 8 ≤ 140737488355328 := by omega
    have b2 : l.length ≤ 9223372036854775806 := by omega
    have hxl : l.length ≤ X.length := by omega
    have hps : psub (X.map p64) 0 l.length = X.map p64 := psub_all _ _ (by rw [List.length_map]; omega)
    simp only [PP, P1, P2, P3, P4, P5, P6, P7, P8, P9, P10, P11, P12, P13, P14, L1, P15, N1, N2, N3, N4, N5, N6, N7, I1, I2, I3, I4, I5, I6, I7, reduceIte, reduceCtorEq, d2, g1, hv0, hvs, b1, b2, hps, hxl]
    have hni : v ∉ l := fun h => by
      rcases idxI_spec v X 0 with ⟨h1, h2⟩ | ⟨i, h1, h2, h3⟩
      · exact h1 (by rw [hX]; exact mem_natI.2 h)
      · rw [h3] at hid; omega
    have hq3 : natI l ++ [(v : Int)] = natI (l ++ [v]) := by simp
    refine SemW_to (ih2 w (g + 1) (l ++ [v]) ⟨by omega, ?_, ?_, ?_⟩ (by rw [List.length_append, List.length_singleton]; omega)) (by simp only [PWeak_nil, PWeak_junk, PWeak_same, Int.cast_ofNat_Int, List.length_append, List.length_cons, List.length_nil, Nat.zero_add]) (by rw [← hq3, hX]; simp)
    · rw [List.nodup_append]
      exact ⟨hnd, by simp, fun a ha b hb e => by rw [List.mem_singleton] at hb; subst hb; subst e; exact hni ha⟩
    · intro x hx
      rcases List.mem_append.1 hx with h | h
      · exact hlt x h
      · rw [List.mem_singleton] at h; subst h; exact hv
    · rw [show ow.length + 1 - (l ++ [v]).length = fu by rw [List.length_append, List.length_singleton]; omega, ← hq3, ← hX]
      rw [Int.toNat_natCast, e1] at hpl
      exact hpl
end
end Go.Am.Ar
set_option linter.unusedVariables false
set_option linter.unusedSimpArgs false
set_option maxRecDepth 10000
namespace Go.Am.Ar
open Go.Am renaming pchk → P1, pold → P2, PKNo → P3, ppack → P4, PObj.under → P5, pput → P6, ptset → P7, ptget → P8, pev → P9, ofAV → P10, ofAV1 → P11, ppad → P12, pfill → P13, prepl → P14, AO.effect → P15
open List renaming replicate → L1
open Nat renaming reduceAdd → N1, reduceSub → N2, reduceMul → N3, reduceLT → N4, reduceLeDiff → N5, reduceEqDiff → N6, reduceBEq → N7
open Int renaming reduceToNat → I1, reduceLT → I2, reduceLE → I3, reduceEq → I4, reduceAdd → I5, reduceSub → I6, reduceNeg → I7
theorem maxR_self (pr : List Int) (x : Int) (xs : List Int) : maxR pr x (x :: xs) = maxR pr x xs := by
  rw [maxR, if_neg (by rw [(ord3_rel pr).self]; omega)]
theorem folZ_wk (e : Int) : PvWk (.tuple [.agg [p64 0, .nils, p64 0], p64 e]) (.tuple [.agg (vlL false true ⟨0, [], 0⟩), p64 e]) := by
  refine PvWk.tuple rfl fun i y z h1 h2 => ?_
  match i with
  | 0 =>
    cases h1; cases h2
    refine PvWk.agg rfl fun i y z h1 h2 => ?_
    match i with
    | 0 => cases h1; cases h2; exact PvWk.refl _
    | 1 => cases h1; cases h2; exact PvWk.nils _ _ _
    | 2 => cases h1; cases h2; exact PvWk.refl _
    | i + 3 => simp at h1
  | 1 => cases h1; cases h2; exact PvWk.refl _
  | i + 2 => simp at h1
section
variable {tab : FuncId → Option AF} (T : HasA tab)
include T
set_option maxHeartbeats 2000000 in
theorem rfollow_p {M : Mem} {K : PV → Mem → Prop} {F : GF} {f5 o5 : Bool} {ow pr st : List Int} {su : List (List Int)} {v : Int} (B : Bnd ow pr su) (hb : st.length < big) (hq : K (.tuple [.agg (vlL false true (folA ow pr su st v)), p64 (playE ow pr su st v)]) M) :
    SemC tab 28 [.agg (gmF F ow pr su), slI f5 o5 .i64 st, p64 v] M K := by
  refine SemC_wk ?_
  refine SemC_pure T.h28 (by simp only [PP, P1, P2, P3, P4, P5, P6, P7, P8, P9, P10, P11, P12, P13, P14, L1, P15, N1, N2, N3, N4, N5, N6, N7, I1, I2, I3, I4, I5, I6, I7, reduceIte, reduceCtorEq]) ?_
  simp only [af28, PP, P1, P2, P3, P4, P5, P6, P7, P8, P9, P10, P11, P12, P13, P14, L1, P15, N1, N2, N3, N4, N5, N6, N7, I1, I2, I3, I4, I5, I6, I7, reduceIte, reduceCtorEq]
  refine rplay_l T B hb (fun c1 x => ?_) (fun c1 x2 x3 => ?_)
  · unfold folA at hq
    rw [if_neg c1] at hq
    simp only [PP, P1, P2, P3, P4, P5, P6, P7, P8, P9, P10, P11, P12, P13, P14, L1, P15, N1, N2, N3, N4, N5, N6, N7, I1, I2, I3, I4, I5, I6, I7, reduceIte, reduceCtorEq, c1]
    exact ⟨_, folZ_wk _, hq⟩
  unfold folA at hq
  rw [if_pos c1, c1] at hq
  obtain ⟨cc, v0, v1, hst, f, hf1, hf2, m, k, hP⟩ := play_facts c1
  have V := valid_of cc
  obtain ⟨hnd, hran, hlen, hne⟩ := hP.facts (fun v hv => (hf2 v hv).1) (by omega)
  have hpl : pr.length = ow.length := V.p
  have hn4 := V.n1
  unfold folX at hq
  obtain ⟨P, hPP⟩ : ∃ P, P = (playL st (ow.length + 1) v []).1 := ⟨_, rfl⟩
  obtain ⟨L, hLL⟩ : ∃ L, L = (playL st (ow.length + 1) v []).2 := ⟨_, rfl⟩
  rw [← hPP, ← hLL] at hnd hran hlen hq ⊢
  rw [← hLL] at hne
  obtain ⟨x, xs, hL⟩ : ∃ x xs, L = x :: xs := by cases L with | nil => exact absurd rfl hne | cons x xs => exact ⟨x, xs, rfl⟩
  rw [hL] at hq
  simp only [folV] at hq
  rw [List.length_append] at hlen
  obtain ⟨w, hw⟩ : ∃ w, w = maxR pr x xs := ⟨_, rfl⟩
  rw [← hL, ← hw] at hq
  have hL0 : L[0]? = some x := by rw [hL]; rfl
  have hLn : 0 < L.length := by rw [hL]; simp
  have hLz : (0 : Int) < L.length := by omega
  have hrL : ∀ y ∈ L, 0 ≤ y ∧ y < pr.length := fun y hy => by
    have := hran y (List.mem_append.2 (.inr hy)); omega
  simp only [PP, P1, P2, P3, P4, P5, P6, P7, P8, P9, P10, P11, P12, P13, P14, L1, P15, N1, N2, N3, N4, N5, N6, N7, I1, I2, I3, I4, I5, I6, I7, reduceIte, reduceCtorEq, hL0, hLz]
  refine loop2 (fun (k : Nat) (m : Int) => k ≤ L.length ∧ (0 ≤ m ∧ m < pr.length) ∧ maxR pr m (L.drop k) = w) (fun k m => [.junk, .junk, .junk, .ptr 0 0 0, .junk, .junk, .ptr 1 0 0, .junk, .ref 4 0 1 0 P.length, .ref 5 0 1 0 L.length, .junk, p64 m, p64 k, .junk, .junk, .junk, .junk, .junk, .junk, .junk, .junk, .junk, .junk, .junk, .junk, .junk, .junk, .junk, .junk, .junk, .junk, .junk, .junk, .junk, .junk, .junk, .junk, .junk, .junk, .junk, .junk, .junk, .junk, .junk, .junk, .junk, .junk, .junk, .junk, .junk, .junk, .junk, .junk, .junk, .junk, .junk, .junk, .junk, .junk, .junk, .junk, .junk, .junk, .junk, .junk, .junk, .junk, .junk, .junk, .junk, .junk, .junk, .junk, .junk, .junk, .junk, .junk, .junk, .junk, .junk, .junk, .junk, .junk, .junk, .junk, .junk, .junk])
    (fun _ _ => [.cells 0 0 (gmF F ow pr su), .cells 0 0 [p64 0, .nils, p64 0], x2, x3, .cells 0 0 (P.map p64), .cells 0 0 (L.map p64)]) (fun k _ => L.length - k) 0 x ⟨by omega, hrL x (by rw [hL]; simp), by rw [List.drop_zero, hL, maxR_self, hw]⟩ (by simp only [PWeak_nil, PWeak_junk, PWeak_same, Int.cast_ofNat_Int, List.length_append, List.length_cons, List.length_nil, Nat.zero_add]) rfl ?_
  intro k m ⟨hle, hm, hmx⟩ ih
  refine SemW_go (by kernel_rfl) ?_
  simp only [PP, P1, P2, P3, P4, P5, P6, P7, P8, P9, P10, P11, P12, P13, P14, L1, P15, N1, N2, N3, N4, N5, N6, N7, I1, I2, I3, I4, I5, I6, I7, reduceIte, reduceCtorEq]
  refine QIf.intro (fun c => ?_) (fun c => ?_)
  · have hk' : k < L.length := by omega
    obtain ⟨y, g⟩ := some_of hk'
    obtain ⟨y0, y1⟩ := hrL y (List.mem_of_getElem? g)
    rw [drop_some g, maxR] at hmx
    have hwk := wrap_succ (k := k) (by show _ < 1000000000000; omega)
    have k0 : (0 : Int) ≤ k := by omega
    simp only [PP, P1, P2, P3, P4, P5, P6, P7, P8, P9, P10, P11, P12, P13, P14, L1, P15, N1, N2, N3, N4, N5, N6, N7, I1, I2, I3, I4, I5, I6, I7, reduceIte, reduceCtorEq, c, g, k0]
    refine relevant_p T y0 y1 hm.1 hm.2 ?_
    simp only [PP, P1, P2, P3, P4, P5, P6, P7, P8, P9, P10, P11, P12, P13, P14, L1, P15, N1, N2, N3, N4, N5, N6, N7, I1, I2, I3, I4, I5, I6, I7, reduceIte, reduceCtorEq]
    by_cases d : 0 < relI pr y m
    · rw [if_pos d] at hmx
      simp only [PP, P1, P2, P3, P4, P5, P6, P7, P8, P9, P10, P11, P12, P13, P14, L1, P15, N1, N2, N3, N4, N5, N6, N7, I1, I2, I3, I4, I5, I6, I7, reduceIte, reduceCtorEq, d, g, c, k0, hwk]
      exact SemW_weak (ih (k + 1) y ⟨by omega, ⟨y0, y1⟩, hmx⟩ (by omega)) (by simp only [PWeak_nil, PWeak_junk, PWeak_same, Int.cast_ofNat_Int, List.length_append, List.length_cons, List.length_nil, Nat.zero_add])
    · rw [if_neg d] at hmx
      simp only [PP, P1, P2, P3, P4, P5, P6, P7, P8, P9, P10, P11, P12, P13, P14, L1, P15, N1, N2, N3, N4, N5, N6, N7, I1, I2, I3, I4, I5, I6, I7, reduceIte, reduceCtorEq, d, hwk]
      exact SemW_weak (ih (k + 1) m ⟨by omega, hm, hmx⟩ (by omega)) (by simp only [PWeak_nil, PWeak_junk, PWeak_same, Int.cast_ofNat_Int, List.length_append, List.length_cons, List.length_nil, Nat.zero_add])
  rw [List.drop_eq_nil_of_le (by omega), maxR] at hmx
  subst hmx
  have hwm : m ∈ P ++ L := by
    rw [hL]
    refine List.mem_append.2 (.inr ?_)
    rcases maxR_mem pr xs x with h | h
    · rw [hw, h]; simp
    · rw [hw]; exact List.mem_cons_of_mem _ h
  obtain ⟨A, hA⟩ : ∃ A, A = P ++ L := ⟨_, rfl⟩
  have hps : psub (P.map p64) 0 P.length = P.map p64 := psub_map _ _
  have hps2 : psub (L.map p64) 0 L.length = L.map p64 := psub_map _ _
  have hcat : P.map p64 ++ L.map p64 = A.map p64 := by rw [hA, List.map_append]
  have hAl : A.length = P.length + L.length := by rw [hA, List.length_append]
  rw [← hA] at hq hnd hran hwm
  simp only [PP, P1, P2, P3, P4, P5, P6, P7, P8, P9, P10, P11, P12, P13, P14, L1, P15, N1, N2, N3, N4, N5, N6, N7, I1, I2, I3, I4, I5, I6, I7, reduceIte, reduceCtorEq, c, hps, hps2, hLn]
  rw [hcat]
  refine ⟨by omega, ?_⟩
  obtain ⟨i0, hi0, hi1, hi2⟩ : ∃ i : Nat, A[i]? = some m ∧ m ∉ A.take i ∧ idxI m 0 A = ((0 + i : Nat) : Int) := by
    rcases idxI_spec m A 0 with ⟨h1, _⟩ | h
    · exact absurd hwm h1
    · exact h
  have hi3 := getSome_lt hi0
  refine loop2 (fun (i ver : Nat) => i ≤ i0) (fun i ver => [.junk, .junk, .junk, .ptr 0 0 0, .junk, .junk, .ptr 1 0 0, .junk, .junk, .junk, .junk, p64 m, .junk, .ptr 6 0 0, .ref 4 1 1 0 (P.length + L.length), .junk, .junk, .junk, .junk, .junk, .junk, .junk, .junk, .junk, .junk, .junk, .junk, .junk, .junk, .junk, .junk, .junk, .junk, .junk, .junk, .junk, .junk, .junk, .junk, .junk, .junk, .junk, .junk, .junk, .junk, .junk, .junk, .junk, .junk, .junk, .junk, .junk, .junk, .junk, .junk, .junk, .junk, .junk, .junk, .junk, .junk, .junk, .junk, .junk, .junk, .junk, .junk, .junk, .junk, .junk, .junk, .junk, .junk, .junk, .junk, .junk, .junk, .junk, .junk, .junk, .junk, .junk, .junk, .junk, .junk, .junk, .junk])
    (fun i ver => [.cells 0 0 (gmF F ow pr su), .cells 0 0 [p64 0, .nils, p64 0], x2, x3, .cells 1 0 (A.map p64), .cells 0 0 (L.map p64), .cells 0 ver [p64 m, .nils, p64 i]]) (fun i _ => i0 - i) 0 1 (Nat.zero_le _) (by simp only [PWeak_nil, PWeak_junk, PWeak_same, Int.cast_ofNat_Int, List.length_append, List.length_cons, List.length_nil, Nat.zero_add]) rfl ?_
  intro i ver hi ih2
  have hil : i < A.length := by omega
  obtain ⟨y, gy⟩ := some_of hil
  have j0 : (0 : Int) ≤ i := by omega
  have j1 : (i : Int) < ((P.length + L.length : Nat) : Int) := by omega
  have hwi := wrap_succ (k := i) (by show _ < 1000000000000; omega)
  refine SemW_go (by kernel_rfl) ?_
  simp only [PP, P1, P2, P3, P4, P5, P6, P7, P8, P9, P10, P11, P12, P13, P14, L1, P15, N1, N2, N3, N4, N5, N6, N7, I1, I2, I3, I4, I5, I6, I7, reduceIte, reduceCtorEq, gy, j0, j1]
  refine QIf.intro (fun e => ?_) (fun e => ?_)
  rotate_left
  · have hne : i ≠ i0 := by rintro rfl; rw [hi0] at gy; cases gy; exact e rfl
    simp only [PP, P1, P2, P3, P4, P5, P6, P7, P8, P9, P10, P11, P12, P13, P14, L1, P15, N1, N2, N3, N4, N5, N6, N7, I1, I2, I3, I4, I5, I6, I7, reduceIte, reduceCtorEq, e, hwi]
    exact SemW_weak (ih2 (i + 1) _ (by omega) (by omega)) (by simp only [PWeak_nil, PWeak_junk, PWeak_same, Int.cast_ofNat_Int, List.length_append, List.length_cons, List.length_nil, Nat.zero_add])
  have hie : i = i0 := by
    refine Classical.byContradiction fun hne => hi1 ?_
    rw [e] at gy
    exact List.mem_of_getElem? (i := i) (by rw [List.getElem?_take, if_pos (by omega)]; exact gy)
  have hix : (i : Int) = idxI m 0 A := by rw [hi2]; omega
  simp only [PP, P1, P2, P3, P4, P5, P6, P7, P8, P9, P10, P11, P12, P13, P14, L1, P15, N1, N2, N3, N4, N5, N6, N7, I1, I2, I3, I4, I5, I6, I7, reduceIte, reduceCtorEq, e]
  rw [hix]
  refine SemW_re (GStep.nilbox 6 1 1 rfl rfl rfl) ?_
  simp only [List.set_cons_succ, List.set_cons_zero, List.cons_append, List.nil_append, List.length_cons, List.length_nil, Nat.reduceAdd]
  refine loop5 (fun (k g v ver n : Nat) => k ≤ ow.length ∧ n = (seF k pr A m).length) (fun k g v ver n => [.junk, .junk, .junk, .ptr 0 0 0, .junk, .junk, .ptr 1 0 0, .junk, .junk, .junk, .junk, p64 m, .junk, .ptr 6 0 0, .ref 4 1 1 0 (P.length + L.length), p64 k, .junk, .junk, .junk, .junk, .junk, .junk, .junk, .junk, .junk, .junk, .junk, .junk, .junk, .junk, .junk, .junk, .junk, .junk, .junk, .junk, .junk, .junk, .junk, .junk, .junk, .junk, .junk, .junk, .junk, .junk, .junk, .junk, .junk, .junk, .junk, .junk, .junk, .junk, .junk, .junk, .junk, .junk, .junk, .junk, .junk, .junk, .junk, .junk, .junk, .junk, .junk, .junk, .junk, .junk, .junk, .junk, .junk, .junk, .junk, .junk, .junk, .junk, .junk, .junk, .junk, .junk, .junk, .junk, .junk, .junk, .junk])
    (fun k g v ver n => [.cells 0 0 (gmF F ow pr su), .cells 0 0 [p64 0, .nils, p64 0], x2, x3, .cells 1 0 (A.map p64), .cells 0 0 (L.map p64), .cells 0 ver [p64 m, .ref 7 g 1 0 n, p64 (idxI m 0 A)], .cells g v ((seF k pr A m).map p64)]) (fun k _ _ _ _ => ow.length - k) 0 0 0 _ 0 ⟨by omega, rfl⟩ (by simp only [PWeak_nil, PWeak_junk, PWeak_same, Int.cast_ofNat_Int, List.length_append, List.length_cons, List.length_nil, Nat.zero_add]) rfl ?_
  intro k g v ver n ⟨hle, hn⟩ ih3
  refine SemW_go (by kernel_rfl) ?_
  simp only [PP, P1, P2, P3, P4, P5, P6, P7, P8, P9, P10, P11, P12, P13, P14, L1, P15, N1, N2, N3, N4, N5, N6, N7, I1, I2, I3, I4, I5, I6, I7, reduceIte, reduceCtorEq]
  refine QIf.intro (fun c => ?_) (fun c => ?_)
  · have hk' : k < ow.length := by omega
    have hwk := wrap_succ (k := k) (by show _ < 1000000000000; omega)
    have k0 : (0 : Int) ≤ k := by omega
    have hnk : n ≤ k := by rw [hn]; exact seF_len
    have hsuc : seF (k + 1) pr A m = seF k pr A m ++ (if (k : Int) ∈ A ∧ 0 < relI pr k m then [(k : Int)] else []) := by
      unfold seF
      rw [List.range_succ]
      simp only [List.map_append, List.filter_append, List.map_cons, List.map_nil]
      congr 1
      by_cases h : (k : Int) ∈ A ∧ 0 < relI pr k m
      · rw [if_pos h]; simp [h]
      · rw [if_neg h]; simp only [List.filter_cons, List.filter_nil]; rw [if_neg (by simpa using h)]
    obtain ⟨X, hX⟩ : ∃ X, X = seF k pr A m := ⟨_, rfl⟩
    rw [← hX] at hn hsuc ⊢
    simp only [PP, P1, P2, P3, P4, P5, P6, P7, P8, P9, P10, P11, P12, P13, P14, L1, P15, N1, N2, N3, N4, N5, N6, N7, I1, I2, I3, I4, I5, I6, I7, reduceIte, reduceCtorEq, c]
    refine SemC_bor (.ints rfl hAl (.same rfl .nil)) (hasInt_p T (by show _ < 1000000000000; omega) ⟨rfl, ?_⟩)
    simp only [PP, P1, P2, P3, P4, P5, P6, P7, P8, P9, P10, P11, P12, P13, P14, L1, P15, N1, N2, N3, N4, N5, N6, N7, I1, I2, I3, I4, I5, I6, I7, reduceIte, reduceCtorEq]
    by_cases h1 : (k : Int) ∈ A
    · simp only [PP, P1, P2, P3, P4, P5, P6, P7, P8, P9, P10, P11, P12, P13, P14, L1, P15, N1, N2, N3, N4, N5, N6, N7, I1, I2, I3, I4, I5, I6, I7, reduceIte, reduceCtorEq, h1]
      refine relevant_p T k0 (by omega) hm.1 hm.2 ?_
      simp only [PP, P1, P2, P3, P4, P5, P6, P7, P8, P9, P10, P11, P12, P13, P14, L1, P15, N1, N2, N3, N4, N5, N6, N7, I1, I2, I3, I4, I5, I6, I7, reduceIte, reduceCtorEq]
      by_cases h2 : 0 < relI pr k m
      · rw [if_pos ⟨h1, h2⟩] at hsuc
        have hps3 : psub (X.map p64) 0 n = X.map p64 := psub_all _ _ (by simp [hn])
        have hxl : n ≤ X.length := by omega
        simp only [PP, P1, P2, P3, P4, P5, P6, P7, P8, P9, P10, P11, P12, P13, P14, L1, P15, N1, N2, N3, N4, N5, N6, N7, I1, I2, I3, I4, I5, I6, I7, reduceIte, reduceCtorEq, h2, hps3, hxl, hwk]
        refine ⟨⟨by omega, by omega⟩, SemW_to (ih3 (k + 1) (g + 1) 0 (ver + 1) (n + 1) ⟨by omega, by rw [hsuc]; simp [hn]⟩ (by omega)) (by simp only [PWeak_nil, PWeak_junk, PWeak_same, Int.cast_ofNat_Int, List.length_append, List.length_cons, List.length_nil, Nat.zero_add]) (by rw [hsuc]; simp)⟩
      · rw [if_neg (fun h => h2 h.2), List.append_nil] at hsuc
        simp only [PP, P1, P2, P3, P4, P5, P6, P7, P8, P9, P10, P11, P12, P13, P14, L1, P15, N1, N2, N3, N4, N5, N6, N7, I1, I2, I3, I4, I5, I6, I7, reduceIte, reduceCtorEq, h2, hwk]
        exact SemW_to (ih3 (k + 1) g v ver n ⟨by omega, by rw [hsuc]; exact hn⟩ (by omega)) (by simp only [PWeak_nil, PWeak_junk, PWeak_same, Int.cast_ofNat_Int, List.length_append, List.length_cons, List.length_nil, Nat.zero_add]) (by rw [hsuc])
    · rw [if_neg (fun h => h1 h.1), List.append_nil] at hsuc
      simp only [PP, P1, P2, P3, P4, P5, P6, P7, P8, P9, P10, P11, P12, P13, P14, L1, P15, N1, N2, N3, N4, N5, N6, N7, I1, I2, I3, I4, I5, I6, I7, reduceIte, reduceCtorEq, h1, hwk]
      exact SemW_to (ih3 (k + 1) g v ver n ⟨by omega, by rw [hsuc]; exact hn⟩ (by omega)) (by simp only [PWeak_nil, PWeak_junk, PWeak_same, Int.cast_ofNat_Int, List.length_append, List.length_cons, List.length_nil, Nat.zero_add]) (by rw [hsuc])
  · have hkn : k = ow.length := by omega
    rw [hkn] at hn ⊢
    obtain ⟨X, hX⟩ : ∃ X, X = seF ow.length pr A m := ⟨_, rfl⟩
    rw [← hX] at hn hq ⊢
    have hps3 : psub (X.map p64) 0 n = X.map p64 := psub_all _ _ (by simp [hn])
    have hxl : n ≤ X.length := by omega
    simp only [PP, P1, P2, P3, P4, P5, P6, P7, P8, P9, P10, P11, P12, P13, P14, L1, P15, N1, N2, N3, N4, N5, N6, N7, I1, I2, I3, I4, I5, I6, I7, reduceIte, reduceCtorEq, c, hps3, hxl]
    refine ⟨_, PvWk.refl _, ?_⟩
    rw [hn]
    exact hq
end
end Go.Am.Ar
set_option linter.unusedVariables false
set_option linter.unusedSimpArgs false
namespace Go.Am.Ar
abbrev gameTy : Ty := .pair (.slice (.int .u8)) (.pair (.slice (.int .i64)) (.pair (.slice (.slice (.int .i64))) .unit))
structure Nums (ow pr : List Int) (su : List (List Int)) : Prop where
  o : ∀ x ∈ ow, 0 ≤ x ∧ x ≤ 255
  p : ∀ x ∈ pr, -9223372036854775808 ≤ x ∧ x ≤ 9223372036854775807
  s : ∀ r ∈ su, ∀ x ∈ r, -9223372036854775808 ≤ x ∧ x ≤ 9223372036854775807
  lo : ow.length ≤ 9223372036854775807
  lp : pr.length ≤ 9223372036854775807
  ls : su.length ≤ 9223372036854775807
  lr : ∀ r ∈ su, r.length ≤ 9223372036854775807
theorem arg_game {v : AV} {h : H} (hs : ShV gameTy v h) : ∃ (ow pr : List Int) (su : List (List Int)), RepV (wH h) (gmP false false false false false false false false ow pr su) v ∧ Nums ow pr su := by
  obtain ⟨avs, hs, rfl⟩ := hs
  obtain ⟨c1, c2, rfl, h1, c3, c4, rfl, h2, c5, c6, rfl, h3, h4⟩ := hs
  have h4 : c6 = [] := h4
  subst h4
  obtain ⟨vo, ow, rfl, p1, q1, r1⟩ := sh_intsP h1
  obtain ⟨vp, pr, rfl, p2, q2, r2⟩ := sh_intsP h2
  obtain ⟨vs, su, rfl, p3, q3, r3⟩ := sh_rowsP h3
  refine ⟨ow, pr, su, ?_, ⟨r1, r2, fun r hr => (r3 r hr).2, q1, q2, q3, fun r hr => (r3 r hr).1⟩⟩
  have := RepL.cons p1 (.cons p2 (.cons p3 (.nil (wH h))))
  exact .agg this.len this.get
theorem arg_ints {k : IntKind} {v : AV} {h : H} (hs : ShV (.slice (.int k)) v h) : ∃ (xs : List Int), RepV (wH h) (slI false false k xs) v ∧ xs.length ≤ 9223372036854775807 ∧ ∀ x ∈ xs, k.min ≤ x ∧ x ≤ k.max := by
  obtain ⟨avs, hs, rfl⟩ := hs
  obtain ⟨v, xs, rfl, p, q, r⟩ := sh_intsP hs
  exact ⟨xs, p, q, r⟩
theorem arg_int {k : IntKind} {v : AV} {h : H} (hs : ShV (.int k) v h) : ∃ (x : Int), v = .int k x ∧ RepV (wH h) (.int k x) v ∧ k.min ≤ x ∧ x ≤ k.max := by
  obtain ⟨avs, hs, rfl⟩ := hs
  obtain ⟨x, rfl, p⟩ := hs
  exact ⟨x, rfl, .int k x, p⟩
theorem run_of_C {tab : FuncId → Option AF} {g : FuncId} {args : List AV} {h : H} (hc : C (lim tab) g args h fun v _ => v = .bool true) : ∃ n h', (run tab n).call g args h = some (.bool true, h') := by
  unfold C at hc
  obtain ⟨v, h', he, rfl⟩ := hc
  obtain ⟨n, hn⟩ := (lim_call_iff tab).1 he
  exact ⟨n, h', hn⟩
theorem shVs5 {A B D E F : Ty} {args : List AV} {h : H} (hs : ShVs [A, B, D, E, F] args h) : ∃ a b d e f, args = [a, b, d, e, f] ∧ ShV A a h ∧ ShV B b h ∧ ShV D d h ∧ ShV E e h ∧ ShV F f h := by
  match args, hs with
  | [a, b, d, e, f], ⟨h1, h2, h3, h4, h5, _⟩ => exact ⟨a, b, d, e, f, rfl, h1, h2, h3, h4, h5⟩
end Go.Am.Ar
set_option linter.unusedVariables false
set_option linter.unusedSimpArgs false
set_option maxRecDepth 10000
namespace Go.Am.Ar
open Go.Am renaming pchk → P1, pold → P2, PKNo → P3, ppack → P4, PObj.under → P5, pput → P6, ptset → P7, ptget → P8, pev → P9, ofAV → P10, ofAV1 → P11, ppad → P12, pfill → P13, prepl → P14, AO.effect → P15
open List renaming replicate → L1
open Nat renaming reduceAdd → N1, reduceSub → N2, reduceMul → N3, reduceLT → N4, reduceLeDiff → N5, reduceEqDiff → N6, reduceBEq → N7
open Int renaming reduceToNat → I1, reduceLT → I2, reduceLE → I3, reduceEq → I4, reduceAdd → I5, reduceSub → I6, reduceNeg → I7
abbrev valTy : Ty := .pair (.int .i64) (.pair (.slice (.int .i64)) (.pair (.int .i64) .unit))
theorem arg_val {v : AV} {h : H} (hs : ShV valTy v h) : ∃ x : Vl, RepV (wH h) (.agg (vlL false false x)) v ∧ (-9223372036854775808 ≤ x.st ∧ x.st ≤ 9223372036854775807) := by
  obtain ⟨avs, hs, rfl⟩ := hs
  obtain ⟨c1, c2, rfl, h1, c3, c4, rfl, h2, c5, c6, rfl, h3, h4⟩ := hs
  have h4 : c6 = [] := h4
  subst h4
  obtain ⟨vc, rfl, q1⟩ := h1
  obtain ⟨vo, se, rfl, p2, q2, r2⟩ := sh_intsP h2
  obtain ⟨vs, rfl, q3⟩ := h3
  refine ⟨⟨vc, se, vs⟩, ?_, q3⟩
  have := RepL.cons (w := wH h) (RepV.int .i64 vc) (.cons p2 (.cons (RepV.int .i64 vs) (.nil (wH h))))
  exact .agg this.len this.get
section
variable {tab : FuncId → Option AF} (T : HasA tab)
include T
theorem long32_p {M : Mem} {K : PV → Mem → Prop} {F : GF} {f5 o5 f6 o6 : Bool} {ow pr : List Int} {su ls : List (List Int)} (hl : ls.length < big) (hk : ∀ b : Bool, (b = false → longM ow pr su ls = false ∧ ow.length ≤ 14) → K (.bool b) M) :
    SemC tab 10 [.agg (gmF F ow pr su), slR f5 o5 f6 o6 .i64 ls] M K := by
  refine SemC_pure T.h10 (by simp only [PP, P1, P2, P3, P4, P5, P6, P7, P8, P9, P10, P11, P12, P13, P14, L1, P15, N1, N2, N3, N4, N5, N6, N7, I1, I2, I3, I4, I5, I6, I7, reduceIte, reduceCtorEq]) ?_
  simp only [af10, PP, P1, P2, P3, P4, P5, P6, P7, P8, P9, P10, P11, P12, P13, P14, L1, P15, N1, N2, N3, N4, N5, N6, N7, I1, I2, I3, I4, I5, I6, I7, reduceIte, reduceCtorEq]
  refine long_p T hl ?_
  simp only [PP, P1, P2, P3, P4, P5, P6, P7, P8, P9, P10, P11, P12, P13, P14, L1, P15, N1, N2, N3, N4, N5, N6, N7, I1, I2, I3, I4, I5, I6, I7, reduceIte, reduceCtorEq]
  cases h : longM ow pr su ls with
  | true =>
    simp only [PP, P1, P2, P3, P4, P5, P6, P7, P8, P9, P10, P11, P12, P13, P14, L1, P15, N1, N2, N3, N4, N5, N6, N7, I1, I2, I3, I4, I5, I6, I7, reduceIte, reduceCtorEq]
    exact hk true fun h => by cases h
  | false =>
    simp only [PP, P1, P2, P3, P4, P5, P6, P7, P8, P9, P10, P11, P12, P13, P14, L1, P15, N1, N2, N3, N4, N5, N6, N7, I1, I2, I3, I4, I5, I6, I7, reduceIte, reduceCtorEq]
    by_cases c : (14 : Int) < ow.length
    · rw [decide_eq_true c]
      exact hk true fun h => by cases h
    · rw [decide_eq_false c]
      exact hk false fun _ => ⟨h, by omega⟩
theorem copied_p {M : Mem} {K : PV → Mem → Prop} {f o : Bool} {x : Vl} (hm : x.se.length < big) (hk : K (.agg (vlL false true x)) M) :
    SemC tab 25 [.agg (vlL f o x)] M K := by
  refine SemC_pure T.h25 (by simp only [PP, P1, P2, P3, P4, P5, P6, P7, P8, P9, P10, P11, P12, P13, P14, L1, P15, N1, N2, N3, N4, N5, N6, N7, I1, I2, I3, I4, I5, I6, I7, reduceIte, reduceCtorEq]) ?_
  simp only [af25, PP, P1, P2, P3, P4, P5, P6, P7, P8, P9, P10, P11, P12, P13, P14, L1, P15, N1, N2, N3, N4, N5, N6, N7, I1, I2, I3, I4, I5, I6, I7, reduceIte, reduceCtorEq]
  refine copyInts_p T hm ?_
  simp only [PP, P1, P2, P3, P4, P5, P6, P7, P8, P9, P10, P11, P12, P13, P14, L1, P15, N1, N2, N3, N4, N5, N6, N7, I1, I2, I3, I4, I5, I6, I7, reduceIte, reduceCtorEq]
  exact hk
end
end Go.Am.Ar
set_option linter.unusedVariables false
set_option linter.unusedSimpArgs false
set_option maxRecDepth 10000
namespace Go.Am.Ar
section
variable {tab : FuncId → Option AF} (T : HasA tab)
include T
theorem overInts_o {w : PWd} {h h1 : H} (hw : ∀ b o, w.imm b = some o → b < h.next) {f : Bool} {xs : List Int} {v : AV} (hr : RepV w (slI f true .i64 xs) v) (hm : xs.length < big) (hi : Ovr w h h1) {Q : AV → H → Prop} (hq : ∀ h2, Ovr w h h2 → Kp w h1 h2 → Q (.tuple []) h2) :
    C (lim tab) 23 [v] h1 Q := by
  have hcs : cS 12 [0, 2] = [1, 3, 4, 5, 6, 7, 8, 9, 10, 11] := rfl
  rw [C_fn T.h23]
  simp only [af23, W_skip, W_ret, W_regionD, WD_nil, WD_none, KPutD_eq, chkOk_nil, true_and, AO.effect, W_exit, W_region, W_seq, W_block, W_cond, PCondW_true, PCondW_false, PCondW_dec, PGuardW_tt, PGuardW_ff, PGuardW_tf, PGuardW_ft, PGuardW_tuple, PGuardW_dec_t, PGuardW_dec_f, pickV_true, pickV_false, pickV_dec, KSeq_eq, KBlock_eq, WL_eq, WO_nil, WO_none, WO_some, KPut_eq, KCall_eq, KRes_eq, KFalse, WS_call, WS_move, WS_pick, WS_alloc, WS_box, WS_build, WS_buildSlice, WS_load, WS_loadAgg, WS_store, WS_nilCheck, WS_bin, WS_eqB, WS_isNil, WS_eqCells, WS_un, WS_convInt, WS_mkFunc, WS_makeMap, WS_makeSlice, WS_slice, WS_fieldAddr, WS_field, WS_fieldN, WS_indexAddr, WS_indexAddrA, WS_index, WS_extract, WS_len, WS_append, WS_max, PPtr_ptr, PInt_int, PBool_bool, PSome_some, PAgg_agg, PTuple_tuple, PSlice_slice, PSlice_nil, PLen_nil, PLen_slice, PCall_func, put, tset, tget, ev, bnd, scrub, padTo, aresAll, ares, packRes, abin_add, abin_sub, abin_mul, abin_eql, abin_neq, abin_lss, abin_leq, abin_gtr, abin_geq, aun_not, maxV_two, List.length_cons, List.length_nil, List.replicate, List.cons_append, List.nil_append, List.append_nil, List.map_cons, List.map_nil, Nat.reduceAdd, Nat.reduceSub, ite_true, ite_false, if_true, if_false, Bool.false_eq_true, reduceIte, decide_true, decide_false, Bool.not_true, Bool.not_false, beq_self_eq_true, List.length_map, ne_eq, not_true_eq_false, not_false_eq_true]
  rw [W_scrub]
  simp only [hcs, scrub, tset]
  rcases ov_sl hr with ⟨rfl, hx⟩ | ⟨fl, b, off, ver, bcs, rfl, e1, e2, e3, e4⟩
  · rw [W_round]
    have hlt : ¬ (0 : Int) < 0 := by omega
    simp only [W_skip, W_ret, W_regionD, WD_nil, WD_none, KPutD_eq, chkOk_nil, true_and, AO.effect, W_exit, W_region, W_seq, W_block, W_cond, PCondW_true, PCondW_false, PCondW_dec, PGuardW_tt, PGuardW_ff, PGuardW_tf, PGuardW_ft, PGuardW_tuple, PGuardW_dec_t, PGuardW_dec_f, pickV_true, pickV_false, pickV_dec, KSeq_eq, KBlock_eq, WL_eq, WO_nil, WO_none, WO_some, KPut_eq, KCall_eq, KRes_eq, KFalse, WS_call, WS_move, WS_pick, WS_alloc, WS_box, WS_build, WS_buildSlice, WS_load, WS_loadAgg, WS_store, WS_nilCheck, WS_bin, WS_eqB, WS_isNil, WS_eqCells, WS_un, WS_convInt, WS_mkFunc, WS_makeMap, WS_makeSlice, WS_slice, WS_fieldAddr, WS_field, WS_fieldN, WS_indexAddr, WS_indexAddrA, WS_index, WS_extract, WS_len, WS_append, WS_max, PPtr_ptr, PInt_int, PBool_bool, PSome_some, PAgg_agg, PTuple_tuple, PSlice_slice, PSlice_nil, PLen_nil, PLen_slice, PCall_func, put, tset, tget, ev, bnd, scrub, padTo, aresAll, ares, packRes, abin_add, abin_sub, abin_mul, abin_eql, abin_neq, abin_lss, abin_leq, abin_gtr, abin_geq, aun_not, maxV_two, List.length_cons, List.length_nil, List.replicate, List.cons_append, List.nil_append, List.append_nil, List.map_cons, List.map_nil, Nat.reduceAdd, Nat.reduceSub, ite_true, ite_false, if_true, if_false, Bool.false_eq_true, reduceIte, decide_true, decide_false, Bool.not_true, Bool.not_false, beq_self_eq_true, List.length_map, ne_eq, not_true_eq_false, not_false_eq_true, hlt]
    exact hq h1 hi (.refl w h1)
  · refine (?_ : ∀ (m k : Nat) (h' : H), k + m = xs.length → Ovr w h h' → Kp w h1 h' → W (lim tab) (.loop ?sc ?x) [.slice fl 1 b off xs.length, .junk, i64 k, .junk, .junk, .junk, .junk, .junk, .junk, .junk, .junk, .junk] h' ?q1 ?q2 ?q3) xs.length 0 h1 (by simp) hi (.refl w h1)
    intro m
    induction m with
    | zero =>
      intro k h' hk hv hkp
      rw [W_round]
      have hlt : ¬ (k : Int) < xs.length := by omega
      simp only [W_skip, W_ret, W_regionD, WD_nil, WD_none, KPutD_eq, chkOk_nil, true_and, AO.effect, W_exit, W_region, W_seq, W_block, W_cond, PCondW_true, PCondW_false, PCondW_dec, PGuardW_tt, PGuardW_ff, PGuardW_tf, PGuardW_ft, PGuardW_tuple, PGuardW_dec_t, PGuardW_dec_f, pickV_true, pickV_false, pickV_dec, KSeq_eq, KBlock_eq, WL_eq, WO_nil, WO_none, WO_some, KPut_eq, KCall_eq, KRes_eq, KFalse, WS_call, WS_move, WS_pick, WS_alloc, WS_box, WS_build, WS_buildSlice, WS_load, WS_loadAgg, WS_store, WS_nilCheck, WS_bin, WS_eqB, WS_isNil, WS_eqCells, WS_un, WS_convInt, WS_mkFunc, WS_makeMap, WS_makeSlice, WS_slice, WS_fieldAddr, WS_field, WS_fieldN, WS_indexAddr, WS_indexAddrA, WS_index, WS_extract, WS_len, WS_append, WS_max, PPtr_ptr, PInt_int, PBool_bool, PSome_some, PAgg_agg, PTuple_tuple, PSlice_slice, PSlice_nil, PLen_nil, PLen_slice, PCall_func, put, tset, tget, ev, bnd, scrub, padTo, aresAll, ares, packRes, abin_add, abin_sub, abin_mul, abin_eql, abin_neq, abin_lss, abin_leq, abin_gtr, abin_geq, aun_not, maxV_two, List.length_cons, List.length_nil, List.replicate, List.cons_append, List.nil_append, List.append_nil, List.map_cons, List.map_nil, Nat.reduceAdd, Nat.reduceSub, ite_true, ite_false, if_true, if_false, Bool.false_eq_true, reduceIte, decide_true, decide_false, Bool.not_true, Bool.not_false, beq_self_eq_true, List.length_map, ne_eq, not_true_eq_false, not_false_eq_true, hlt]
      exact hq h' hv hkp
    | succ m ih =>
      intro k h' hk hv hkp
      rw [W_round]
      have hlt : (k : Int) < xs.length := by omega
      have h0 : (0 : Int) ≤ k := by omega
      have hwr := wrap_succ (k := k) (by omega)
      obtain ⟨y, z, hy, hz, hrz⟩ := e4 k (by simp; omega)
      obtain ⟨kz, nz, rfl⟩ := ov_int hy hrz
      obtain ⟨h2, hp, hv2, hkp2⟩ := hv.put hw e1 e2 (getSome_lt hz) (i64 (-77)) rfl ⟨_, _, hz⟩
      simp only [W_skip, W_ret, W_regionD, WD_nil, WD_none, KPutD_eq, chkOk_nil, true_and, AO.effect, W_exit, W_region, W_seq, W_block, W_cond, PCondW_true, PCondW_false, PCondW_dec, PGuardW_tt, PGuardW_ff, PGuardW_tf, PGuardW_ft, PGuardW_tuple, PGuardW_dec_t, PGuardW_dec_f, pickV_true, pickV_false, pickV_dec, KSeq_eq, KBlock_eq, WL_eq, WO_nil, WO_none, WO_some, KPut_eq, KCall_eq, KRes_eq, KFalse, WS_call, WS_move, WS_pick, WS_alloc, WS_box, WS_build, WS_buildSlice, WS_load, WS_loadAgg, WS_store, WS_nilCheck, WS_bin, WS_eqB, WS_isNil, WS_eqCells, WS_un, WS_convInt, WS_mkFunc, WS_makeMap, WS_makeSlice, WS_slice, WS_fieldAddr, WS_field, WS_fieldN, WS_indexAddr, WS_indexAddrA, WS_index, WS_extract, WS_len, WS_append, WS_max, PPtr_ptr, PInt_int, PBool_bool, PSome_some, PAgg_agg, PTuple_tuple, PSlice_slice, PSlice_nil, PLen_nil, PLen_slice, PCall_func, put, tset, tget, ev, bnd, scrub, padTo, aresAll, ares, packRes, abin_add, abin_sub, abin_mul, abin_eql, abin_neq, abin_lss, abin_leq, abin_gtr, abin_geq, aun_not, maxV_two, List.length_cons, List.length_nil, List.replicate, List.cons_append, List.nil_append, List.append_nil, List.map_cons, List.map_nil, Nat.reduceAdd, Nat.reduceSub, ite_true, ite_false, if_true, if_false, Bool.false_eq_true, reduceIte, decide_true, decide_false, Bool.not_true, Bool.not_false, beq_self_eq_true, List.length_map, ne_eq, not_true_eq_false, not_false_eq_true, pidx_slice, hlt, h0, true_and, and_self, Int.toNat_natCast, Nat.mul_one, AV.cells, hp, hwr]
      rw [W_scrub]
      simp only [hcs, scrub, tset]
      exact ih (k + 1) h2 (by omega) hv2 (hkp.trans hkp2)
theorem overInts_ok {f : Bool} {xs : List Int} (hm : xs.length < big) : OverOk tab 23 [slI f true .i64 xs] := by
  intro w h h1 args' hw ha hv
  match args', ha with
  | [v], ha => exact overInts_o T hw ha.hd hm hv fun h2 p q => ⟨p, q⟩
  | [], ha => exact absurd ha.len (by simp)
  | _ :: _ :: _, ha => exact absurd ha.len (by simp)
end
end Go.Am.Ar

