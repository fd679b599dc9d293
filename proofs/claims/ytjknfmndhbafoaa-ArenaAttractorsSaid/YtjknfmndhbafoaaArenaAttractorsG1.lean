/- Contracts: the attractor of the reference, and what goes with it. -/
import Derived.Test.YtjknfmndhbafoaaArenaAttractorsG0
import Derived.Test.YtjknfmndhbafoaaPmC
set_option linter.unusedVariables false
set_option linter.unusedSimpArgs false
set_option maxRecDepth 10000
namespace Go.Am.Ar
open Go.Am renaming pchk → P1, pold → P2, PKNo → P3, ppack → P4, PObj.under → P5, pput → P6, ptset → P7, ptget → P8, pev → P9, ofAV → P10, ofAV1 → P11, ppad → P12, pfill → P13, prepl → P14, AO.effect → P15
open List renaming replicate → L1
open Nat renaming reduceAdd → N1, reduceSub → N2, reduceMul → N3, reduceLT → N4, reduceLeDiff → N5, reduceEqDiff → N6, reduceBEq → N7
open Int renaming reduceToNat → I1, reduceLT → I2, reduceLE → I3, reduceEq → I4, reduceAdd → I5, reduceSub → I6, reduceNeg → I7

/-- The ranks. -/
def rkOf (ow : List Int) (su : List (List Int)) (side : Int) (keep : List Int) (v : Nat) : Int := rk (Pf ow side) (Sf su) (Zf keep) ow.length v
def firstS (R : Nat → Int) (k : Int) : List Int → Int
  | [] => -1
  | u :: l => if R u.toNat = k then u else firstS R k l
def stratOf (ow : List Int) (su : List (List Int)) (side : Int) (R : Nat → Int) (v : Nat) : Int := if 0 < R v ∧ ow.getD v 0 = side then firstS R (R v - 1) (su.getD v []) else -1
def tabL (n : Nat) (R : Nat → Int) : List Int := (List.range n).map R
def attrM (ow pr : List Int) (su : List (List Int)) (side : Int) (keep : List Int) : PV :=
  if wrongM ow pr su side keep = 0 then .tuple [slI false true .i64 (tabL ow.length (rkOf ow su side keep)), slI false true .i64 (tabL ow.length (stratOf ow su side (rkOf ow su side keep))), p64 0]
  else .tuple [slI false true .i64 [], slI false true .i64 [], p64 (wrongM ow pr su side keep)]

theorem tabL_len (n : Nat) (R : Nat → Int) : (tabL n R).length = n := by simp [tabL]
theorem tabL_get {n : Nat} {R : Nat → Int} {v : Nat} (h : v < n) : (tabL n R)[v]? = some (R v) := by simp [tabL, h]
theorem tabL_of {n : Nat} {R : Nat → Int} {a : List Int} (hl : a.length = n) (h : ∀ v, v < n → a[v]? = some (R v)) : a = tabL n R := by
  apply List.ext_getElem?
  intro v
  rcases Nat.lt_or_ge v n with q | q
  · rw [h v q, tabL_get q]
  · rw [List.getElem?_eq_none (by omega), List.getElem?_eq_none (by rw [tabL_len]; omega)]
theorem attrM_res (ow pr : List Int) (su : List (List Int)) (side : Int) (keep : List Int) : ∃ a b e, attrM ow pr su side keep = .tuple [slI false true .i64 a, slI false true .i64 b, p64 e] ∧ a.length ≤ ow.length ∧ b.length ≤ ow.length := by
  unfold attrM
  split
  · exact ⟨_, _, _, rfl, by rw [tabL_len]; omega, by rw [tabL_len]; omega⟩
  · exact ⟨[], [], _, rfl, by simp, by simp⟩
theorem firstS_some {R : Nat → Int} {r : Int} : ∀ {row : List Int}, (∀ u ∈ row, 0 ≤ u) → (∃ u ∈ row, R u.toNat = r) → 0 ≤ firstS R r row
  | [], _, ⟨u, h, _⟩ => by cases h
  | x :: l, hn, ⟨u, h1, h2⟩ => by
    unfold firstS
    split
    · exact hn x (by simp)
    · rename_i q
      rcases List.mem_cons.1 h1 with rfl | h1
      · exact absurd h2 q
      · exact firstS_some (fun u hu => hn u (by simp [hu])) ⟨u, h1, h2⟩
theorem psub_tab {n : Nat} {R : Nat → Int} {f : Int → PV} : psub ((tabL n R).map f) 0 n = (tabL n R).map f := psub_all _ _ (by rw [List.length_map, tabL_len])
theorem frz_tab {n v : Nat} {R : Nat → Int} : frzO (some (.cells 0 v ((tabL n R).map (PV.int .i64)))) 0 1 0 n = some (slI false true .i64 (tabL n R)) := by
  rw [frzO_cells (by rw [List.length_map, tabL_len]; omega) (underL_ints _ _ _), Nat.mul_one, psub_tab]
  unfold slI; rw [tabL_len]
theorem set_low {a : List Int} {k v : Nat} {x : Int} (h : v ≠ k) : (a.set k x)[v]? = a[v]? := by
  rw [List.getElem?_set_ne (by omega)]
theorem set_at {a : List Int} {k : Nat} {x : Int} (h : k < a.length) : (a.set k x)[k]? = some x := by
  simp [h]
theorem map_tab {n : Nat} {R : Nat → Int} {row : List Int} (h : ∀ u ∈ row, 0 ≤ u ∧ u < n) : (row.map fun u => (tabL n R).getD u.toNat 0) = (row.map Int.toNat).map R := by
  rw [List.map_map]
  refine List.map_congr_left fun u hu => ?_
  obtain ⟨h1, h2⟩ := h u hu
  simp only [Function.comp]
  rw [getD_some (tabL_get (by omega))]

section
variable {tab : FuncId → Option AF} (T : HasA tab)
include T

theorem refAttract_p {M : Mem} {K : PV → Mem → Prop} {f1 o1 f2 o2 f3 o3 f4 o4 f5 o5 : Bool} {ow pr keep : List Int} {side : Int} {su : List (List Int)} (B : Bnd ow pr su) (hb : keep.length < big) (hq : K (attrM ow pr su side keep) M) :
    SemC tab 14 [gmP f1 o1 f2 o2 f3 o3 f4 o4 ow pr su, p8 side, slI f5 o5 .i64 keep] M K := by
  refine SemC_wk ?_
  refine SemC_pure T.h14 (by simp only [PP, P1, P2, P3, P4, P5, P6, P7, P8, P9, P10, P11, P12, P13, P14, L1, P15, N1, N2, N3, N4, N5, N6, N7, I1, I2, I3, I4, I5, I6, I7, reduceIte, reduceCtorEq]) ?_
  simp only [af14, PP, P1, P2, P3, P4, P5, P6, P7, P8, P9, P10, P11, P12, P13, P14, L1, P15, N1, N2, N3, N4, N5, N6, N7, I1, I2, I3, I4, I5, I6, I7, reduceIte, reduceCtorEq, attrM] at hq ⊢
  refine wrong_p T B hb ?_
  simp only [PP, P1, P2, P3, P4, P5, P6, P7, P8, P9, P10, P11, P12, P13, P14, L1, P15, N1, N2, N3, N4, N5, N6, N7, I1, I2, I3, I4, I5, I6, I7, reduceIte, reduceCtorEq]
  refine QIf.intro (fun c1 => ?_) (fun c1 => ?_)
  rotate_left
  · simp only [PP, P1, P2, P3, P4, P5, P6, P7, P8, P9, P10, P11, P12, P13, P14, L1, P15, N1, N2, N3, N4, N5, N6, N7, I1, I2, I3, I4, I5, I6, I7, reduceIte, reduceCtorEq, c1] at hq ⊢
    exact ⟨_, wk_attr _, hq⟩
  simp only [PP, P1, P2, P3, P4, P5, P6, P7, P8, P9, P10, P11, P12, P13, P14, L1, P15, N1, N2, N3, N4, N5, N6, N7, I1, I2, I3, I4, I5, I6, I7, reduceIte, reduceCtorEq, c1] at hq ⊢
  obtain ⟨V, hside, hpm⟩ := wrong_zero c1
  have hs := V.s
  have n1 := V.n1
  have b1 : ow.length * 8 ≤ 140737488355328 := by omega
  have b2 : ow.length ≤ 9223372036854775807 := by omega
  have b0 : (0 : Int) ≤ ow.length := by omega
  have b1' : (ow.length : Int) * 8 ≤ 140737488355328 := by omega
  have b2' : (ow.length : Int) ≤ 9223372036854775807 := by omega
  simp only [PP, P1, P2, P3, P4, P5, P6, P7, P8, P9, P10, P11, P12, P13, P14, L1, P15, N1, N2, N3, N4, N5, N6, N7, I1, I2, I3, I4, I5, I6, I7, reduceIte, reduceCtorEq, b0, b1, b2, b1', b2', Int.le_refl]
  refine loop5 (fun (k v1 v2 : Nat) (a1 a2 : List Int) => k ≤ ow.length ∧ a1.length = ow.length ∧ a2.length = ow.length ∧ (∀ v, v < k → a1[v]? = some (rk (Pf ow side) (Sf su) (Zf keep) 0 v)) ∧ ∀ v, v < k → a2[v]? = some (-1))
    (fun k v1 v2 a1 a2 => [.junk, p8 side, slI f5 o5 .i64 keep, .ptr 0 0 0, .junk, .junk, .junk, .junk, .junk, .junk, p64 ow.length, .ref 1 0 1 0 ow.length, .ref 2 0 1 0 ow.length, p64 k, .junk, .junk, .junk, .junk, .junk, .junk, .junk, .junk, .junk, .junk, .junk, .junk, .junk, .junk, .junk, .junk, .junk, .junk, .junk, .junk, .junk, .junk, .junk, .junk, .junk, .junk, .junk, .junk, .junk, .junk, .junk, .junk, .junk, .junk, .junk, .junk, .junk, .junk, .junk, .junk, .junk, .junk, .junk, .junk, .junk, .junk, .junk, .junk, .junk, .junk, .junk, .junk, .junk, .junk, .junk, .junk, .junk, .junk, .junk, .junk, .junk, .junk, .junk, .junk, .junk, .junk, .junk, .junk, .junk, .junk, .junk, .junk, .junk, .junk, .junk, .junk, .junk, .junk, .junk, .junk, .junk, .junk, .junk, .junk, .junk, .junk, .junk, .junk, .junk, .junk, .junk, .junk, .junk, .junk, .junk, .junk, .junk, .junk, .junk, .junk, .junk, .junk, .junk, .junk, .junk, .junk, .junk, .junk, .junk, .junk, .junk, .junk, .junk, .junk, .junk, .junk, .junk, .junk, .junk, .junk, .junk, .junk, .junk, .junk, .junk, .junk, .junk, .junk, .junk, .junk, .junk, .junk, .junk, .junk])
    (fun k v1 v2 a1 a2 => [.cells 0 0 [slI f1 o1 .u8 ow, slI f2 o2 .i64 pr, slR f3 o3 f4 o4 .i64 su], .cells 0 v1 (a1.map (PV.int .i64)), .cells 0 v2 (a2.map (PV.int .i64))])
    (fun k _ _ _ _ => ow.length - k) 0 0 0 (List.replicate ow.length 0) (List.replicate ow.length 0) ⟨by omega, by simp, by simp, by intro v h; omega, by intro v h; omega⟩ (by simp only [PWeak_nil, PWeak_junk, PWeak_same, Int.cast_ofNat_Int, List.length_append, List.length_cons, List.length_nil, Nat.zero_add]) (by simp only [List.map_replicate]) ?_
  intro k v1 v2 a1 a2 ⟨hle, l1, l2, h1, h2⟩ ih
  refine SemW_go (by kernel_rfl) ?_
  simp only [PP, P1, P2, P3, P4, P5, P6, P7, P8, P9, P10, P11, P12, P13, P14, L1, P15, N1, N2, N3, N4, N5, N6, N7, I1, I2, I3, I4, I5, I6, I7, reduceIte, reduceCtorEq]
  refine QIf.intro (fun c => ?_) (fun c => ?_)
  · have hk : k < ow.length := by omega
    have k0 : (0 : Int) ≤ k := by omega
    have hwk := wrap_succ (k := k) (by show _ < 1000000000000; omega)
    have i1 : k + 1 ≤ ow.length := hk
    simp only [PP, P1, P2, P3, P4, P5, P6, P7, P8, P9, P10, P11, P12, P13, P14, L1, P15, N1, N2, N3, N4, N5, N6, N7, I1, I2, I3, I4, I5, I6, I7, reduceIte, reduceCtorEq, c, k0, l1, l2, i1]
    refine hasInt_p T hb ?_
    have z0 : rk (Pf ow side) (Sf su) (Zf keep) 0 k = if (k : Int) ∈ keep then 0 else -1 := by
      unfold rk Zf; simp only [decide_eq_true_eq]
    by_cases hz : (k : Int) ∈ keep
    · simp only [PP, P1, P2, P3, P4, P5, P6, P7, P8, P9, P10, P11, P12, P13, P14, L1, P15, N1, N2, N3, N4, N5, N6, N7, I1, I2, I3, I4, I5, I6, I7, reduceIte, reduceCtorEq, hz, c, k0, l1, l2, i1, hwk]
      refine SemW_to (ih (k + 1) (v1 + 1 + 1) (v2 + 1) ((a1.set k (-1)).set k 0) (a2.set k (-1)) ⟨by omega, by simp [l1], by simp [l2], ?_, ?_⟩ (by omega)) (by simp only [PWeak_nil, PWeak_junk, PWeak_same, Int.cast_ofNat_Int, List.length_append, List.length_cons, List.length_nil, Nat.zero_add]) (by simp only [← List.map_set])
      · intro v hv
        by_cases e : v = k
        · subst e; rw [set_at (by simp; omega), z0, if_pos hz]
        · rw [set_low e, set_low e]; exact h1 v (by omega)
      · intro v hv
        by_cases e : v = k
        · subst e; rw [set_at (by omega)]
        · rw [set_low e]; exact h2 v (by omega)
    · simp only [PP, P1, P2, P3, P4, P5, P6, P7, P8, P9, P10, P11, P12, P13, P14, L1, P15, N1, N2, N3, N4, N5, N6, N7, I1, I2, I3, I4, I5, I6, I7, reduceIte, reduceCtorEq, hz, hwk]
      refine SemW_to (ih (k + 1) (v1 + 1) (v2 + 1) (a1.set k (-1)) (a2.set k (-1)) ⟨by omega, by simp [l1], by simp [l2], ?_, ?_⟩ (by omega)) (by simp only [PWeak_nil, PWeak_junk, PWeak_same, Int.cast_ofNat_Int, List.length_append, List.length_cons, List.length_nil, Nat.zero_add]) (by simp only [← List.map_set])
      · intro v hv
        by_cases e : v = k
        · subst e; rw [set_at (by omega), z0, if_neg hz]
        · rw [set_low e]; exact h1 v (by omega)
      · intro v hv
        by_cases e : v = k
        · subst e; rw [set_at (by omega)]
        · rw [set_low e]; exact h2 v (by omega)
  · have hkn : k = ow.length := by omega
    subst hkn
    have ha1 := tabL_of l1 h1
    have ha2 := tabL_of (R := fun _ => -1) l2 h2
    subst ha1 ha2
    simp only [PP, P1, P2, P3, P4, P5, P6, P7, P8, P9, P10, P11, P12, P13, P14, L1, P15, N1, N2, N3, N4, N5, N6, N7, I1, I2, I3, I4, I5, I6, I7, reduceIte, reduceCtorEq, c]
    have r1 : rk (Pf ow side) (Sf su) (Zf keep) 0 = rk (Pf ow side) (Sf su) (Zf keep) (1 - 1) := rfl
    rw [r1]
    refine loop2 (fun (k v1 : Nat) => 1 ≤ k ∧ k ≤ ow.length + 1)
      (fun k v1 => [.junk, p8 side, .junk, .ptr 0 0 0, .junk, .junk, .junk, .junk, .junk, .junk, p64 ow.length, .ref 1 0 1 0 ow.length, .ref 2 0 1 0 ow.length, .junk, p64 k, .junk, .junk, .junk, .junk, .junk, .junk, .junk, .junk, .junk, .junk, .junk, .junk, .junk, .junk, .junk, .junk, .junk, .junk, .junk, .junk, .junk, .junk, .junk, .junk, .junk, .junk, .junk, .junk, .junk, .junk, .junk, .junk, .junk, .junk, .junk, .junk, .junk, .junk, .junk, .junk, .junk, .junk, .junk, .junk, .junk, .junk, .junk, .junk, .junk, .junk, .junk, .junk, .junk, .junk, .junk, .junk, .junk, .junk, .junk, .junk, .junk, .junk, .junk, .junk, .junk, .junk, .junk, .junk, .junk, .junk, .junk, .junk, .junk, .junk, .junk, .junk, .junk, .junk, .junk, .junk, .junk, .junk, .junk, .junk, .junk, .junk, .junk, .junk, .junk, .junk, .junk, .junk, .junk, .junk, .junk, .junk, .junk, .junk, .junk, .junk, .junk, .junk, .junk, .junk, .junk, .junk, .junk, .junk, .junk, .junk, .junk, .junk, .junk, .junk, .junk, .junk, .junk, .junk, .junk, .junk, .junk, .junk, .junk, .junk, .junk, .junk, .junk, .junk, .junk, .junk, .junk, .junk, .junk])
      (fun k v1 => [.cells 0 0 [slI f1 o1 .u8 ow, slI f2 o2 .i64 pr, slR f3 o3 f4 o4 .i64 su], .cells 0 v1 ((tabL ow.length (rk (Pf ow side) (Sf su) (Zf keep) (k - 1))).map (PV.int .i64)), .cells 0 v2 ((tabL ow.length fun _ => -1).map (PV.int .i64))])
      (fun k _ => ow.length + 1 - k) 1 v1 ⟨by omega, by omega⟩ (by simp only [PWeak_nil, PWeak_junk, PWeak_same, Int.cast_ofNat_Int, List.length_append, List.length_cons, List.length_nil, Nat.zero_add]) rfl ?_
    intro k v1 ⟨hk1, hk2⟩ ih
    refine SemW_go (by kernel_rfl) ?_
    simp only [PP, P1, P2, P3, P4, P5, P6, P7, P8, P9, P10, P11, P12, P13, P14, L1, P15, N1, N2, N3, N4, N5, N6, N7, I1, I2, I3, I4, I5, I6, I7, reduceIte, reduceCtorEq]
    refine QIf.intro (fun c2 => ?_) (fun c2 => ?_)
    · obtain ⟨j, rfl⟩ : ∃ j, k = j + 1 := ⟨k - 1, by omega⟩
      have hj : j < ow.length := by omega
      have hwk := wrap_succ (k := j + 1) (by show _ < 1000000000000; omega)
      simp only [PP, P1, P2, P3, P4, P5, P6, P7, P8, P9, P10, P11, P12, P13, P14, L1, P15, N1, N2, N3, N4, N5, N6, N7, I1, I2, I3, I4, I5, I6, I7, reduceIte, reduceCtorEq, c2]
      refine SemC_fn T.h12 ?_
      simp only [af12, PP, P1, P2, P3, P4, P5, P6, P7, P8, P9, P10, P11, P12, P13, P14, L1, P15, N1, N2, N3, N4, N5, N6, N7, I1, I2, I3, I4, I5, I6, I7, reduceIte, reduceCtorEq, tabL_len, psub_tab, b1, b2, Nat.add_sub_cancel]
      refine SemW_re (GStep.freeze (b := [.junk, p8 side, .junk, .ptr 0 0 0, .junk, .junk, .junk, .junk, .junk, .junk, p64 ow.length, .ref 1 0 1 0 ow.length, .ref 2 0 1 0 ow.length, .junk, p64 ((j + 1 : Nat) : Int), slI false true .i64 (tabL ow.length (rk (Pf ow side) (Sf su) (Zf keep) j)), p64 0, .junk, .junk, .junk, .junk, .junk, .junk, .junk, .junk, .junk, .junk, .junk, .junk, .junk, .junk, .junk, .junk, .junk, .junk, .junk, .junk, .junk, .junk, .junk, .junk, .junk, .junk, .junk, .junk, .junk, .junk, .junk, .junk, .junk, .junk, .junk, .junk, .junk, .junk, .junk, .junk, .junk, .junk, .junk, .junk, .junk, .junk, .junk, .junk, .junk, .junk, .junk, .junk, .junk, .junk, .junk, .junk, .junk, .junk, .junk, .junk, .junk, .junk, .junk, .junk, .junk, .junk, .junk, .junk, .junk, .junk, .junk, .junk, .junk, .junk, .junk, .junk, .junk, .junk, .junk, .junk, .junk, .junk, .junk, .junk, .junk, .junk, .junk, .junk, .junk, .junk, .junk, .junk, .junk, .junk, .junk, .junk, .junk, .junk, .junk, .junk, .junk, .junk, .junk, .junk, .junk, .junk, .junk, .junk, .junk, .junk, .junk, .junk, .junk, .junk, .junk, .junk, .junk, .junk, .junk, .junk, .junk, .junk, .junk, .junk, .junk, .junk, .junk, .junk, .junk, .junk, .junk]) 3 (Nat.zero_le _) rfl (by
        simp only [PFrz_junk, PFrz_same]
        rw [PFrz_ref (by rw [List.length_map, tabL_len]; omega) (by rw [Nat.mul_one, psub_tab]; unfold slI; rw [tabL_len])]
        simp only [PFrz_nil, PFrz_junk, PFrz_same, Int.cast_ofNat_Int]) rfl) ?_
      simp only [List.set_cons_zero, List.set_cons_succ]
      have was : ∀ x ∈ tabL ow.length (rk (Pf ow side) (Sf su) (Zf keep) j), -1 ≤ x ∧ x ≤ 100000 := by
        intro x hx
        obtain ⟨v, _, rfl⟩ := List.mem_map.1 hx
        have := rk_range (P := Pf ow side) (S := Sf su) (Z := Zf keep) j v
        omega
      refine loop3 (fun (i v1 : Nat) (a1 : List Int) => i ≤ ow.length ∧ a1.length = ow.length ∧ (∀ v, v < i → a1[v]? = some (rk (Pf ow side) (Sf su) (Zf keep) (j + 1) v)) ∧ ∀ v, i ≤ v → v < ow.length → a1[v]? = some (rk (Pf ow side) (Sf su) (Zf keep) j v))
        (fun i v1 a1 => [.junk, p8 side, .junk, .ptr 0 0 0, .junk, .junk, .junk, .junk, .junk, .junk, p64 ow.length, .ref 1 0 1 0 ow.length, .ref 2 0 1 0 ow.length, .junk, p64 ((j + 1 : Nat) : Int), slI false true .i64 (tabL ow.length (rk (Pf ow side) (Sf su) (Zf keep) j)), p64 i, .junk, .junk, .junk, .junk, .junk, .junk, .junk, .junk, .junk, .junk, .junk, .junk, .junk, .junk, .junk, .junk, .junk, .junk, .junk, .junk, .junk, .junk, .junk, .junk, .junk, .junk, .junk, .junk, .junk, .junk, .junk, .junk, .junk, .junk, .junk, .junk, .junk, .junk, .junk, .junk, .junk, .junk, .junk, .junk, .junk, .junk, .junk, .junk, .junk, .junk, .junk, .junk, .junk, .junk, .junk, .junk, .junk, .junk, .junk, .junk, .junk, .junk, .junk, .junk, .junk, .junk, .junk, .junk, .junk, .junk, .junk, .junk, .junk, .junk, .junk, .junk, .junk, .junk, .junk, .junk, .junk, .junk, .junk, .junk, .junk, .junk, .junk, .junk, .junk, .junk, .junk, .junk, .junk, .junk, .junk, .junk, .junk, .junk, .junk, .junk, .junk, .junk, .junk, .junk, .junk, .junk, .junk, .junk, .junk, .junk, .junk, .junk, .junk, .junk, .junk, .junk, .junk, .junk, .junk, .junk, .junk, .junk, .junk, .junk, .junk, .junk, .junk, .junk, .junk, .junk, .junk])
        (fun i v1 a1 => [.cells 0 0 [slI f1 o1 .u8 ow, slI f2 o2 .i64 pr, slR f3 o3 f4 o4 .i64 su], .cells 0 v1 (a1.map (PV.int .i64)), .cells 0 v2 ((tabL ow.length fun _ => -1).map (PV.int .i64)), .gone])
        (fun i _ _ => ow.length - i) 0 v1 (tabL ow.length (rk (Pf ow side) (Sf su) (Zf keep) j)) ⟨by omega, tabL_len _ _, by intro v h; omega, fun v _ h => tabL_get h⟩ (by simp only [PWeak_nil, PWeak_junk, PWeak_same, Int.cast_ofNat_Int, List.length_append, List.length_cons, List.length_nil, Nat.zero_add]) rfl ?_
      intro i v1 a1 ⟨hle, l1, h1, h3⟩ ih2
      refine SemW_go (by kernel_rfl) ?_
      simp only [PP, P1, P2, P3, P4, P5, P6, P7, P8, P9, P10, P11, P12, P13, P14, L1, P15, N1, N2, N3, N4, N5, N6, N7, I1, I2, I3, I4, I5, I6, I7, reduceIte, reduceCtorEq]
      refine QIf.intro (fun d => ?_) (fun d => ?_)
      · have hi : i < ow.length := by omega
        have i0 : (0 : Int) ≤ i := by omega
        have hwi := wrap_succ (k := i) (by show _ < 1000000000000; omega)
        have g0 := tabL_get (R := rk (Pf ow side) (Sf su) (Zf keep) j) hi
        obtain ⟨row, g1⟩ := some_of (xs := su) (k := i) (by omega)
        obtain ⟨o, g2⟩ := some_of (xs := ow) (k := i) (by omega)
        have hrow : ∀ u ∈ row, 0 ≤ u ∧ u < ow.length := by
          have hi2 : i < su.length := by omega
          obtain ⟨_, _, _, _, q⟩ := V.row i hi2
          rw [List.getElem?_eq_getElem hi2] at g1
          cases g1
          intro u hu
          have := (posM_rise q).2 u hu
          omega
        have e0 : rk (Pf ow side) (Sf su) (Zf keep) (j + 1) i = rkRow (Pf ow side i) (Sf su i) ((j + 1 : Nat) : Int) (rk (Pf ow side) (Sf su) (Zf keep) j) i := rfl
        have e1 : Sf su i = row.map Int.toNat := by simp [Sf, List.getD, g1]
        have e2 : Pf ow side i = decide (o = side) := by simp [Pf, List.getD, g2]
        have up : ∀ (b : List Int), b.length = ow.length → b[i]? = some (rk (Pf ow side) (Sf su) (Zf keep) (j + 1) i) → (∀ v, v ≠ i → b[v]? = a1[v]?) → (i + 1 ≤ ow.length ∧ b.length = ow.length ∧ (∀ v, v < i + 1 → b[v]? = some (rk (Pf ow side) (Sf su) (Zf keep) (j + 1) v)) ∧ ∀ v, i + 1 ≤ v → v < ow.length → b[v]? = some (rk (Pf ow side) (Sf su) (Zf keep) j v)) := by
          intro b hb1 hb2 hb3
          refine ⟨by omega, hb1, fun v hv => ?_, fun v hv hv2 => ?_⟩
          · by_cases e : v = i
            · subst e; exact hb2
            · rw [hb3 v e]; exact h1 v (by omega)
          · rw [hb3 v (by omega)]; exact h3 v (by omega) hv2
        simp only [PP, P1, P2, P3, P4, P5, P6, P7, P8, P9, P10, P11, P12, P13, P14, L1, P15, N1, N2, N3, N4, N5, N6, N7, I1, I2, I3, I4, I5, I6, I7, reduceIte, reduceCtorEq, d, g0, i0, tabL_len]
        refine QIf.intro (fun q => ?_) (fun q => ?_)
        · simp only [PP, P1, P2, P3, P4, P5, P6, P7, P8, P9, P10, P11, P12, P13, P14, L1, P15, N1, N2, N3, N4, N5, N6, N7, I1, I2, I3, I4, I5, I6, I7, reduceIte, reduceCtorEq, q]
          refine next_p T g1 g2 (B.r _ (List.mem_of_getElem? g1)) was (by rw [tabL_len]; exact hrow) ?_
          rw [map_tab hrow, ← e1, ← e2]
          have i1 : i + 1 ≤ ow.length := hi
          simp only [PP, P1, P2, P3, P4, P5, P6, P7, P8, P9, P10, P11, P12, P13, P14, L1, P15, N1, N2, N3, N4, N5, N6, N7, I1, I2, I3, I4, I5, I6, I7, reduceIte, reduceCtorEq]
          refine QIf.intro (fun q2 => ?_) (fun q2 => ?_)
          · simp only [PP, P1, P2, P3, P4, P5, P6, P7, P8, P9, P10, P11, P12, P13, P14, L1, P15, N1, N2, N3, N4, N5, N6, N7, I1, I2, I3, I4, I5, I6, I7, reduceIte, reduceCtorEq, q2, l1, d, i0, i1, hwi]
            refine SemW_to (ih2 (i + 1) (v1 + 1) (a1.set i ((j + 1 : Nat) : Int)) (up _ (by simp [l1]) ?_ fun v hv => set_low hv) (by omega)) (by simp only [PWeak_nil, PWeak_junk, PWeak_same, Int.cast_ofNat_Int, List.length_append, List.length_cons, List.length_nil, Nat.zero_add]) (by simp only [← List.map_set])
            rw [set_at (by omega), e0, rkRow, if_pos q, if_pos q2]
          · simp only [PP, P1, P2, P3, P4, P5, P6, P7, P8, P9, P10, P11, P12, P13, P14, L1, P15, N1, N2, N3, N4, N5, N6, N7, I1, I2, I3, I4, I5, I6, I7, reduceIte, reduceCtorEq, q2, hwi]
            refine SemW_weak (ih2 (i + 1) v1 a1 (up a1 l1 ?_ fun v _ => rfl) (by omega)) (by simp only [PWeak_nil, PWeak_junk, PWeak_same, Int.cast_ofNat_Int, List.length_append, List.length_cons, List.length_nil, Nat.zero_add])
            rw [h3 i (Nat.le_refl _) hi, e0, rkRow, if_pos q, if_neg q2]
        · simp only [PP, P1, P2, P3, P4, P5, P6, P7, P8, P9, P10, P11, P12, P13, P14, L1, P15, N1, N2, N3, N4, N5, N6, N7, I1, I2, I3, I4, I5, I6, I7, reduceIte, reduceCtorEq, q, hwi]
          refine SemW_weak (ih2 (i + 1) v1 a1 (up a1 l1 ?_ fun v _ => rfl) (by omega)) (by simp only [PWeak_nil, PWeak_junk, PWeak_same, Int.cast_ofNat_Int, List.length_append, List.length_cons, List.length_nil, Nat.zero_add])
          rw [h3 i (Nat.le_refl _) hi, e0, rkRow, if_neg q]
      · have hin : i = ow.length := by omega
        subst hin
        have ha1 := tabL_of l1 h1
        subst ha1
        simp only [PP, P1, P2, P3, P4, P5, P6, P7, P8, P9, P10, P11, P12, P13, P14, L1, P15, N1, N2, N3, N4, N5, N6, N7, I1, I2, I3, I4, I5, I6, I7, reduceIte, reduceCtorEq, d, hwk]
        refine SemW_re (GStep.drop (b := [.junk, p8 side, .junk, .ptr 0 0 0, .junk, .junk, .junk, .junk, .junk, .junk, p64 ow.length, .ref 1 0 1 0 ow.length, .ref 2 0 1 0 ow.length, .junk, p64 ((j + 1 + 1 : Nat) : Int), .junk, .junk, .junk, .junk, .junk, .junk, .junk, .junk, .junk, .junk, .junk, .junk, .junk, .junk, .junk, .junk, .junk, .junk, .junk, .junk, .junk, .junk, .junk, .junk, .junk, .junk, .junk, .junk, .junk, .junk, .junk, .junk, .junk, .junk, .junk, .junk, .junk, .junk, .junk, .junk, .junk, .junk, .junk, .junk, .junk, .junk, .junk, .junk, .junk, .junk, .junk, .junk, .junk, .junk, .junk, .junk, .junk, .junk, .junk, .junk, .junk, .junk, .junk, .junk, .junk, .junk, .junk, .junk, .junk, .junk, .junk, .junk, .junk, .junk, .junk, .junk, .junk, .junk, .junk, .junk, .junk, .junk, .junk, .junk, .junk, .junk, .junk, .junk, .junk, .junk, .junk, .junk, .junk, .junk, .junk, .junk, .junk, .junk, .junk, .junk, .junk, .junk, .junk, .junk, .junk, .junk, .junk, .junk, .junk, .junk, .junk, .junk, .junk, .junk, .junk, .junk, .junk, .junk, .junk, .junk, .junk, .junk, .junk, .junk, .junk, .junk, .junk, .junk, .junk, .junk, .junk, .junk, .junk]) 3 (Nat.zero_le _) (by simp) (by simp only [PWeak_nil, PWeak_junk, PWeak_same, Int.cast_ofNat_Int, List.length_append, List.length_cons, List.length_nil, Nat.zero_add]) (by simp only [PP, P1, P2, P3, P4, P5, P6, P7, P8, P9, P10, P11, P12, P13, P14, L1, P15, N1, N2, N3, N4, N5, N6, N7, I1, I2, I3, I4, I5, I6, I7, reduceIte, reduceCtorEq]) (by simp only [PP, P1, P2, P3, P4, P5, P6, P7, P8, P9, P10, P11, P12, P13, P14, L1, P15, N1, N2, N3, N4, N5, N6, N7, I1, I2, I3, I4, I5, I6, I7, reduceIte, reduceCtorEq]) rfl) ?_
        refine SemW_to (ih (j + 1 + 1) v1 ⟨by omega, by omega⟩ (by omega)) (by simp only [PWeak_nil, PWeak_junk, PWeak_same, Int.cast_ofNat_Int, List.length_append, List.length_cons, List.length_nil, Nat.zero_add]) (by simp only [PP, P1, P2, P3, P4, P5, P6, P7, P8, P9, P10, P11, P12, P13, P14, L1, P15, N1, N2, N3, N4, N5, N6, N7, I1, I2, I3, I4, I5, I6, I7, reduceIte, reduceCtorEq, Nat.add_sub_cancel])
    · have hkn : k = ow.length + 1 := by omega
      subst hkn
      simp only [PP, P1, P2, P3, P4, P5, P6, P7, P8, P9, P10, P11, P12, P13, P14, L1, P15, N1, N2, N3, N4, N5, N6, N7, I1, I2, I3, I4, I5, I6, I7, reduceIte, reduceCtorEq, c2, Nat.add_sub_cancel]
      have eR : rk (Pf ow side) (Sf su) (Zf keep) ow.length = rkOf ow su side keep := rfl
      have hR : ∀ v, -1 ≤ rkOf ow su side keep v ∧ rkOf ow su side keep v ≤ ow.length := fun v => rk_range _ _
      have hj : ∀ v, v < ow.length → 0 < rkOf ow su side keep v → 0 < ow.length := fun v h _ => by omega
      rw [eR]
      generalize rkOf ow su side keep = R at hq hR hj
      refine loop3 (fun (v v2 : Nat) (a2 : List Int) => v ≤ ow.length ∧ a2.length = ow.length ∧ (∀ u, u < v → a2[u]? = some (stratOf ow su side R u)) ∧ ∀ u, v ≤ u → u < ow.length → a2[u]? = some (-1))
        (fun v v2 a2 => [.junk, p8 side, .junk, .ptr 0 0 0, .junk, .junk, .junk, .junk, .junk, .junk, p64 ow.length, .ref 1 0 1 0 ow.length, .ref 2 0 1 0 ow.length, .junk, .junk, .junk, .junk, p64 v, .junk, .junk, .junk, .junk, .junk, .junk, .junk, .junk, .junk, .junk, .junk, .junk, .junk, .junk, .junk, .junk, .junk, .junk, .junk, .junk, .junk, .junk, .junk, .junk, .junk, .junk, .junk, .junk, .junk, .junk, .junk, .junk, .junk, .junk, .junk, .junk, .junk, .junk, .junk, .junk, .junk, .junk, .junk, .junk, .junk, .junk, .junk, .junk, .junk, .junk, .junk, .junk, .junk, .junk, .junk, .junk, .junk, .junk, .junk, .junk, .junk, .junk, .junk, .junk, .junk, .junk, .junk, .junk, .junk, .junk, .junk, .junk, .junk, .junk, .junk, .junk, .junk, .junk, .junk, .junk, .junk, .junk, .junk, .junk, .junk, .junk, .junk, .junk, .junk, .junk, .junk, .junk, .junk, .junk, .junk, .junk, .junk, .junk, .junk, .junk, .junk, .junk, .junk, .junk, .junk, .junk, .junk, .junk, .junk, .junk, .junk, .junk, .junk, .junk, .junk, .junk, .junk, .junk, .junk, .junk, .junk, .junk, .junk, .junk, .junk, .junk, .junk, .junk, .junk, .junk])
        (fun v v2 a2 => [.cells 0 0 [slI f1 o1 .u8 ow, slI f2 o2 .i64 pr, slR f3 o3 f4 o4 .i64 su], .cells 0 v1 ((tabL ow.length R).map (PV.int .i64)), .cells 0 v2 (a2.map (PV.int .i64))])
        (fun v _ _ => ow.length - v) 0 v2 (tabL ow.length fun _ => -1) ⟨by omega, tabL_len _ _, by intro v h; omega, fun v _ h => tabL_get h⟩ (by simp only [PWeak_nil, PWeak_junk, PWeak_same, Int.cast_ofNat_Int, List.length_append, List.length_cons, List.length_nil, Nat.zero_add]) rfl ?_
      intro v v2 a2 ⟨hle, l2, h1, h2⟩ ih
      refine SemW_go (by kernel_rfl) ?_
      simp only [PP, P1, P2, P3, P4, P5, P6, P7, P8, P9, P10, P11, P12, P13, P14, L1, P15, N1, N2, N3, N4, N5, N6, N7, I1, I2, I3, I4, I5, I6, I7, reduceIte, reduceCtorEq]
      refine QIf.intro (fun d => ?_) (fun d => ?_)
      · have hv : v < ow.length := by omega
        have v0 : (0 : Int) ≤ v := by omega
        have hwv := wrap_succ (k := v) (by show _ < 1000000000000; omega)
        have g0 := tabL_get (R := R) hv
        have hv2 : (v : Int) < su.length := by omega
        obtain ⟨row, g1⟩ := some_of (xs := su) (k := v) (by omega)
        obtain ⟨o, g2⟩ := some_of (xs := ow) (k := v) (by omega)
        have hrb := B.r row (List.mem_of_getElem? g1)
        have hrb' : row.length < 1000000000000 := hrb
        have hrow : ∀ u ∈ row, 0 ≤ u ∧ u < ow.length := by
          have hi2 : v < su.length := by omega
          obtain ⟨_, _, _, _, q⟩ := V.row v hi2
          rw [List.getElem?_eq_getElem hi2] at g1
          cases g1
          intro u hu
          have := (posM_rise q).2 u hu
          omega
        have e2 : ow.getD v 0 = o := getD_some g2
        have e1 : su.getD v [] = row := by simp [List.getD, g1]
        have es : stratOf ow su side R v = if 0 < R v ∧ o = side then firstS R (R v - 1) row else -1 := by unfold stratOf; rw [e1, e2]
        have up : ∀ (b : List Int) (s : Int), b.length = ow.length → b[v]? = some s → s = stratOf ow su side R v → (∀ u, u ≠ v → b[u]? = a2[u]?) → (v + 1 ≤ ow.length ∧ b.length = ow.length ∧ (∀ u, u < v + 1 → b[u]? = some (stratOf ow su side R u)) ∧ ∀ u, v + 1 ≤ u → u < ow.length → b[u]? = some (-1)) := by
          intro b s hb1 hb2 hbs hb3
          refine ⟨by omega, hb1, fun u hu => ?_, fun u hu hu2 => ?_⟩
          · by_cases e : u = v
            · subst e; rw [hb2, hbs]
            · rw [hb3 u e]; exact h1 u (by omega)
          · rw [hb3 u (by omega)]; exact h2 u (by omega) hu2
        simp only [PP, P1, P2, P3, P4, P5, P6, P7, P8, P9, P10, P11, P12, P13, P14, L1, P15, N1, N2, N3, N4, N5, N6, N7, I1, I2, I3, I4, I5, I6, I7, reduceIte, reduceCtorEq, d]
        refine loop4 (fun (i v2 : Nat) (b : List Int) (s : Int) => i ≤ row.length ∧ b.length = ow.length ∧ b[v]? = some s ∧ (∀ u, u ≠ v → b[u]? = a2[u]?) ∧ -1 ≤ s ∧ (0 ≤ s → s = stratOf ow su side R v) ∧ (s < 0 → s = -1 ∧ (0 < R v → o = side → firstS R (R v - 1) (row.drop i) = stratOf ow su side R v)))
          (fun i v2 b s => [.junk, p8 side, .junk, .ptr 0 0 0, .junk, .junk, .junk, .junk, .junk, .junk, p64 ow.length, .ref 1 0 1 0 ow.length, .ref 2 0 1 0 ow.length, .junk, .junk, .junk, .junk, p64 v, p64 i, .junk, .junk, .junk, .junk, .junk, .junk, .junk, .junk, .junk, .junk, .junk, .junk, .junk, .junk, .junk, .junk, .junk, .junk, .junk, .junk, .junk, .junk, .junk, .junk, .junk, .junk, .junk, .junk, .junk, .junk, .junk, .junk, .junk, .junk, .junk, .junk, .junk, .junk, .junk, .junk, .junk, .junk, .junk, .junk, .junk, .junk, .junk, .junk, .junk, .junk, .junk, .junk, .junk, .junk, .junk, .junk, .junk, .junk, .junk, .junk, .junk, .junk, .junk, .junk, .junk, .junk, .junk, .junk, .junk, .junk, .junk, .junk, .junk, .junk, .junk, .junk, .junk, .junk, .junk, .junk, .junk, .junk, .junk, .junk, .junk, .junk, .junk, .junk, .junk, .junk, .junk, .junk, .junk, .junk, .junk, .junk, .junk, .junk, .junk, .junk, .junk, .junk, .junk, .junk, .junk, .junk, .junk, .junk, .junk, .junk, .junk, .junk, .junk, .junk, .junk, .junk, .junk, .junk, .junk, .junk, .junk, .junk, .junk, .junk, .junk, .junk, .junk, .junk, .junk])
          (fun i v2 b s => [.cells 0 0 [slI f1 o1 .u8 ow, slI f2 o2 .i64 pr, slR f3 o3 f4 o4 .i64 su], .cells 0 v1 ((tabL ow.length R).map (PV.int .i64)), .cells 0 v2 (b.map (PV.int .i64))])
          (fun i _ _ _ => row.length - i) 0 v2 a2 (-1) ⟨by omega, l2, h2 v (Nat.le_refl _) hv, fun _ _ => rfl, by omega, by intro h; omega, fun _ => ⟨rfl, fun q1 q2 => by rw [es, if_pos ⟨q1, q2⟩, List.drop_zero]⟩⟩ (by simp only [PWeak_nil, PWeak_junk, PWeak_same, Int.cast_ofNat_Int, List.length_append, List.length_cons, List.length_nil, Nat.zero_add]) rfl ?_
        intro i v2 b s ⟨hile, hb1, hb2, hb3, hs1, hs2, hs3⟩ ih2
        refine SemW_go (by kernel_rfl) ?_
        simp only [PP, P1, P2, P3, P4, P5, P6, P7, P8, P9, P10, P11, P12, P13, P14, L1, P15, N1, N2, N3, N4, N5, N6, N7, I1, I2, I3, I4, I5, I6, I7, reduceIte, reduceCtorEq, g1, v0, hv2]
        refine QIf.intro (fun c1 => ?_) (fun c1 => ?_)
        · have hi : i < row.length := by omega
          simp only [PP, P1, P2, P3, P4, P5, P6, P7, P8, P9, P10, P11, P12, P13, P14, L1, P15, N1, N2, N3, N4, N5, N6, N7, I1, I2, I3, I4, I5, I6, I7, reduceIte, reduceCtorEq, c1, g0, v0, tabL_len, d]
          refine QIf.intro (fun c2 => ?_) (fun c2 => ?_)
          · simp only [PP, P1, P2, P3, P4, P5, P6, P7, P8, P9, P10, P11, P12, P13, P14, L1, P15, N1, N2, N3, N4, N5, N6, N7, I1, I2, I3, I4, I5, I6, I7, reduceIte, reduceCtorEq, c2, g2, v0, d]
            refine QIf.intro (fun c3 => ?_) (fun c3 => ?_)
            · simp only [PP, P1, P2, P3, P4, P5, P6, P7, P8, P9, P10, P11, P12, P13, P14, L1, P15, N1, N2, N3, N4, N5, N6, N7, I1, I2, I3, I4, I5, I6, I7, reduceIte, reduceCtorEq, c3, v0, hb1, hb2, d]
              refine QIf.intro (fun c4 => ?_) (fun c4 => ?_)
              · have i0 : (0 : Int) ≤ i := by omega
                have hwi := wrap_succ (k := i) (by show _ < 1000000000000; omega)
                obtain ⟨u, e3⟩ := some_of hi
                obtain ⟨u0, u1⟩ := hrow u (List.mem_of_getElem? e3)
                have g4 := tabL_get (n := ow.length) (R := R) (v := u.toNat) (by omega)
                simp only [PP, P1, P2, P3, P4, P5, P6, P7, P8, P9, P10, P11, P12, P13, P14, L1, P15, N1, N2, N3, N4, N5, N6, N7, I1, I2, I3, I4, I5, I6, I7, reduceIte, reduceCtorEq, c4, g1, v0, hv2, e3, i0, c1, u0, u1, g4, g0, tabL_len, d]
                have w1 : IntKind.i64.wrap (R v - 1) = R v - 1 := by have := hR v; exact wrap64 (by omega) (by omega)
                have v1' : v + 1 ≤ ow.length := hv
                obtain ⟨hs4, hs5⟩ := hs3 c4
                have hs5 := hs5 c2 c3
                rw [drop_some e3] at hs5
                unfold firstS at hs5
                simp only [w1]
                refine QIf.intro (fun c5 => ?_) (fun c5 => ?_)
                · rw [if_pos c5] at hs5
                  simp only [PP, P1, P2, P3, P4, P5, P6, P7, P8, P9, P10, P11, P12, P13, P14, L1, P15, N1, N2, N3, N4, N5, N6, N7, I1, I2, I3, I4, I5, I6, I7, reduceIte, reduceCtorEq, c5, g1, v0, hv2, e3, i0, c1, v1', hb1, hwi, d]
                  refine SemW_to (ih2 (i + 1) (v2 + 1) (b.set v u) u ⟨by omega, by simp [hb1], set_at (by omega), fun x hx => by rw [set_low hx]; exact hb3 x hx, by omega, fun _ => hs5, by intro h; omega⟩ (by omega)) (by simp only [PWeak_nil, PWeak_junk, PWeak_same, Int.cast_ofNat_Int, List.length_append, List.length_cons, List.length_nil, Nat.zero_add]) (by simp only [← List.map_set])
                · rw [if_neg c5] at hs5
                  simp only [PP, P1, P2, P3, P4, P5, P6, P7, P8, P9, P10, P11, P12, P13, P14, L1, P15, N1, N2, N3, N4, N5, N6, N7, I1, I2, I3, I4, I5, I6, I7, reduceIte, reduceCtorEq, c5, hwi]
                  exact SemW_weak (ih2 (i + 1) v2 b s ⟨by omega, hb1, hb2, hb3, hs1, hs2, fun _ => ⟨hs4, fun _ _ => hs5⟩⟩ (by omega)) (by simp only [PWeak_nil, PWeak_junk, PWeak_same, Int.cast_ofNat_Int, List.length_append, List.length_cons, List.length_nil, Nat.zero_add])
              · simp only [PP, P1, P2, P3, P4, P5, P6, P7, P8, P9, P10, P11, P12, P13, P14, L1, P15, N1, N2, N3, N4, N5, N6, N7, I1, I2, I3, I4, I5, I6, I7, reduceIte, reduceCtorEq, c4, hwv]
                exact SemW_weak (ih (v + 1) v2 b (up b s hb1 hb2 (hs2 (by omega)) hb3) (by omega)) (by simp only [PWeak_nil, PWeak_junk, PWeak_same, Int.cast_ofNat_Int, List.length_append, List.length_cons, List.length_nil, Nat.zero_add])
            · simp only [PP, P1, P2, P3, P4, P5, P6, P7, P8, P9, P10, P11, P12, P13, P14, L1, P15, N1, N2, N3, N4, N5, N6, N7, I1, I2, I3, I4, I5, I6, I7, reduceIte, reduceCtorEq, c3, hwv]
              refine SemW_weak (ih (v + 1) v2 b (up b s hb1 hb2 ?_ hb3) (by omega)) (by simp only [PWeak_nil, PWeak_junk, PWeak_same, Int.cast_ofNat_Int, List.length_append, List.length_cons, List.length_nil, Nat.zero_add])
              rcases ilt_or_ge s 0 with q | q
              · rw [es, if_neg (fun h => c3 h.2)]; exact (hs3 q).1
              · exact hs2 q
          · simp only [PP, P1, P2, P3, P4, P5, P6, P7, P8, P9, P10, P11, P12, P13, P14, L1, P15, N1, N2, N3, N4, N5, N6, N7, I1, I2, I3, I4, I5, I6, I7, reduceIte, reduceCtorEq, c2, hwv]
            refine SemW_weak (ih (v + 1) v2 b (up b s hb1 hb2 ?_ hb3) (by omega)) (by simp only [PWeak_nil, PWeak_junk, PWeak_same, Int.cast_ofNat_Int, List.length_append, List.length_cons, List.length_nil, Nat.zero_add])
            rcases ilt_or_ge s 0 with q | q
            · rw [es, if_neg (fun h => c2 h.1)]; exact (hs3 q).1
            · exact hs2 q
        · simp only [PP, P1, P2, P3, P4, P5, P6, P7, P8, P9, P10, P11, P12, P13, P14, L1, P15, N1, N2, N3, N4, N5, N6, N7, I1, I2, I3, I4, I5, I6, I7, reduceIte, reduceCtorEq, c1, hwv]
          refine SemW_weak (ih (v + 1) v2 b (up b s hb1 hb2 ?_ hb3) (by omega)) (by simp only [PWeak_nil, PWeak_junk, PWeak_same, Int.cast_ofNat_Int, List.length_append, List.length_cons, List.length_nil, Nat.zero_add])
          rcases ilt_or_ge s 0 with q | q
          · obtain ⟨q1, q2⟩ := hs3 q
            rw [List.drop_eq_nil_of_le (by omega)] at q2
            by_cases q3 : 0 < R v ∧ o = side
            · rw [q1]; exact q2 q3.1 q3.2
            · rw [es, if_neg q3, q1]
          · exact hs2 q
      · have hvn : v = ow.length := by omega
        subst hvn
        have ha2 := tabL_of l2 h1
        subst ha2
        simp only [PP, P1, P2, P3, P4, P5, P6, P7, P8, P9, P10, P11, P12, P13, P14, L1, P15, N1, N2, N3, N4, N5, N6, N7, I1, I2, I3, I4, I5, I6, I7, reduceIte, reduceCtorEq, d, frz_tab]
        exact ⟨_, PvWk.refl _, hq⟩
end
end Go.Am.Ar

set_option linter.unusedVariables false
set_option linter.unusedSimpArgs false
set_option maxRecDepth 10000
namespace Go.Am.Ar
open Go.Am renaming pchk → P1, pold → P2, PKNo → P3, ppack → P4, PObj.under → P5, pput → P6, ptset → P7, ptget → P8, pev → P9, ofAV → P10, ofAV1 → P11, ppad → P12, pfill → P13, prepl → P14, AO.effect → P15
open List renaming replicate → L1
open Nat renaming reduceAdd → N1, reduceSub → N2, reduceMul → N3, reduceLT → N4, reduceLeDiff → N5, reduceEqDiff → N6, reduceBEq → N7
open Int renaming reduceToNat → I1, reduceLT → I2, reduceLE → I3, reduceEq → I4, reduceAdd → I5, reduceSub → I6, reduceNeg → I7

/-- Those below k that u follows. -/
def predN (su : List (List Int)) (k u : Nat) : List Nat := (List.range k).filter fun v => decide ((u : Int) ∈ su.getD v [])
def predI (su : List (List Int)) (k u : Nat) : List Int := (predN su k u).map fun v => ((v : Nat) : Int)
theorem predI_len (su : List (List Int)) (k u : Nat) : (predI su k u).length ≤ k := by
  unfold predI predN
  rw [List.length_map]
  exact Nat.le_trans (List.length_filter_le _ _) (by simp)
theorem predI_succ (su : List (List Int)) (k u : Nat) : predI su (k + 1) u = predI su k u ++ if (u : Int) ∈ su.getD k [] then [(k : Int)] else [] := by
  unfold predI predN
  rw [List.range_succ, List.filter_append, List.map_append]
  congr 1
  by_cases h : (u : Int) ∈ su.getD k []
  · rw [List.filter_cons, if_pos (by simpa using h), if_pos h]; rfl
  · rw [List.filter_cons, if_neg (by simpa using h), if_neg h]; rfl

section
variable {tab : FuncId → Option AF} (T : HasA tab)
include T

theorem predecessors_p {K : PV → Mem → Prop} {o0 o1 o2 o3 o4 o5 o6 o7 o8 : PObj} {f1 p1 f2 p2 f3 p3 f4 p4 : Bool} {ow pr : List Int} {su : List (List Int)} (V : Valid ow pr su) (B : Bnd ow pr su)
    (hu : [o0, o1, o2, o3, o4, o5, o6, o7, o8].all (cutOk 12) = true)
    (hk : ∀ ver, K (.func (.func 55) [] [.ptr 11 0 0]) [o0, o1, o2, o3, o4, o5, o6, o7, o8, .cells 0 0 [slI f1 p1 .u8 ow, slI f2 p2 .i64 pr, slR f3 p3 f4 p4 .i64 su], .cells 0 ver (tabA ow.length fun u => slI false true .i64 (predI su ow.length u)), .cells 0 1 [.ref 10 0 1 0 ow.length]]) :
    SemC tab 37 [gmP f1 p1 f2 p2 f3 p3 f4 p4 ow pr su] [o0, o1, o2, o3, o4, o5, o6, o7, o8] K := by
  refine SemC_gh ?_
  refine SemC_fn T.h37 ?_
  have hs := V.s
  have n1 := V.n1
  have b1 : (ow.length : Int) * 24 ≤ 140737488355328 := by omega
  have b2 : (ow.length : Int) ≤ 9223372036854775807 := by omega
  have b0 : (0 : Int) ≤ ow.length := by omega
  simp only [af37, PP, P1, P2, P3, P4, P5, P6, P7, P8, P9, P10, P11, P12, P13, P14, L1, P15, N1, N2, N3, N4, N5, N6, N7, I1, I2, I3, I4, I5, I6, I7, reduceIte, reduceCtorEq, b0, b1, b2, Int.le_refl]
  rw [tabA_rep]
  refine SemW_re (GStep.nilbox_all 10 1 ow.length rfl) ?_
  simp only [List.set_cons_zero, List.set_cons_succ, List.cons_append, List.nil_append, List.length_cons, List.length_nil, Nat.reduceAdd]
  refine loop4 (fun (v ver : Nat) (gs : Nat → Nat) (rs : Nat → List Int) => v ≤ su.length ∧ ∀ u, u < ow.length → rs u = predI su v u)
    (fun v ver gs rs => [.junk, .junk, .junk, .ptr 11 0 0, .junk, .junk, .junk, .junk, .junk, .junk, .junk, .junk, .junk, slR f3 p3 f4 p4 .i64 su, p64 su.length, p64 v, .junk, .junk, .junk, .junk, .junk, .junk, .junk, .junk, .junk, .junk, .junk, .junk, .junk, .junk, .junk, .junk, .junk, .junk, .junk, .junk, .junk, .junk, .junk])
    (fun v ver gs rs => o0 :: o1 :: o2 :: o3 :: o4 :: o5 :: o6 :: o7 :: o8 :: .cells 0 0 [slI f1 p1 .u8 ow, slI f2 p2 .i64 pr, slR f3 p3 f4 p4 .i64 su] :: .cells 0 ver (tabA ow.length fun u => .ref (u + 12) (gs u) 1 0 (rs u).length) :: .cells 0 1 [.ref 10 0 1 0 ow.length] :: tabA ow.length fun u => .cells (gs u) 0 ((rs u).map (PV.int .i64)))
    (fun v _ _ _ => su.length - v) 0 0 (fun _ => 0) (fun _ => []) ⟨by omega, fun u _ => rfl⟩ (by simp only [PWeak_nil, PWeak_junk, PWeak_same, Int.cast_ofNat_Int, List.length_append, List.length_cons, List.length_nil, Nat.zero_add]) rfl ?_
  intro v ver gs rs ⟨hle, hrs⟩ ih
  refine SemW_go (by kernel_rfl) ?_
  simp only [PP, P1, P2, P3, P4, P5, P6, P7, P8, P9, P10, P11, P12, P13, P14, L1, P15, N1, N2, N3, N4, N5, N6, N7, I1, I2, I3, I4, I5, I6, I7, reduceIte, reduceCtorEq]
  refine QIf.intro (fun c => ?_) (fun c => ?_)
  · have hv : v < su.length := by omega
    have v0 : (0 : Int) ≤ v := by omega
    have hwv := wrap_succ (k := v) (by show _ < 1000000000000; omega)
    obtain ⟨row, g1⟩ := some_of hv
    have e1 : su.getD v [] = row := by simp [List.getD, g1]
    have hrow : row.Pairwise (· < ·) ∧ ∀ u ∈ row, 0 ≤ u ∧ u < ow.length := by
      obtain ⟨_, _, _, _, q⟩ := V.row v hv
      rw [List.getElem?_eq_getElem hv] at g1
      cases g1
      obtain ⟨q1, q2⟩ := posM_rise q
      exact ⟨q1, fun u hu => by have := q2 u hu; omega⟩
    simp only [PP, P1, P2, P3, P4, P5, P6, P7, P8, P9, P10, P11, P12, P13, P14, L1, P15, N1, N2, N3, N4, N5, N6, N7, I1, I2, I3, I4, I5, I6, I7, reduceIte, reduceCtorEq, c, v0, g1]
    refine loop4 (fun (j ver : Nat) (gs : Nat → Nat) (rs : Nat → List Int) => j ≤ row.length ∧ ∀ u, u < ow.length → rs u = predI su v u ++ if (u : Int) ∈ row.take j then [(v : Int)] else [])
      (fun j ver gs rs => [.junk, .junk, .junk, .ptr 11 0 0, p64 v, .junk, .junk, .junk, .junk, .junk, .junk, .junk, .junk, slR f3 p3 f4 p4 .i64 su, p64 su.length, p64 v, .junk, .junk, .junk, .junk, slI f4 p4 .i64 row, p64 row.length, p64 j, .junk, .junk, .junk, .junk, .junk, .junk, .junk, .junk, .junk, .junk, .junk, .junk, .junk, .junk, .junk, .junk])
      (fun j ver gs rs => o0 :: o1 :: o2 :: o3 :: o4 :: o5 :: o6 :: o7 :: o8 :: .cells 0 0 [slI f1 p1 .u8 ow, slI f2 p2 .i64 pr, slR f3 p3 f4 p4 .i64 su] :: .cells 0 ver (tabA ow.length fun u => .ref (u + 12) (gs u) 1 0 (rs u).length) :: .cells 0 1 [.ref 10 0 1 0 ow.length] :: tabA ow.length fun u => .cells (gs u) 0 ((rs u).map (PV.int .i64)))
      (fun j _ _ _ => row.length - j) 0 ver gs rs ⟨by omega, fun u hu => by rw [hrs u hu]; simp⟩ (by simp only [PWeak_nil, PWeak_junk, PWeak_same, Int.cast_ofNat_Int, List.length_append, List.length_cons, List.length_nil, Nat.zero_add]) rfl ?_
    intro j ver gs rs ⟨hjle, hrs⟩ ih2
    refine SemW_go (by kernel_rfl) ?_
    simp only [PP, P1, P2, P3, P4, P5, P6, P7, P8, P9, P10, P11, P12, P13, P14, L1, P15, N1, N2, N3, N4, N5, N6, N7, I1, I2, I3, I4, I5, I6, I7, reduceIte, reduceCtorEq]
    refine QIf.intro (fun d => ?_) (fun d => ?_)
    · have hj : j < row.length := by omega
      have j0 : (0 : Int) ≤ j := by omega
      have hrl : row.length < 1000000000000 := B.r row (List.mem_of_getElem? g1)
      have hwj := wrap_succ (k := j) (by show _ < 1000000000000; omega)
      obtain ⟨u, e3⟩ := some_of hj
      obtain ⟨u0, u1⟩ := hrow.2 u (List.mem_of_getElem? e3)
      have hun : u.toNat < ow.length := by omega
      have g4 := tabA_get (f := fun u => PV.ref (u + 12) (gs u) 1 0 (rs u).length) hun
      have g5 := tabA_get (f := fun u => PObj.cells (gs u) 0 ((rs u).map (PV.int .i64))) hun
      have hlen : (rs u.toNat).length ≤ 5000 := by
        rw [hrs _ hun]
        have := predI_len su v u.toNat
        rw [List.length_append]
        split <;> simp <;> omega
      have b3 : ((rs u.toNat).length + 1) * 8 ≤ 140737488355328 := by omega
      have b4 : (rs u.toNat).length + 1 ≤ 9223372036854775807 := by omega
      have hne : (u.toNat + 12 == 11) = false := beq_eq_false_iff_ne.2 (by omega)
      have un : u.toNat + 1 ≤ ow.length := hun
      simp only [PP, P1, P2, P3, P4, P5, P6, P7, P8, P9, P10, P11, P12, P13, P14, L1, P15, N1, N2, N3, N4, N5, N6, N7, I1, I2, I3, I4, I5, I6, I7, reduceIte, reduceCtorEq, d, e3, j0, u0, u1, g4, g5, b3, b4, tabA_len, un, psub_zero, tabA_set _ hun, hne]
      have h1 : (tabA ow.length fun w => if w = u.toNat then PV.ref (u.toNat + 12) (gs u.toNat + 1) 1 0 ((rs u.toNat).length + 1) else .ref (w + 12) (gs w) 1 0 (rs w).length) = tabA ow.length fun w => .ref (w + 12) (if w = u.toNat then gs u.toNat + 1 else gs w) 1 0 (if w = u.toNat then rs u.toNat ++ [(v : Int)] else rs w).length := tabA_congr fun w _ => by
        by_cases e : w = u.toNat
        · subst e; simp only [if_true, List.length_append, List.length_cons, List.length_nil, Nat.zero_add]
        · simp only [e, if_false]
      have h2 : (tabA ow.length fun w => if w = u.toNat then PObj.cells (gs u.toNat + 1) 0 (List.map (PV.int .i64) (rs u.toNat) ++ [PV.int .i64 (v : Int)]) else .cells (gs w) 0 (List.map (PV.int .i64) (rs w))) = tabA ow.length fun w => .cells (if w = u.toNat then gs u.toNat + 1 else gs w) 0 ((if w = u.toNat then rs u.toNat ++ [(v : Int)] else rs w).map (PV.int .i64)) := tabA_congr fun w _ => by
        by_cases e : w = u.toNat
        · subst e; simp only [if_true, List.map_append, List.map_cons, List.map_nil]
        · simp only [e, if_false]
      rw [h1, h2]
      simp only [hwj]
      refine SemW_to (ih2 (j + 1) (ver + 1) (fun w => if w = u.toNat then gs u.toNat + 1 else gs w) (fun w => if w = u.toNat then rs u.toNat ++ [(v : Int)] else rs w) ⟨by omega, fun w hw => ?_⟩ (by omega)) (by simp only [PWeak_nil, PWeak_junk, PWeak_same, Int.cast_ofNat_Int, List.length_append, List.length_cons, List.length_nil, Nat.zero_add]) rfl
      rw [take_some e3]
      by_cases e : w = u.toNat
      · subst e
        have hnot : ¬ (u.toNat : Int) ∈ row.take j := by
          intro hm
          obtain ⟨i, hi, he⟩ := List.mem_iff_getElem.1 hm
          have hi2 : i < j := by simp at hi; omega
          have := rise_get hrow.1 (i := i) (j := j) (x := (u.toNat : Int)) (y := u) (by rw [← he, List.getElem_take]; exact List.getElem?_eq_getElem _) e3 hi2
          omega
        rw [if_pos rfl, hrs _ hun, if_neg hnot, List.append_nil, if_pos (List.mem_append_right _ (by simp; omega))]
      · rw [if_neg e, hrs w hw]
        have hiff : (w : Int) ∈ row.take j ++ [u] ↔ (w : Int) ∈ row.take j := by
          rw [List.mem_append, List.mem_singleton]
          exact ⟨fun h => h.elim id fun q => absurd (by omega) e, .inl⟩
        simp only [hiff]
    · simp only [PP, P1, P2, P3, P4, P5, P6, P7, P8, P9, P10, P11, P12, P13, P14, L1, P15, N1, N2, N3, N4, N5, N6, N7, I1, I2, I3, I4, I5, I6, I7, reduceIte, reduceCtorEq, d, hwv]
      refine SemW_to (ih (v + 1) ver gs rs ⟨by omega, fun u hu => ?_⟩ (by omega)) (by simp only [PWeak_nil, PWeak_junk, PWeak_same, Int.cast_ofNat_Int, List.length_append, List.length_cons, List.length_nil, Nat.zero_add]) rfl
      rw [hrs u hu, predI_succ, e1, List.take_of_length_le (by omega)]
  · have hvn : v = ow.length := by omega
    subst hvn
    simp only [PP, P1, P2, P3, P4, P5, P6, P7, P8, P9, P10, P11, P12, P13, P14, L1, P15, N1, N2, N3, N4, N5, N6, N7, I1, I2, I3, I4, I5, I6, I7, reduceIte, reduceCtorEq, c]
    refine Gh.step (GStep.cutF (b := [.func (.func 55) [] [.ptr 11 0 0]]) 12 (by omega) (by simp) (PWeak.refl _) rfl ?_) (Gh.same ⟨_, rfl, hk ver⟩)
    simp only [List.take_succ_cons, List.take_zero]
    refine pfrzM_ok (l := [o0, o1, o2, o3, o4, o5, o6, o7, o8]) hu ?_
    refine pfrzM_cons (pfrzO_ok ?_) (pfrzM_cons ?_ (pfrzM_cons (pfrzO_ok ?_) rfl))
    · simp only [cutOk, PP, P1, P2, P3, P4, P5, P6, P7, P8, P9, P10, P11, P12, P13, P14, L1, P15, N1, N2, N3, N4, N5, N6, N7, I1, I2, I3, I4, I5, I6, I7, reduceIte, reduceCtorEq]
    · simp only [pfrzO]
      rw [pfrzL_all (r := tabA ow.length fun u => slI false true .i64 (predI su ow.length u)) (by simp only [tabA_len]) (fun i x y q1 q2 => ?_)]
      · rfl
      · have hi : i < ow.length := by have := getSome_lt q1; rwa [tabA_len] at this
        rw [tabA_get hi] at q1 q2
        cases q1; cases q2
        rw [pfrz1_ref' (by omega) (by
          simp only [List.getElem?_cons_succ]
          exact tabA_get hi) (by rw [List.length_map]; omega) (underL_ints _ _ _), Nat.mul_one, ← hrs i hi, psub_all _ _ (by rw [List.length_map])]
    · simp only [cutOk, PP, P1, P2, P3, P4, P5, P6, P7, P8, P9, P10, P11, P12, P13, P14, L1, P15, N1, N2, N3, N4, N5, N6, N7, I1, I2, I3, I4, I5, I6, I7, reduceIte, reduceCtorEq]
end
end Go.Am.Ar

set_option linter.unusedVariables false
set_option linter.unusedSimpArgs false
set_option maxRecDepth 10000
namespace Go.Am.Ar
open Go.Am renaming pchk → P1, pold → P2, PKNo → P3, ppack → P4, PObj.under → P5, pput → P6, ptset → P7, ptget → P8, pev → P9, ofAV → P10, ofAV1 → P11, ppad → P12, pfill → P13, prepl → P14, AO.effect → P15
open List renaming replicate → L1
open Nat renaming reduceAdd → N1, reduceSub → N2, reduceMul → N3, reduceLT → N4, reduceLeDiff → N5, reduceEqDiff → N6, reduceBEq → N7
open Int renaming reduceToNat → I1, reduceLT → I2, reduceLE → I3, reduceEq → I4, reduceAdd → I5, reduceSub → I6, reduceNeg → I7

theorem QCall_yld {tab : FuncId → Option AF} (id : Nat) (first args : List PV) (M : Mem) (K : PV → Mem → Prop) : QCall tab (.yld id first) args M K = ((∃ ver r, M[id]? = some (.loop ver r)) ∧ SemY tab id (first ++ args) M K) := rfl

/-- The first place from k on where p holds, or -1. -/
def idxFrom (p : Int → Bool) : Nat → List Int → Int
  | _, [] => -1
  | k, x :: l => if p x = true then k else idxFrom p (k + 1) l
theorem idx_first {R : Nat → Int} {r : Int} : ∀ {row : List Int} {j : Nat}, (∃ u ∈ row, R u.toNat = r) → ∃ i u, idxFrom (fun u => decide (R u.toNat = r)) j row = ((j + i : Nat) : Int) ∧ row[i]? = some u ∧ firstS R r row = u
  | [], j, h => by obtain ⟨u, hu, _⟩ := h; cases hu
  | x :: l, j, h => by
    by_cases e : R x.toNat = r
    · exact ⟨0, x, by unfold idxFrom; rw [if_pos (by simpa using e)]; rfl, rfl, by unfold firstS; rw [if_pos e]⟩
    · obtain ⟨u, hu, q⟩ := h
      rcases List.mem_cons.1 hu with rfl | hu
      · exact absurd q e
      · obtain ⟨i, w, h1, h2, h3⟩ := idx_first (row := l) (j := j + 1) ⟨u, hu, q⟩
        exact ⟨i + 1, w, by unfold idxFrom; rw [if_neg (by simpa using e), h1]; congr 1; omega, h2, by unfold firstS; rw [if_neg e]; exact h3⟩
section
variable {tab : FuncId → Option AF} (T : HasA tab)
include T

theorem values_p {M : Mem} {K : PV → Mem → Prop} {L id : Nat} {f o : Bool} {row : List Int} (J : Nat → Mem → Prop) (hb : row.length < big) (h0 : J 0 M)
    (hid : ∀ k N, J k N → N[id]? = some (.cells 0 0 [slI f o .i64 row]) ∧ ∃ ver r, N[L]? = some (.loop ver r))
    (hy : ∀ k N x, J k N → row[k]? = some x → ∀ K' : PV → Mem → Prop, (∀ N', J (k + 1) N' → K' (.bool true) N') → SemY tab L [p64 x] N K')
    (hk : ∀ N, J row.length N → K (.tuple []) N) :
    SemC tab 62 [.yld L [], .ptr id 0 0] M K := by
  refine SemC_fn T.h62 ?_
  obtain ⟨q1, _⟩ := hid 0 M h0
  simp only [af62, PP, P1, P2, P3, P4, P5, P6, P7, P8, P9, P10, P11, P12, P13, P14, L1, P15, N1, N2, N3, N4, N5, N6, N7, I1, I2, I3, I4, I5, I6, I7, reduceIte, reduceCtorEq, q1]
  refine loop2 (fun (k : Nat) (N : Mem) => k ≤ row.length ∧ J k N) (fun k N => [.yld L [], .junk, .junk, .junk, .junk, slI f o .i64 row, p64 row.length, p64 k, .junk, .junk, .junk, .junk, .junk, .junk, .junk, .junk]) (fun k N => N) (fun k N => row.length - k) 0 M ⟨by omega, h0⟩ (by simp only [PWeak_nil, PWeak_junk, PWeak_same, Int.cast_ofNat_Int, List.length_append, List.length_cons, List.length_nil, Nat.zero_add]) rfl ?_
  intro k N ⟨hle, hJ⟩ ih
  refine SemW_go (by kernel_rfl) ?_
  simp only [PP, P1, P2, P3, P4, P5, P6, P7, P8, P9, P10, P11, P12, P13, P14, L1, P15, N1, N2, N3, N4, N5, N6, N7, I1, I2, I3, I4, I5, I6, I7, reduceIte, reduceCtorEq]
  refine QIf.intro (fun c => ?_) (fun c => ?_)
  · have hk' : k < row.length := by omega
    have h0 : (0 : Int) ≤ k := by omega
    have hw := wrap_succ (k := k) (by show _ < 1000000000000; have : row.length < 1000000000000 := hb; omega)
    obtain ⟨x, e⟩ := some_of hk'
    simp only [PP, P1, P2, P3, P4, P5, P6, P7, P8, P9, P10, P11, P12, P13, P14, L1, P15, N1, N2, N3, N4, N5, N6, N7, I1, I2, I3, I4, I5, I6, I7, reduceIte, reduceCtorEq, c, h0, e, QCall_yld]
    refine ⟨(hid k N hJ).2, hy k N x hJ e _ fun N' hN' => ?_⟩
    simp only [PP, P1, P2, P3, P4, P5, P6, P7, P8, P9, P10, P11, P12, P13, P14, L1, P15, N1, N2, N3, N4, N5, N6, N7, I1, I2, I3, I4, I5, I6, I7, reduceIte, reduceCtorEq, hw]
    exact SemW_weak (ih (k + 1) N' ⟨by omega, hN'⟩ (by omega)) (by simp only [PWeak_nil, PWeak_junk, PWeak_same, Int.cast_ofNat_Int, List.length_append, List.length_cons, List.length_nil, Nat.zero_add])
  · have : k = row.length := by omega
    subst this
    simp only [PP, P1, P2, P3, P4, P5, P6, P7, P8, P9, P10, P11, P12, P13, P14, L1, P15, N1, N2, N3, N4, N5, N6, N7, I1, I2, I3, I4, I5, I6, I7, reduceIte, reduceCtorEq, c]
    exact hk N hJ

theorem indexFunc_p {M : Mem} {K : PV → Mem → Prop} {f o : Bool} {row : List Int} {fn : FuncId} {cap : List PV} (p : Int → Bool) (hb : row.length < big)
    (hf : ∀ x ∈ row, ∀ K' : PV → Mem → Prop, K' (.bool (p x)) M → SemC tab fn (p64 x :: cap) M K') (hk : K (p64 (idxFrom p 0 row)) M) :
    SemC tab 38 [slI f o .i64 row, .func (.func fn) [] cap] M K := by
  refine SemC_fn T.h38 ?_
  simp only [af38, PP, P1, P2, P3, P4, P5, P6, P7, P8, P9, P10, P11, P12, P13, P14, L1, P15, N1, N2, N3, N4, N5, N6, N7, I1, I2, I3, I4, I5, I6, I7, reduceIte, reduceCtorEq]
  refine loop1 (fun (k : Nat) => k ≤ row.length ∧ K (p64 (idxFrom p k (row.drop k))) M) (fun k => [slI f o .i64 row, .func (.func fn) [] cap, .junk, .junk, .junk, .junk, .junk, p64 row.length, p64 k, .junk, .junk, .junk, .junk, .junk, .junk, .junk, .junk, .junk, .junk]) (fun k => M) (fun k => row.length - k) 0 ⟨by omega, hk⟩ (by simp only [PWeak_nil, PWeak_junk, PWeak_same, Int.cast_ofNat_Int, List.length_append, List.length_cons, List.length_nil, Nat.zero_add]) rfl ?_
  intro k ⟨hle, hq⟩ ih
  refine SemW_go (by kernel_rfl) ?_
  simp only [PP, P1, P2, P3, P4, P5, P6, P7, P8, P9, P10, P11, P12, P13, P14, L1, P15, N1, N2, N3, N4, N5, N6, N7, I1, I2, I3, I4, I5, I6, I7, reduceIte, reduceCtorEq]
  refine QIf.intro (fun c => ?_) (fun c => ?_)
  · have hk' : k < row.length := by omega
    have h0 : (0 : Int) ≤ k := by omega
    have hw := wrap_succ (k := k) (by show _ < 1000000000000; have : row.length < 1000000000000 := hb; omega)
    obtain ⟨x, e⟩ := some_of hk'
    rw [drop_some e] at hq
    unfold idxFrom at hq
    simp only [PP, P1, P2, P3, P4, P5, P6, P7, P8, P9, P10, P11, P12, P13, P14, L1, P15, N1, N2, N3, N4, N5, N6, N7, I1, I2, I3, I4, I5, I6, I7, reduceIte, reduceCtorEq, c, h0, e]
    refine hf x (List.mem_of_getElem? e) _ ?_
    cases hp : p x with
    | true =>
      rw [if_pos hp] at hq
      simp only [PP, P1, P2, P3, P4, P5, P6, P7, P8, P9, P10, P11, P12, P13, P14, L1, P15, N1, N2, N3, N4, N5, N6, N7, I1, I2, I3, I4, I5, I6, I7, reduceIte, reduceCtorEq]
      exact hq
    | false =>
      rw [if_neg (by rw [hp]; exact Bool.false_ne_true)] at hq
      simp only [PP, P1, P2, P3, P4, P5, P6, P7, P8, P9, P10, P11, P12, P13, P14, L1, P15, N1, N2, N3, N4, N5, N6, N7, I1, I2, I3, I4, I5, I6, I7, reduceIte, reduceCtorEq, hw]
      exact SemW_weak (ih (k + 1) ⟨by omega, hq⟩ (by omega)) (by simp only [PWeak_nil, PWeak_junk, PWeak_same, Int.cast_ofNat_Int, List.length_append, List.length_cons, List.length_nil, Nat.zero_add])
  · rw [List.drop_eq_nil_of_le (by omega)] at hq
    unfold idxFrom at hq
    simp only [PP, P1, P2, P3, P4, P5, P6, P7, P8, P9, P10, P11, P12, P13, P14, L1, P15, N1, N2, N3, N4, N5, N6, N7, I1, I2, I3, I4, I5, I6, I7, reduceIte, reduceCtorEq, c]
    exact hq
end
end Go.Am.Ar

set_option linter.unusedVariables false
namespace Go.Am.Ar

structure BSt where
  c : Nat → Int
  op : Nat → Int
  q : List Nat
def upd (f : Nat → Int) (u : Nat) (x : Int) : Nat → Int := fun v => if v = u then x else f v
/-- A predecessor of x is looked at. -/
def stepU (x : Nat) (s : BSt) (u : Nat) : BSt :=
  if 0 ≤ s.c u then s else if s.op u - 1 = 0 then ⟨upd s.c u (s.c x + 1), upd s.op u (s.op u - 1), s.q ++ [u]⟩ else ⟨s.c, upd s.op u (s.op u - 1), s.q⟩

structure BI (n : Nat) (P : Nat → Prop) (S : Nat → List Nat) (R : Nat → Int) (i x : Nat) (done : List Nat) (s : BSt) : Prop where
  a1 : ∀ v ∈ s.q, v < n ∧ s.c v = R v ∧ 0 ≤ R v
  a2 : ∀ v, v < n → v ∉ s.q → s.c v = -1
  nd : s.q.Nodup
  z : ∀ v, v < n → R v = 0 → v ∈ s.q
  b : s.q.Pairwise (fun a b => R a ≤ R b)
  f : ∀ v ∈ s.q, ∀ a, s.q[i]? = some a → R v ≤ R a + 1
  cP : ∀ u, u < n → u ∉ s.q → P u → s.op u = 1 ∧ u ∉ done ∧ ∀ w ∈ S u, w ∉ s.q.take i
  cO : ∀ u, u < n → u ∉ s.q → ¬ P u → s.op u = ((S u).filter fun w => decide (w ∉ s.q.take i ∧ ¬ (w = x ∧ u ∈ done))).length ∧ 0 < s.op u

theorem filt_one : ∀ {l : List Nat}, l.Nodup → ∀ {x : Nat}, x ∈ l → ∀ (p : Nat → Bool), p x = true → (l.filter p).length = (l.filter fun w => p w && decide (w ≠ x)).length + 1
  | [], _, x, h, _, _ => by simp at h
  | y :: l, hd, x, h, p, hp => by
    rw [List.nodup_cons] at hd
    by_cases e : y = x
    · subst e
      have e2 : (l.filter fun w => p w && decide (w ≠ y)) = l.filter p := List.filter_congr fun w hw => by
        have : w ≠ y := fun q => hd.1 (q ▸ hw)
        simp [this]
      rw [List.filter_cons, if_pos hp, List.filter_cons, if_neg (by simp), e2, List.length_cons]
    · have hx : x ∈ l := by
        rcases List.mem_cons.1 h with q | q
        · exact absurd q.symm e
        · exact q
      have ih := filt_one hd.2 hx p hp
      rw [List.filter_cons, List.filter_cons]
      by_cases q : p y = true
      · rw [if_pos q, if_pos (by simp [q, e]), List.length_cons, List.length_cons, ih]
      · rw [if_neg q, if_neg (by simp [q]), ih]
section
variable {n : Nat} {P : Nat → Prop} {S : Nat → List Nat} {Z : Nat → Prop} {R : Nat → Int} (hR : IsRank n P S Z R) (hS : ∀ v, v < n → (∀ u ∈ S v, u < n) ∧ (S v).Nodup)
include hR hS

omit hR hS in
theorem rest_get {q : List Nat} {i w : Nat} (h1 : w ∈ q) (h2 : w ∉ q.take i) : ∃ j, i ≤ j ∧ q[j]? = some w := by
  obtain ⟨j, hj, e⟩ := List.mem_iff_getElem.1 h1
  refine ⟨j, ?_, by rw [List.getElem?_eq_getElem hj, e]⟩
  rcases Nat.lt_or_ge j i with q1 | q1
  · exact absurd (List.mem_iff_getElem.2 ⟨j, by simp; omega, by rw [List.getElem_take]; exact e⟩) h2
  · exact q1

/-- What has a rank and is not in the queue lies above something that is still to be looked at. -/
theorem BI.above {i x : Nat} {done : List Nat} {s : BSt} (I : BI n P S R i x done s) : ∀ (k : Nat) (y : Nat), y < n → y ∉ s.q → R y = (k : Int) → ∃ j w, i ≤ j ∧ s.q[j]? = some w ∧ R w < R y := by
  intro k
  induction k using Nat.strongRecOn with
  | ind k ih =>
    intro y hy hq hk
    have h0 : 0 < R y := by
      rcases Nat.eq_zero_or_pos k with e | e
      · subst e; exact absurd (I.z y hy hk) hq
      · omega
    have go : ∀ w ∈ S y, w ∉ s.q.take i → 0 ≤ R w → R w < R y → ∃ j w, i ≤ j ∧ s.q[j]? = some w ∧ R w < R y := by
      intro w hw hwt hw0 hwy
      by_cases e : w ∈ s.q
      · obtain ⟨j, h1, h2⟩ := rest_get e hwt
        exact ⟨j, w, h1, h2, hwy⟩
      · obtain ⟨j, w', h1, h2, h3⟩ := ih (R w).toNat (by omega) w ((hS y hy).1 w hw) e (by omega)
        exact ⟨j, w', h1, h2, by omega⟩
    by_cases hp : P y
    · obtain ⟨w, hw, e⟩ := hR.p y hy hp h0
      exact go w hw ((I.cP y hy hq hp).2.2 w hw) (by omega) (by omega)
    · obtain ⟨e, hpos⟩ := I.cO y hy hq hp
      rw [e] at hpos
      obtain ⟨w, hw⟩ := List.exists_mem_of_length_pos (l := (S y).filter fun w => decide (w ∉ s.q.take i ∧ ¬ (w = x ∧ y ∈ done))) (by omega)
      obtain ⟨h1, h2⟩ := List.mem_filter.1 hw
      have h2 := of_decide_eq_true h2
      obtain ⟨h3, h4⟩ := hR.o y hy hp h0 w h1
      exact go w h1 h2.1 h3 h4

theorem BI.fin {i x : Nat} {done : List Nat} {s : BSt} (I : BI n P S R i x done s) (hi : s.q.length ≤ i) : ∀ v, v < n → s.c v = R v := by
  intro v hv
  by_cases e : v ∈ s.q
  · exact (I.a1 v e).2.1
  · rw [I.a2 v hv e]
    rcases ilt_or_ge (R v) 0 with q | q
    · have := hR.ge v hv; omega
    · obtain ⟨j, w, h1, h2, _⟩ := I.above hR hS (R v).toNat v hv e (by omega)
      have := (List.getElem?_eq_some_iff.1 h2).1
      omega

omit hR hS in
theorem BI.next {i x : Nat} {done : List Nat} {s : BSt} (I : BI n P S R i x done s) (hx : s.q[i]? = some x) (hd : ∀ u, u < n → (u ∈ done ↔ x ∈ S u)) (y : Nat) : BI n P S R (i + 1) y [] s := by
  have ht : s.q.take (i + 1) = s.q.take i ++ [x] := by simp [List.take_add_one, hx]
  have hil := (List.getElem?_eq_some_iff.1 hx).1
  refine ⟨I.a1, I.a2, I.nd, I.z, I.b, ?_, ?_, ?_⟩
  · intro v hv a ha
    have h1 := I.f v hv x hx
    have h2 : R x ≤ R a := by
      obtain ⟨h3, h4⟩ := List.getElem?_eq_some_iff.1 ha
      obtain ⟨h5, h6⟩ := List.getElem?_eq_some_iff.1 hx
      have := List.pairwise_iff_getElem.1 I.b i (i + 1) h5 h3 (by omega)
      rwa [h4, h6] at this
    omega
  · intro u hu hq hp
    obtain ⟨h1, h2, h3⟩ := I.cP u hu hq hp
    refine ⟨h1, by simp, fun w hw => ?_⟩
    rw [ht, List.mem_append, List.mem_singleton]
    rintro (h4 | h4)
    · exact h3 w hw h4
    · subst h4; exact h2 ((hd u hu).2 hw)
  · intro u hu hq hp
    obtain ⟨h1, h2⟩ := I.cO u hu hq hp
    refine ⟨?_, h2⟩
    rw [h1]
    congr 2
    refine List.filter_congr fun w hw => ?_
    refine decide_eq_decide.2 ?_
    rw [ht, List.mem_append, List.mem_singleton]
    constructor
    · rintro ⟨h3, h4⟩
      refine ⟨?_, by simp⟩
      rintro (h5 | h5)
      · exact h3 h5
      · subst h5; exact h4 ⟨rfl, (hd u hu).2 hw⟩
    · rintro ⟨h3, _⟩
      exact ⟨fun h => h3 (.inl h), fun h => h3 (.inr h.1)⟩

theorem BI.step {i x u : Nat} {done : List Nat} {s : BSt} (I : BI n P S R i x done s) (hx : s.q[i]? = some x) (hu : u < n) (hxS : x ∈ S u) (hud : u ∉ done) : BI n P S R i x (done ++ [u]) (stepU x s u) := by
  obtain ⟨hil, hqi⟩ := List.getElem?_eq_some_iff.1 hx
  have hxq : x ∈ s.q := List.mem_of_getElem? hx
  obtain ⟨hxn, hcx, hx0⟩ := I.a1 x hxq
  have hmem : ∀ v, v ≠ u → (v ∈ done ++ [u] ↔ v ∈ done) := fun v hv => by simp [hv]
  have hfil : ∀ v, v ≠ u → ((S v).filter fun w => decide (w ∉ s.q.take i ∧ ¬ (w = x ∧ v ∈ done ++ [u]))) = (S v).filter fun w => decide (w ∉ s.q.take i ∧ ¬ (w = x ∧ v ∈ done)) := fun v hv => List.filter_congr fun w _ => decide_eq_decide.2 (by rw [hmem v hv])
  have hlow : ∀ w ∈ s.q.take i, R w ≤ R x := by
    intro w hw
    obtain ⟨j, hj, e⟩ := List.mem_iff_getElem.1 hw
    have hj2 : j < i := by simp at hj; omega
    have := List.pairwise_iff_getElem.1 I.b j i (by omega) hil hj2
    rw [List.getElem_take] at e
    rwa [e, hqi] at this
  have hxt : x ∉ s.q.take i := by
    intro hm
    obtain ⟨j, hj, e⟩ := List.mem_iff_getElem.1 hm
    have hj2 : j < i := by simp at hj; omega
    rw [List.getElem_take] at e
    exact List.pairwise_iff_getElem.1 I.nd j i (by omega) hil hj2 (by rw [e, hqi])
  unfold stepU
  by_cases c1 : 0 ≤ s.c u
  · rw [if_pos c1]
    have huq : u ∈ s.q := by
      by_cases e : u ∈ s.q
      · exact e
      · have := I.a2 u hu e; omega
    refine ⟨I.a1, I.a2, I.nd, I.z, I.b, I.f, fun v hv hq hp => ?_, fun v hv hq hp => ?_⟩
    · obtain ⟨h1, h2, h3⟩ := I.cP v hv hq hp
      exact ⟨h1, by rw [hmem v (fun e => hq (e ▸ huq))]; exact h2, h3⟩
    · rw [hfil v (fun e => hq (e ▸ huq))]; exact I.cO v hv hq hp
  · rw [if_neg c1]
    have huq : u ∉ s.q := fun e => c1 (by have := I.a1 u e; omega)
    by_cases c2 : s.op u - 1 = 0
    · rw [if_pos c2]
      have hup : 0 ≤ R u ∧ R u ≤ R x + 1 := by
        by_cases hp : P u
        · exact hR.p' u hu hp x hxS hx0
        · refine hR.o' u hu hp (R x) hx0 fun w hw => ?_
          obtain ⟨h1, _⟩ := I.cO u hu huq hp
          by_cases hwt : w ∈ s.q.take i
          · exact ⟨(I.a1 w (List.mem_of_mem_take hwt)).2.2, hlow w hwt⟩
          · by_cases e : w = x
            · subst e; exact ⟨hx0, Int.le_refl _⟩
            · exfalso
              rw [filt_one (hS u hu).2 hxS _ (by simp [hxt, hud])] at h1
              have hwm : w ∈ (S u).filter fun w => (decide (w ∉ s.q.take i ∧ ¬ (w = x ∧ u ∈ done))) && decide (w ≠ x) := List.mem_filter.2 ⟨hw, by simp [hwt, e]⟩
              have := List.length_pos_of_mem hwm
              omega
      have hgt : R x < R u := by
        obtain ⟨j, w, h1, h2, h3⟩ := I.above hR hS (R u).toNat u hu huq (by omega)
        obtain ⟨h4, h5⟩ := List.getElem?_eq_some_iff.1 h2
        rcases Nat.eq_or_lt_of_le h1 with e | e
        · subst e; rw [hqi] at h5; subst h5; exact h3
        · have := List.pairwise_iff_getElem.1 I.b i j hil h4 e
          rw [hqi, h5] at this
          omega
      have hRu : R u = R x + 1 := by omega
      have htk : (s.q ++ [u]).take i = s.q.take i := List.take_append_of_le_length (by omega)
      refine ⟨fun v hv => ?_, fun v hv hq => ?_, ?_, fun v hv h0 => List.mem_append_left _ (I.z v hv h0), ?_, fun v hv a ha => ?_, fun v hv hq hp => ?_, fun v hv hq hp => ?_⟩
      · rcases List.mem_append.1 hv with h | h
        · obtain ⟨h1, h2, h3⟩ := I.a1 v h
          refine ⟨h1, ?_, h3⟩
          show upd s.c u _ v = _
          unfold upd; rw [if_neg (fun e : v = u => huq (e ▸ h))]; exact h2
        · rw [List.mem_singleton] at h
          subst h
          refine ⟨hu, ?_, by omega⟩
          show upd s.c v _ v = _
          unfold upd; rw [if_pos rfl]; omega
      · have h : v ∉ s.q ∧ v ≠ u := by simpa using hq
        show upd s.c u _ v = _
        unfold upd; rw [if_neg h.2]; exact I.a2 v hv h.1
      · refine List.nodup_append.2 ⟨I.nd, by simp, fun a ha b hb e => ?_⟩
        rw [List.mem_singleton] at hb
        subst hb; subst e; exact huq ha
      · refine List.pairwise_append.2 ⟨I.b, by simp, fun a ha b hb => ?_⟩
        rw [List.mem_singleton] at hb
        subst hb
        have := I.f a ha x hx
        omega
      · have ha2 : s.q[i]? = some a := by
          have : (s.q ++ [u])[i]? = some a := ha
          rwa [List.getElem?_append_left hil] at this
        rcases List.mem_append.1 hv with h | h
        · exact I.f v h a ha2
        · rw [List.mem_singleton] at h
          rw [hx] at ha2; cases ha2
          subst h; omega
      · have h : v ∉ s.q ∧ v ≠ u := by simpa using hq
        obtain ⟨h1, h2, h3⟩ := I.cP v hv h.1 hp
        refine ⟨?_, by rw [hmem v h.2]; exact h2, ?_⟩
        · show upd s.op u _ v = _
          unfold upd; rw [if_neg h.2]; exact h1
        · show ∀ w ∈ S v, w ∉ (s.q ++ [u]).take i
          rw [htk]; exact h3
      · have h : v ∉ s.q ∧ v ≠ u := by simpa using hq
        show upd s.op u _ v = ((S v).filter fun w => decide (w ∉ (s.q ++ [u]).take i ∧ ¬ (w = x ∧ v ∈ done ++ [u]))).length ∧ 0 < upd s.op u _ v
        rw [htk]
        unfold upd; rw [if_neg h.2]
        rw [hfil v h.2]; exact I.cO v hv h.1 hp
    · rw [if_neg c2]
      have hnp : ¬ P u := fun hp => c2 (by have := (I.cP u hu huq hp).1; omega)
      refine ⟨I.a1, I.a2, I.nd, I.z, I.b, I.f, fun v hv hq hp => ?_, fun v hv hq hp => ?_⟩
      · have e : v ≠ u := fun e => hnp (e ▸ hp)
        obtain ⟨h1, h2, h3⟩ := I.cP v hv hq hp
        refine ⟨?_, by rw [hmem v e]; exact h2, h3⟩
        show upd s.op u _ v = _
        unfold upd; rw [if_neg e]; exact h1
      · show upd s.op u _ v = ((S v).filter fun w => decide (w ∉ s.q.take i ∧ ¬ (w = x ∧ v ∈ done ++ [u]))).length ∧ 0 < upd s.op u _ v
        unfold upd
        obtain ⟨h1, h2⟩ := I.cO v hv hq hp
        by_cases e : v = u
        · subst e
          rw [if_pos rfl]
          refine ⟨?_, by omega⟩
          rw [filt_one (hS v hv).2 hxS _ (by simp [hxt, hud])] at h1
          rw [h1]
          have e3 : ((S v).filter fun w => decide (w ∉ s.q.take i ∧ ¬ (w = x ∧ v ∈ done)) && decide (w ≠ x)) = (S v).filter fun w => decide (w ∉ s.q.take i ∧ ¬ (w = x ∧ v ∈ done ++ [v])) := List.filter_congr fun w hw => by
            by_cases q1 : w ∈ s.q.take i <;> by_cases q2 : w = x <;> simp [q1, q2, hud]
          rw [e3]
          omega
        · rw [if_neg e, hfil v e]; exact ⟨h1, h2⟩
end
end Go.Am.Ar
