/- Contracts: traps, and what goes with it. -/
import Derived.Test.YtjknfmndhbafoaaArenaAttractorsG2
import Derived.Test.YtjknfmndhbafoaaArenaAttractorsG0
import Derived.Test.YtjknfmndhbafoaaPmC
set_option linter.unusedVariables false
set_option linter.unusedSimpArgs false
set_option maxRecDepth 10000
namespace Go.Am.Ar
open Go.Am renaming pchk → P1, pold → P2, PKNo → P3, ppack → P4, PObj.under → P5, pput → P6, ptset → P7, ptget → P8, pev → P9, ofAV → P10, ofAV1 → P11, ppad → P12, pfill → P13, prepl → P14, AO.effect → P15
open List renaming replicate → L1
open Nat renaming reduceAdd → N1, reduceSub → N2, reduceMul → N3, reduceLT → N4, reduceLeDiff → N5, reduceEqDiff → N6, reduceBEq → N7
open Int renaming reduceToNat → I1, reduceLT → I2, reduceLE → I3, reduceEq → I4, reduceAdd → I5, reduceSub → I6, reduceNeg → I7
def trapAt (ow : List Int) (su : List (List Int)) (side : Int) (keep : List Int) (v : Int) : Prop :=
  (∃ u ∈ su.getD v.toNat [], u ∈ keep) ∧ (ow.getD v.toNat 0 = side → ∀ u ∈ su.getD v.toNat [], u ∈ keep)
instance (ow : List Int) (su : List (List Int)) (side : Int) (keep : List Int) (v : Int) : Decidable (trapAt ow su side keep v) := by unfold trapAt; infer_instance
def trapL (ow : List Int) (su : List (List Int)) (side : Int) (keep : List Int) : List Int → Bool
  | [] => true
  | v :: l => if trapAt ow su side keep v then trapL ow su side keep l else false
theorem trapL_iff {ow : List Int} {su : List (List Int)} {side : Int} {keep : List Int} : ∀ {l : List Int}, trapL ow su side keep l = true ↔ ∀ v ∈ l, trapAt ow su side keep v
  | [] => by simp [trapL]
  | v :: l => by
    unfold trapL
    split
    · rename_i h; rw [trapL_iff]; simp [h]
    · rename_i h; simp [h]
def trapM (ow pr : List Int) (su : List (List Int)) (side : Int) (keep : List Int) : PV :=
  if wrongM ow pr su side keep = 0 then .tuple [.bool (trapL ow su side keep keep), p64 0] else .tuple [.bool false, p64 (wrongM ow pr su side keep)]
theorem trapM_res (ow pr : List Int) (su : List (List Int)) (side : Int) (keep : List Int) : ∃ b e, trapM ow pr su side keep = .tuple [.bool b, p64 e] := by
  unfold trapM
  split
  · exact ⟨_, _, rfl⟩
  · exact ⟨_, _, rfl⟩
theorem natI_of {l : List Int} (h : ∀ x ∈ l, 0 ≤ x) : natI (l.map Int.toNat) = l := by
  induction l with
  | nil => rfl
  | cons x l ih =>
    have := h x (by simp)
    have e := ih fun y hy => h y (by simp [hy])
    show ((x.toNat : Nat) : Int) :: natI (l.map Int.toNat) = x :: l
    rw [e]
    congr 1
    omega
theorem toNat_mem {l : List Int} (h : ∀ x ∈ l, 0 ≤ x) {x : Int} (hx : 0 ≤ x) : x.toNat ∈ l.map Int.toNat ↔ x ∈ l := by
  rw [List.mem_map]
  exact ⟨fun ⟨y, h1, h2⟩ => by have := h y h1; rw [show x = y by omega]; exact h1, fun h => ⟨x, h, rfl⟩⟩
theorem ex_nat {a b : List Int} (ha : ∀ x ∈ a, 0 ≤ x) (hb : ∀ x ∈ b, 0 ≤ x) : (∃ x, x ∈ a.map Int.toNat ∧ x ∈ b.map Int.toNat) ↔ ∃ u ∈ a, u ∈ b := by
  constructor
  · rintro ⟨x, h1, h2⟩
    obtain ⟨y, q1, rfl⟩ := List.mem_map.1 h1
    exact ⟨y, q1, (toNat_mem hb (ha y q1)).1 h2⟩
  · rintro ⟨u, h1, h2⟩
    exact ⟨u.toNat, List.mem_map.2 ⟨u, h1, rfl⟩, List.mem_map.2 ⟨u, h2, rfl⟩⟩
theorem all_nat {a b : List Int} (ha : ∀ x ∈ a, 0 ≤ x) (hb : ∀ x ∈ b, 0 ≤ x) : (∀ x ∈ a.map Int.toNat, x ∈ b.map Int.toNat) ↔ ∀ u ∈ a, u ∈ b := by
  constructor
  · intro h u hu
    exact (toNat_mem hb (ha u hu)).1 (h _ (List.mem_map.2 ⟨u, hu, rfl⟩))
  · intro h x hx
    obtain ⟨y, q1, rfl⟩ := List.mem_map.1 hx
    exact List.mem_map.2 ⟨y, h y q1, rfl⟩
section
variable {tab : FuncId → Option AF} (T : HasA tab)
include T
theorem trap_p {M : Mem} {K : PV → Mem → Prop} {f1 o1 f2 o2 f3 o3 f4 o4 f5 o5 : Bool} {ow pr keep : List Int} {side : Int} {su : List (List Int)} (B : Bnd ow pr su) (hb : keep.length < big) (hq : K (trapM ow pr su side keep) M) :
    SemC tab 15 [gmP f1 o1 f2 o2 f3 o3 f4 o4 ow pr su, p8 side, slI f5 o5 .i64 keep] M K := by
  refine SemC_pure T.h15 (by simp only [PP, P1, P2, P3, P4, P5, P6, P7, P8, P9, P10, P11, P12, P13, P14, L1, P15, N1, N2, N3, N4, N5, N6, N7, I1, I2, I3, I4, I5, I6, I7, reduceIte, reduceCtorEq]) ?_
  simp only [af15, PP, P1, P2, P3, P4, P5, P6, P7, P8, P9, P10, P11, P12, P13, P14, L1, P15, N1, N2, N3, N4, N5, N6, N7, I1, I2, I3, I4, I5, I6, I7, reduceIte, reduceCtorEq, trapM] at hq ⊢
  refine acheck_p T B hb ?_
  simp only [PP, P1, P2, P3, P4, P5, P6, P7, P8, P9, P10, P11, P12, P13, P14, L1, P15, N1, N2, N3, N4, N5, N6, N7, I1, I2, I3, I4, I5, I6, I7, reduceIte, reduceCtorEq]
  refine QIf.intro (fun c1 => ?_) (fun c1 => ?_)
  rotate_left
  · simp only [PP, P1, P2, P3, P4, P5, P6, P7, P8, P9, P10, P11, P12, P13, P14, L1, P15, N1, N2, N3, N4, N5, N6, N7, I1, I2, I3, I4, I5, I6, I7, reduceIte, reduceCtorEq, c1] at hq ⊢
    exact hq
  simp only [PP, P1, P2, P3, P4, P5, P6, P7, P8, P9, P10, P11, P12, P13, P14, L1, P15, N1, N2, N3, N4, N5, N6, N7, I1, I2, I3, I4, I5, I6, I7, reduceIte, reduceCtorEq, c1] at hq ⊢
  obtain ⟨V, hside, hpm⟩ := wrong_zero c1
  have hs := V.s
  have n1 := V.n1
  have kr : ∀ x ∈ keep, 0 ≤ x ∧ x < ow.length := fun x hx => by have := (posM_rise hpm).2 x hx; omega
  have hkn : ∀ x ∈ keep.map Int.toNat, x < 4096 := fun x hx => by
    obtain ⟨y, hy, rfl⟩ := List.mem_map.1 hx
    have := kr y hy; omega
  refine of_p T (natI_of fun x hx => (kr x hx).1) (by rw [List.length_map]; exact hb) hkn ?_
  have hkl := ofL_len hkn
  simp only [PP, P1, P2, P3, P4, P5, P6, P7, P8, P9, P10, P11, P12, P13, P14, L1, P15, N1, N2, N3, N4, N5, N6, N7, I1, I2, I3, I4, I5, I6, I7, reduceIte, reduceCtorEq]
  refine loop1 (fun (k : Nat) => k ≤ keep.length ∧ K (.tuple [.bool (trapL ow su side keep (keep.drop k)), p64 0]) M) (fun k => [.junk, p8 side, .junk, .ptr 0 0 0, .junk, .junk, .junk, .junk, .junk, slW false true (ofL (keep.map Int.toNat)), .junk, .junk, .junk, .junk, .junk, .junk, .junk, .junk, .junk, .junk, .junk, .junk, slI f5 o5 .i64 keep, p64 keep.length, p64 k, .junk, .junk, .junk, .junk, .junk, .junk, .junk, .junk, .junk, .junk, .junk, .junk, .junk, .junk, .junk, .junk, .junk, .junk, .junk, .junk, .junk, .junk, .junk, .junk, .junk, .junk, .junk, .junk, .junk]) (fun _ => [.cells 0 0 [slI f1 o1 .u8 ow, slI f2 o2 .i64 pr, slR f3 o3 f4 o4 .i64 su]]) (fun k => keep.length - k) 0 ⟨by omega, hq⟩ (by simp only [PWeak_nil, PWeak_junk, PWeak_same, Int.cast_ofNat_Int, List.length_append, List.length_cons, List.length_nil, Nat.zero_add]) rfl ?_
  intro k ⟨hle, hq⟩ ih
  refine SemW_go (by kernel_rfl) ?_
  simp only [PP, P1, P2, P3, P4, P5, P6, P7, P8, P9, P10, P11, P12, P13, P14, L1, P15, N1, N2, N3, N4, N5, N6, N7, I1, I2, I3, I4, I5, I6, I7, reduceIte, reduceCtorEq]
  refine QIf.intro (fun c => ?_) (fun c => ?_)
  · have hk : k < keep.length := by omega
    have hkb : keep.length < 1000000000000 := hb
    have hw := wrap_succ (k := k) (by show _ < 1000000000000; omega)
    have k0 : (0 : Int) ≤ k := by omega
    obtain ⟨v, g1⟩ := some_of hk
    obtain ⟨v0, v1⟩ := kr v (List.mem_of_getElem? g1)
    obtain ⟨row, g2⟩ := some_of (xs := su) (k := v.toNat) (by omega)
    obtain ⟨o, g3⟩ := some_of (xs := ow) (k := v.toNat) (by omega)
    have e2 : su.getD v.toNat [] = row := by simp [List.getD, g2]
    have e3 : ow.getD v.toNat 0 = o := by simp [List.getD, g3]
    have vs : v < su.length := by omega
    have rr : ∀ x ∈ row, 0 ≤ x ∧ x < ow.length := fun x hx => su_range V (v := v.toNat) (by omega) (by rw [e2]; exact hx)
    have hrn : ∀ x ∈ row.map Int.toNat, x < 4096 := fun x hx => by
      obtain ⟨y, hy, rfl⟩ := List.mem_map.1 hx
      have := rr y hy; omega
    have hrl := ofL_len hrn
    rw [drop_some g1, trapL] at hq
    have hta : trapAt ow su side keep v ↔ (∃ u ∈ row, u ∈ keep) ∧ (o = side → ∀ u ∈ row, u ∈ keep) := by unfold trapAt; rw [e2, e3]
    simp only [PP, P1, P2, P3, P4, P5, P6, P7, P8, P9, P10, P11, P12, P13, P14, L1, P15, N1, N2, N3, N4, N5, N6, N7, I1, I2, I3, I4, I5, I6, I7, reduceIte, reduceCtorEq, c, g1, k0, g2, v0, vs]
    refine of_p T (natI_of fun x hx => (rr x hx).1) (by rw [List.length_map]; exact B.r _ (List.mem_of_getElem? g2)) hrn ?_
    simp only [PP, P1, P2, P3, P4, P5, P6, P7, P8, P9, P10, P11, P12, P13, P14, L1, P15, N1, N2, N3, N4, N5, N6, N7, I1, I2, I3, I4, I5, I6, I7, reduceIte, reduceCtorEq]
    refine intersects_p T (by show _ < 1000000000000; omega) (by show _ < 1000000000000; omega) ?_
    have i1 := (inter_iff hrn hkn).trans (ex_nat (fun x hx => (rr x hx).1) (fun x hx => (kr x hx).1))
    have i2 := (subset_iff hrn hkn).trans (all_nat (fun x hx => (rr x hx).1) (fun x hx => (kr x hx).1))
    simp only [i1] 
    by_cases h1 : ∃ u ∈ row, u ∈ keep
    · by_cases h2 : o = side
      · simp only [PP, P1, P2, P3, P4, P5, P6, P7, P8, P9, P10, P11, P12, P13, P14, L1, P15, N1, N2, N3, N4, N5, N6, N7, I1, I2, I3, I4, I5, I6, I7, reduceIte, reduceCtorEq, h1, h2, g3, v0, v1]
        refine subset_p T (by show _ < 1000000000000; omega) (by show _ < 1000000000000; omega) ?_
        simp only [i2]
        by_cases h3 : ∀ u ∈ row, u ∈ keep
        · rw [if_pos (hta.2 ⟨h1, fun _ => h3⟩)] at hq
          simp only [PP, P1, P2, P3, P4, P5, P6, P7, P8, P9, P10, P11, P12, P13, P14, L1, P15, N1, N2, N3, N4, N5, N6, N7, I1, I2, I3, I4, I5, I6, I7, reduceIte, reduceCtorEq, eq_true h3, hw]
          exact SemW_weak (ih (k + 1) ⟨by omega, hq⟩ (by omega)) (by simp only [PWeak_nil, PWeak_junk, PWeak_same, Int.cast_ofNat_Int, List.length_append, List.length_cons, List.length_nil, Nat.zero_add])
        · rw [if_neg (fun h => h3 ((hta.1 h).2 h2))] at hq
          simp only [PP, P1, P2, P3, P4, P5, P6, P7, P8, P9, P10, P11, P12, P13, P14, L1, P15, N1, N2, N3, N4, N5, N6, N7, I1, I2, I3, I4, I5, I6, I7, reduceIte, reduceCtorEq, eq_false h3]
          exact hq
      · rw [if_pos (hta.2 ⟨h1, fun h => absurd h h2⟩)] at hq
        simp only [PP, P1, P2, P3, P4, P5, P6, P7, P8, P9, P10, P11, P12, P13, P14, L1, P15, N1, N2, N3, N4, N5, N6, N7, I1, I2, I3, I4, I5, I6, I7, reduceIte, reduceCtorEq, h1, h2, g3, v0, v1, hw]
        exact SemW_weak (ih (k + 1) ⟨by omega, hq⟩ (by omega)) (by simp only [PWeak_nil, PWeak_junk, PWeak_same, Int.cast_ofNat_Int, List.length_append, List.length_cons, List.length_nil, Nat.zero_add])
    · rw [if_neg (fun h => h1 (hta.1 h).1)] at hq
      simp only [PP, P1, P2, P3, P4, P5, P6, P7, P8, P9, P10, P11, P12, P13, P14, L1, P15, N1, N2, N3, N4, N5, N6, N7, I1, I2, I3, I4, I5, I6, I7, reduceIte, reduceCtorEq, h1]
      exact hq
  · rw [List.drop_eq_nil_of_le (by omega)] at hq
    simp only [PP, P1, P2, P3, P4, P5, P6, P7, P8, P9, P10, P11, P12, P13, P14, L1, P15, N1, N2, N3, N4, N5, N6, N7, I1, I2, I3, I4, I5, I6, I7, reduceIte, reduceCtorEq, c]
    exact hq

theorem refTrap_p {M : Mem} {K : PV → Mem → Prop} {f1 o1 f2 o2 f3 o3 f4 o4 f5 o5 : Bool} {ow pr keep : List Int} {side : Int} {su : List (List Int)} (B : Bnd ow pr su) (hb : keep.length < big) (hq : K (trapM ow pr su side keep) M) :
    SemC tab 16 [gmP f1 o1 f2 o2 f3 o3 f4 o4 ow pr su, p8 side, slI f5 o5 .i64 keep] M K := by
  refine SemC_pure T.h16 (by simp only [PP, P1, P2, P3, P4, P5, P6, P7, P8, P9, P10, P11, P12, P13, P14, L1, P15, N1, N2, N3, N4, N5, N6, N7, I1, I2, I3, I4, I5, I6, I7, reduceIte, reduceCtorEq]) ?_
  simp only [af16, PP, P1, P2, P3, P4, P5, P6, P7, P8, P9, P10, P11, P12, P13, P14, L1, P15, N1, N2, N3, N4, N5, N6, N7, I1, I2, I3, I4, I5, I6, I7, reduceIte, reduceCtorEq, trapM] at hq ⊢
  refine wrong_p T B hb ?_
  simp only [PP, P1, P2, P3, P4, P5, P6, P7, P8, P9, P10, P11, P12, P13, P14, L1, P15, N1, N2, N3, N4, N5, N6, N7, I1, I2, I3, I4, I5, I6, I7, reduceIte, reduceCtorEq]
  refine QIf.intro (fun c1 => ?_) (fun c1 => ?_)
  rotate_left
  · simp only [PP, P1, P2, P3, P4, P5, P6, P7, P8, P9, P10, P11, P12, P13, P14, L1, P15, N1, N2, N3, N4, N5, N6, N7, I1, I2, I3, I4, I5, I6, I7, reduceIte, reduceCtorEq, c1] at hq ⊢
    exact hq
  simp only [PP, P1, P2, P3, P4, P5, P6, P7, P8, P9, P10, P11, P12, P13, P14, L1, P15, N1, N2, N3, N4, N5, N6, N7, I1, I2, I3, I4, I5, I6, I7, reduceIte, reduceCtorEq, c1] at hq ⊢
  obtain ⟨V, hside, hpm⟩ := wrong_zero c1
  have hs := V.s
  have n1 := V.n1
  have kr : ∀ x ∈ keep, 0 ≤ x ∧ x < ow.length := fun x hx => by have := (posM_rise hpm).2 x hx; omega
  refine loop1 (fun (k : Nat) => k ≤ keep.length ∧ K (.tuple [.bool (trapL ow su side keep (keep.drop k)), p64 0]) M) (fun k => [.junk, p8 side, slI f5 o5 .i64 keep, .ptr 0 0 0, .junk, .junk, .junk, .junk, .junk, p64 k, .junk, .junk, .junk, .junk, .junk, .junk, .junk, .junk, .junk, .junk, .junk, .junk, .junk, .junk, .junk, .junk, .junk, .junk, .junk, .junk, .junk, .junk, .junk, .junk, .junk, .junk, .junk, .junk, .junk, .junk, .junk, .junk, .junk, .junk, .junk, .junk, .junk, .junk, .junk, .junk, .junk, .junk, .junk, .junk, .junk, .junk, .junk, .junk, .junk, .junk, .junk, .junk, .junk, .junk, .junk, .junk, .junk, .junk, .junk, .junk]) (fun _ => [.cells 0 0 [slI f1 o1 .u8 ow, slI f2 o2 .i64 pr, slR f3 o3 f4 o4 .i64 su]]) (fun k => keep.length - k) 0 ⟨by omega, hq⟩ (by simp only [PWeak_nil, PWeak_junk, PWeak_same, Int.cast_ofNat_Int, List.length_append, List.length_cons, List.length_nil, Nat.zero_add]) rfl ?_
  intro k ⟨hle, hq⟩ ih
  refine SemW_go (by kernel_rfl) ?_
  simp only [PP, P1, P2, P3, P4, P5, P6, P7, P8, P9, P10, P11, P12, P13, P14, L1, P15, N1, N2, N3, N4, N5, N6, N7, I1, I2, I3, I4, I5, I6, I7, reduceIte, reduceCtorEq]
  refine QIf.intro (fun c => ?_) (fun c => ?_)
  · have hk : k < keep.length := by omega
    have hkb : keep.length < 1000000000000 := hb
    have hw := wrap_succ (k := k) (by show _ < 1000000000000; omega)
    have k0 : (0 : Int) ≤ k := by omega
    obtain ⟨v, g1⟩ := some_of hk
    obtain ⟨v0, v1⟩ := kr v (List.mem_of_getElem? g1)
    obtain ⟨row, g2⟩ := some_of (xs := su) (k := v.toNat) (by omega)
    obtain ⟨o, g3⟩ := some_of (xs := ow) (k := v.toNat) (by omega)
    have e2 : su.getD v.toNat [] = row := by simp [List.getD, g2]
    have e3 : ow.getD v.toNat 0 = o := by simp [List.getD, g3]
    have vs : v < su.length := by omega
    have hrl : row.length < 1000000000000 := B.r _ (List.mem_of_getElem? g2)
    rw [drop_some g1, trapL] at hq
    have hta : trapAt ow su side keep v ↔ (∃ u ∈ row, u ∈ keep) ∧ (o = side → ∀ u ∈ row, u ∈ keep) := by unfold trapAt; rw [e2, e3]
    simp only [PP, P1, P2, P3, P4, P5, P6, P7, P8, P9, P10, P11, P12, P13, P14, L1, P15, N1, N2, N3, N4, N5, N6, N7, I1, I2, I3, I4, I5, I6, I7, reduceIte, reduceCtorEq, c, g1, k0]
    refine loop3 (fun (i a b : Nat) => i ≤ row.length ∧ a ≤ i ∧ b ≤ i ∧ (0 < a ↔ ∃ u ∈ row.take i, u ∈ keep) ∧ (0 < b ↔ ∃ u ∈ row.take i, ¬ u ∈ keep))
      (fun i a b => [.junk, p8 side, slI f5 o5 .i64 keep, .ptr 0 0 0, .junk, .junk, .junk, .junk, .junk, p64 k, p64 v, p64 a, p64 b, p64 i, .junk, .junk, .junk, .junk, .junk, .junk, .junk, .junk, .junk, .junk, .junk, .junk, .junk, .junk, .junk, .junk, .junk, .junk, .junk, .junk, .junk, .junk, .junk, .junk, .junk, .junk, .junk, .junk, .junk, .junk, .junk, .junk, .junk, .junk, .junk, .junk, .junk, .junk, .junk, .junk, .junk, .junk, .junk, .junk, .junk, .junk, .junk, .junk, .junk, .junk, .junk, .junk, .junk, .junk, .junk, .junk]) (fun _ _ _ => [.cells 0 0 [slI f1 o1 .u8 ow, slI f2 o2 .i64 pr, slR f3 o3 f4 o4 .i64 su]]) (fun i _ _ => row.length - i) 0 0 0 ⟨by omega, by omega, by omega, by simp, by simp⟩ (by simp only [PWeak_nil, PWeak_junk, PWeak_same, Int.cast_ofNat_Int, List.length_append, List.length_cons, List.length_nil, Nat.zero_add]) rfl ?_
    intro i a b ⟨hi, hai, hbi, ha, hb'⟩ ih2
    refine SemW_go (by kernel_rfl) ?_
    simp only [PP, P1, P2, P3, P4, P5, P6, P7, P8, P9, P10, P11, P12, P13, P14, L1, P15, N1, N2, N3, N4, N5, N6, N7, I1, I2, I3, I4, I5, I6, I7, reduceIte, reduceCtorEq, g2, v0, vs]
    refine QIf.intro (fun d => ?_) (fun d => ?_)
    · have hil : i < row.length := by omega
      have hwi := wrap_succ (k := i) (by show _ < 1000000000000; omega)
      have hwa := wrap_succ (k := a) (by show _ < 1000000000000; omega)
      have hwb := wrap_succ (k := b) (by show _ < 1000000000000; omega)
      have i0 : (0 : Int) ≤ i := by omega
      obtain ⟨u, g4⟩ := some_of hil
      simp only [PP, P1, P2, P3, P4, P5, P6, P7, P8, P9, P10, P11, P12, P13, P14, L1, P15, N1, N2, N3, N4, N5, N6, N7, I1, I2, I3, I4, I5, I6, I7, reduceIte, reduceCtorEq, d, g2, v0, vs, i0, g4]
      refine hasInt_p T hb ?_
      by_cases hu : u ∈ keep
      · simp only [PP, P1, P2, P3, P4, P5, P6, P7, P8, P9, P10, P11, P12, P13, P14, L1, P15, N1, N2, N3, N4, N5, N6, N7, I1, I2, I3, I4, I5, I6, I7, reduceIte, reduceCtorEq, hu, hwa, hwi]
        refine SemW_weak (ih2 (i + 1) (a + 1) b ⟨by omega, by omega, by omega, ?_, ?_⟩ (by omega)) (by simp only [PWeak_nil, PWeak_junk, PWeak_same, Int.cast_ofNat_Int, List.length_append, List.length_cons, List.length_nil, Nat.zero_add])
        · rw [take_some g4]
          exact ⟨fun _ => ⟨u, by simp, hu⟩, fun _ => by omega⟩
        · rw [take_some g4, hb']
          constructor
          · rintro ⟨x, h1, h2⟩; exact ⟨x, by simp [h1], h2⟩
          · rintro ⟨x, h1, h2⟩
            rcases List.mem_append.1 h1 with h | h
            · exact ⟨x, h, h2⟩
            · rw [List.mem_singleton] at h; subst h; exact absurd hu h2
      · simp only [PP, P1, P2, P3, P4, P5, P6, P7, P8, P9, P10, P11, P12, P13, P14, L1, P15, N1, N2, N3, N4, N5, N6, N7, I1, I2, I3, I4, I5, I6, I7, reduceIte, reduceCtorEq, hu, hwb, hwi]
        refine SemW_weak (ih2 (i + 1) a (b + 1) ⟨by omega, by omega, by omega, ?_, ?_⟩ (by omega)) (by simp only [PWeak_nil, PWeak_junk, PWeak_same, Int.cast_ofNat_Int, List.length_append, List.length_cons, List.length_nil, Nat.zero_add])
        · rw [take_some g4, ha]
          constructor
          · rintro ⟨x, h1, h2⟩; exact ⟨x, by simp [h1], h2⟩
          · rintro ⟨x, h1, h2⟩
            rcases List.mem_append.1 h1 with h | h
            · exact ⟨x, h, h2⟩
            · rw [List.mem_singleton] at h; subst h; exact absurd h2 hu
        · rw [take_some g4]
          exact ⟨fun _ => ⟨u, by simp, hu⟩, fun _ => by omega⟩
    · rw [List.take_of_length_le (by omega)] at ha hb'
      simp only [PP, P1, P2, P3, P4, P5, P6, P7, P8, P9, P10, P11, P12, P13, P14, L1, P15, N1, N2, N3, N4, N5, N6, N7, I1, I2, I3, I4, I5, I6, I7, reduceIte, reduceCtorEq, d, g3, v0, v1]
      by_cases h1 : ∃ u ∈ row, u ∈ keep
      · have a0 : ¬ (a : Int) = 0 := by have := ha.2 h1; omega
        by_cases h2 : o = side
        · by_cases h3 : ∀ u ∈ row, u ∈ keep
          · have b0 : ¬ (0 : Int) < b := fun h => by
              obtain ⟨x, q1, q2⟩ := hb'.1 (by omega)
              exact q2 (h3 x q1)
            rw [if_pos (hta.2 ⟨h1, fun _ => h3⟩)] at hq
            simp only [PP, P1, P2, P3, P4, P5, P6, P7, P8, P9, P10, P11, P12, P13, P14, L1, P15, N1, N2, N3, N4, N5, N6, N7, I1, I2, I3, I4, I5, I6, I7, reduceIte, reduceCtorEq, h2, a0, b0, hw]
            exact SemW_weak (ih (k + 1) ⟨by omega, hq⟩ (by omega)) (by simp only [PWeak_nil, PWeak_junk, PWeak_same, Int.cast_ofNat_Int, List.length_append, List.length_cons, List.length_nil, Nat.zero_add])
          · have b0 : (0 : Int) < b := by
              have : 0 < b := hb'.2 (Classical.byContradiction fun hn => h3 fun u hu => Classical.byContradiction fun q => hn ⟨u, hu, q⟩)
              omega
            rw [if_neg (fun h => h3 ((hta.1 h).2 h2))] at hq
            simp only [PP, P1, P2, P3, P4, P5, P6, P7, P8, P9, P10, P11, P12, P13, P14, L1, P15, N1, N2, N3, N4, N5, N6, N7, I1, I2, I3, I4, I5, I6, I7, reduceIte, reduceCtorEq, h2, b0]
            exact hq
        · rw [if_pos (hta.2 ⟨h1, fun h => absurd h h2⟩)] at hq
          simp only [PP, P1, P2, P3, P4, P5, P6, P7, P8, P9, P10, P11, P12, P13, P14, L1, P15, N1, N2, N3, N4, N5, N6, N7, I1, I2, I3, I4, I5, I6, I7, reduceIte, reduceCtorEq, h2, a0, hw]
          exact SemW_weak (ih (k + 1) ⟨by omega, hq⟩ (by omega)) (by simp only [PWeak_nil, PWeak_junk, PWeak_same, Int.cast_ofNat_Int, List.length_append, List.length_cons, List.length_nil, Nat.zero_add])
      · have a0 : (a : Int) = 0 := by
          have : ¬ 0 < a := fun h => h1 (ha.1 h)
          omega
        rw [if_neg (fun h => h1 (hta.1 h).1)] at hq
        by_cases h2 : o = side
        · simp only [PP, P1, P2, P3, P4, P5, P6, P7, P8, P9, P10, P11, P12, P13, P14, L1, P15, N1, N2, N3, N4, N5, N6, N7, I1, I2, I3, I4, I5, I6, I7, reduceIte, reduceCtorEq, h2, a0]
          refine QIf.intro (fun e => ?_) (fun e => ?_)
          · simp only [PP, P1, P2, P3, P4, P5, P6, P7, P8, P9, P10, P11, P12, P13, P14, L1, P15, N1, N2, N3, N4, N5, N6, N7, I1, I2, I3, I4, I5, I6, I7, reduceIte, reduceCtorEq, e, a0]; exact hq
          · simp only [PP, P1, P2, P3, P4, P5, P6, P7, P8, P9, P10, P11, P12, P13, P14, L1, P15, N1, N2, N3, N4, N5, N6, N7, I1, I2, I3, I4, I5, I6, I7, reduceIte, reduceCtorEq, e, a0]; exact hq
        · simp only [PP, P1, P2, P3, P4, P5, P6, P7, P8, P9, P10, P11, P12, P13, P14, L1, P15, N1, N2, N3, N4, N5, N6, N7, I1, I2, I3, I4, I5, I6, I7, reduceIte, reduceCtorEq, h2, a0]
          exact hq
  · rw [List.drop_eq_nil_of_le (by omega)] at hq
    simp only [PP, P1, P2, P3, P4, P5, P6, P7, P8, P9, P10, P11, P12, P13, P14, L1, P15, N1, N2, N3, N4, N5, N6, N7, I1, I2, I3, I4, I5, I6, I7, reduceIte, reduceCtorEq, c]
    exact hq
end
end Go.Am.Ar

set_option linter.unusedVariables false
set_option linter.unusedSimpArgs false
set_option maxRecDepth 10000
namespace Go.Am.Ar

theorem wrap_i64 {k : Nat} (h : k < 4000000000000) : IntKind.i64.wrap (k : Int) = (k : Int) := by
  simp only [IntKind.wrap, IntKind.signed, IntKind.bits]
  simp
  omega
theorem wrap_u64 {k : Nat} (h : k < 4000000000000) : IntKind.u64.wrap (k : Int) = (k : Int) := by
  simp only [IntKind.wrap, IntKind.signed, IntKind.bits]
  simp
  omega
theorem pshr_one (s : Nat) : pbin .shr (.int .u64 (s : Int)) (.int .u64 1) = some (.int .u64 ((s / 2 : Nat) : Int)) := by
  simp [pbin, toAV0, abin, isShift, binShift, IntKind.bits, Int.fdiv_eq_ediv, ofAV1]

/-- How many numbers come before v. -/
def lowB (v : Int) (xs : List Int) : Nat := (xs.takeWhile fun x => decide (x < v)).length
theorem lowB_of {v : Int} : ∀ {xs : List Int} {lo : Nat}, lo ≤ xs.length → (∀ i x, xs[i]? = some x → i < lo → x < v) → (∀ i x, xs[i]? = some x → lo ≤ i → v ≤ x) → lowB v xs = lo
  | [], lo, h0, _, _ => by simp at h0; simp [lowB, h0]
  | x :: xs, 0, h0, h1, h2 => by
    have : ¬ x < v := by have := h2 0 x rfl (Nat.le_refl _); omega
    simp [lowB, this]
  | x :: xs, lo + 1, h0, h1, h2 => by
    have hx : x < v := h1 0 x rfl (by omega)
    have := lowB_of (v := v) (xs := xs) (lo := lo) (by simpa using h0) (fun i y hy hi => h1 (i + 1) y (by simpa using hy) (by omega)) (fun i y hy hi => h2 (i + 1) y (by simpa using hy) (by omega))
    simp only [lowB] at this ⊢
    simp [hx, this]

def rowM (keep row : List Int) : List Int := (row.filter fun u => decide (u ∈ keep)).map fun u => ((lowB u keep : Nat) : Int)
def restrictM (ow pr : List Int) (su : List (List Int)) (keep : List Int) : PV :=
  if wrongM ow pr su 0 keep = 0 then (if (keep.length : Int) = 0 then .tuple [gz, p64 3] else
    if ∃ v ∈ keep, rowM keep (su.getD v.toNat []) = [] then .tuple [gz, p64 13] else
    .tuple [gmP false true false true false true false true (keep.map fun v => ow.getD v.toNat 0) (keep.map fun v => pr.getD v.toNat 0) (keep.map fun v => rowM keep (su.getD v.toNat [])), p64 0])
  else .tuple [gz, p64 (wrongM ow pr su 0 keep)]

end Go.Am.Ar

set_option linter.unusedVariables false
set_option linter.unusedSimpArgs false
set_option maxRecDepth 10000
namespace Go.Am.Ar

theorem eq_of_rise : ∀ {l m : List Int}, l.Pairwise (· < ·) → m.Pairwise (· < ·) → (∀ x, x ∈ l ↔ x ∈ m) → l = m
  | [], [], _, _, _ => rfl
  | [], y :: m, _, _, h => by have := (h y).2 (by simp); simp at this
  | x :: l, [], _, _, h => by have := (h x).1 (by simp); simp at this
  | x :: l, y :: m, hl, hm, h => by
    rw [List.pairwise_cons] at hl hm
    have e : x = y := by
      have h1 := (h x).1 (by simp)
      have h2 := (h y).2 (by simp)
      rcases List.mem_cons.1 h1 with h1 | h1
      · exact h1
      · rcases List.mem_cons.1 h2 with h2 | h2
        · exact h2.symm
        · have := hl.1 y h2
          have := hm.1 x h1
          omega
    subst e
    congr 1
    refine eq_of_rise hl.2 hm.2 fun z => ?_
    constructor
    · intro hz
      rcases List.mem_cons.1 ((h z).1 (by simp [hz])) with e | e
      · have := hl.1 z hz; omega
      · exact e
    · intro hz
      rcases List.mem_cons.1 ((h z).2 (by simp [hz])) with e | e
      · have := hm.1 z hz; omega
      · exact e

def refRow (row : List Int) : Nat → List Int → List Int
  | _, [] => []
  | k, x :: l => if x ∈ row then (k : Int) :: refRow row (k + 1) l else refRow row (k + 1) l
theorem refRow_mem {row : List Int} : ∀ {l : List Int} {k : Nat} {y : Int}, y ∈ refRow row k l ↔ ∃ (i : Nat) (x : Int), l[i]? = some x ∧ x ∈ row ∧ y = ((k + i : Nat) : Int)
  | [], k, y => by simp [refRow]
  | x :: l, k, y => by
    have ih := refRow_mem (row := row) (l := l) (k := k + 1) (y := y)
    have tail : (∃ (i : Nat) (z : Int), l[i]? = some z ∧ z ∈ row ∧ y = ((k + 1 + i : Nat) : Int)) → ∃ (i : Nat) (z : Int), (x :: l)[i]? = some z ∧ z ∈ row ∧ y = ((k + i : Nat) : Int) := by
      rintro ⟨i, z, h1, h2, h3⟩; exact ⟨i + 1, z, by simpa using h1, h2, by rw [h3]; congr 1; omega⟩
    unfold refRow
    split
    · rename_i hx
      rw [List.mem_cons, ih]
      constructor
      · rintro (rfl | h)
        · exact ⟨0, x, rfl, hx, rfl⟩
        · exact tail h
      · rintro ⟨i, z, h1, h2, h3⟩
        cases i with
        | zero => exact .inl (by simpa using h3)
        | succ i => exact .inr ⟨i, z, by simpa using h1, h2, by rw [h3]; congr 1; omega⟩
    · rename_i hx
      rw [ih]
      constructor
      · exact tail
      · rintro ⟨i, z, h1, h2, h3⟩
        cases i with
        | zero => simp at h1; subst h1; exact absurd h2 hx
        | succ i => exact ⟨i, z, by simpa using h1, h2, by rw [h3]; congr 1; omega⟩
theorem refRow_rise {row : List Int} : ∀ (l : List Int) (k : Nat), (refRow row k l).Pairwise (· < ·)
  | [], k => .nil
  | x :: l, k => by
    unfold refRow
    split
    · refine .cons (fun y hy => ?_) (refRow_rise l (k + 1))
      obtain ⟨i, z, _, _, rfl⟩ := refRow_mem.1 hy
      omega
    · exact refRow_rise l (k + 1)
theorem lowB_idx {keep : List Int} (hr : keep.Pairwise (· < ·)) {i : Nat} {u : Int} (hu : keep[i]? = some u) : lowB u keep = i := by
  refine lowB_of (Nat.le_of_lt (getSome_lt hu)) (fun j x hx hj => rise_get hr hx hu hj) (fun j x hx hj => ?_)
  rcases Nat.lt_or_ge i j with q | q
  · exact Int.le_of_lt (rise_get hr hu hx q)
  · have : i = j := by omega
    subst this; rw [hu] at hx; cases hx; exact Int.le_refl _
theorem rowM_eq {keep row : List Int} (hk : keep.Pairwise (· < ·)) (hr : row.Pairwise (· < ·)) : rowM keep row = refRow row 0 keep := by
  refine eq_of_rise ?_ (refRow_rise keep 0) fun y => ?_
  · unfold rowM
    rw [List.pairwise_map]
    refine List.Pairwise.imp_of_mem ?_ (hr.filter _)
    intro a b ha hb hab
    rw [List.mem_filter] at ha hb
    obtain ⟨i, hi⟩ := List.getElem?_of_mem (of_decide_eq_true ha.2)
    obtain ⟨j, hj⟩ := List.getElem?_of_mem (of_decide_eq_true hb.2)
    rw [lowB_idx hk hi, lowB_idx hk hj]
    rcases Nat.lt_or_ge i j with q | q
    · omega
    · rcases Nat.lt_or_ge j i with q2 | q2
      · have := rise_get hk hj hi q2; omega
      · have : i = j := by omega
        subst this; rw [hi] at hj; cases hj; omega
  · rw [refRow_mem]
    unfold rowM
    rw [List.mem_map]
    constructor
    · rintro ⟨u, hu, rfl⟩
      rw [List.mem_filter] at hu
      obtain ⟨i, hi⟩ := List.getElem?_of_mem (of_decide_eq_true hu.2)
      exact ⟨i, u, hi, hu.1, by rw [lowB_idx hk hi, Nat.zero_add]⟩
    · rintro ⟨i, u, hi, hu, rfl⟩
      exact ⟨u, List.mem_filter.2 ⟨hu, by simpa using List.mem_of_getElem? hi⟩, by rw [lowB_idx hk hi, Nat.zero_add]⟩

theorem Valid.rise {ow pr : List Int} {su : List (List Int)} (V : Valid ow pr su) {i : Nat} {row : List Int} (h : su[i]? = some row) : row.Pairwise (· < ·) ∧ ∀ x ∈ row, -1 < x ∧ x < ow.length := by
  have hi := getSome_lt h
  have := (V.row i hi).2.2.2.2
  rw [List.getElem?_eq_getElem hi] at h
  cases h
  exact posM_rise this

end Go.Am.Ar

set_option linter.unusedVariables false
namespace Go.Am.Ar
def rankedL (n : Nat) (R : Nat → Int) (b : Bool) : List Nat := (List.range n).filter fun v => decide (0 ≤ R v) == b
theorem rankedL_mem {n : Nat} {R : Nat → Int} {b : Bool} {v : Nat} : v ∈ rankedL n R b ↔ v < n ∧ decide (0 ≤ R v) = b := by simp [rankedL]
theorem rankedL_out {n : Nat} {R : Nat → Int} {v : Nat} : v ∈ rankedL n R false ↔ v < n ∧ R v < 0 := by
  rw [rankedL_mem, decide_eq_false_iff_not]; omega
theorem rankedL_in {n : Nat} {R : Nat → Int} {v : Nat} : v ∈ rankedL n R true ↔ v < n ∧ 0 ≤ R v := by
  rw [rankedL_mem, decide_eq_true_iff]
theorem rankedL_rise (n : Nat) (R : Nat → Int) (b : Bool) : (natI (rankedL n R b)).Pairwise (· < ·) ∧ ∀ x ∈ natI (rankedL n R b), -1 < x ∧ x < n := by
  constructor
  · refine List.pairwise_map.2 (List.Pairwise.filter _ (List.Pairwise.imp (fun h => ?_) List.pairwise_lt_range))
    omega
  · intro x hx
    obtain ⟨w, hw, rfl⟩ := List.mem_map.1 hx
    have := (rankedL_mem.1 hw).1
    omega
theorem rankedL_len (n : Nat) (R : Nat → Int) (b : Bool) : (rankedL n R b).length ≤ n := by
  have := List.length_filter_le (fun v => decide (0 ≤ R v) == b) (List.range n)
  rwa [List.length_range] at this
theorem rankedL_congr {n : Nat} {R R' : Nat → Int} {b : Bool} (h : ∀ v, v < n → (0 ≤ R v ↔ 0 ≤ R' v)) : rankedL n R b = rankedL n R' b := by
  unfold rankedL
  refine List.filter_congr fun v hv => ?_
  have := h v (List.mem_range.1 hv)
  simp only [this]
theorem rankedL_wrong {ow pr keep : List Int} {su : List (List Int)} {side : Int} (h : wrongM ow pr su side keep = 0) (R : Nat → Int) (b : Bool) : wrongM ow pr su side (natI (rankedL ow.length R b)) = 0 :=
  wrong_wide h (posM_of (rankedL_rise _ _ _).1 (rankedL_rise _ _ _).2)

section
variable {ow pr : List Int} {su : List (List Int)} {side : Int} {R : Nat → Int} {Z : Nat → Prop} (V : Valid ow pr su) (hR : IsRank ow.length (fun v => Pf ow side v = true) (Sf su) Z R) (hRn : ∀ v, v < ow.length → R v ≤ ow.length)
include V hR hRn
theorem out_some {v : Nat} (hv : v < ow.length) (h : R v < 0) : ∃ u ∈ su.getD v [], R u.toNat < 0 := by
  refine Classical.byContradiction fun hn => ?_
  have hall : ∀ u ∈ Sf su v, 0 ≤ R u ∧ R u ≤ ow.length := fun u hu => by
    obtain ⟨y, hy, rfl⟩ := List.mem_map.1 hu
    have h1 := su_range V hv hy
    exact ⟨Int.not_lt.1 fun q => hn ⟨y, hy, q⟩, hRn _ (by omega)⟩
  by_cases hp : Pf ow side v = true
  · obtain ⟨h1, h2, _⟩ := Sf_ok V hv
    cases hs : Sf su v with
    | nil => exact h1 hs
    | cons u l =>
      have hu : u ∈ Sf su v := by rw [hs]; simp
      have := hR.p' v hv hp u hu (hall u hu).1
      omega
  · have := hR.o' v hv hp ow.length (by omega) hall
    omega
omit V hRn in
theorem out_all {v : Nat} (hv : v < ow.length) (h : R v < 0) (hp : Pf ow side v = true) : ∀ u ∈ su.getD v [], R u.toNat < 0 := by
  intro u hu
  refine Int.not_le.1 fun q => ?_
  have := hR.p' v hv hp u.toNat (List.mem_map.2 ⟨u, hu, rfl⟩) q
  omega
theorem out_trap : trapL ow su side (natI (rankedL ow.length R false)) (natI (rankedL ow.length R false)) = true := by
  rw [trapL_iff]
  intro x hx
  obtain ⟨v, hv, rfl⟩ := List.mem_map.1 hx
  obtain ⟨hv1, hv2⟩ := rankedL_out.1 hv
  have key : ∀ u ∈ su.getD v [], R u.toNat < 0 → u ∈ natI (rankedL ow.length R false) := fun u hu h => by
    have h1 := su_range V hv1 hu
    exact List.mem_map.2 ⟨u.toNat, rankedL_out.2 ⟨by omega, h⟩, by omega⟩
  refine ⟨?_, fun ho u hu => ?_⟩
  · obtain ⟨u, hu, h1⟩ := out_some V hR hRn hv1 hv2
    exact ⟨u, hu, key u hu h1⟩
  · exact key u hu (out_all hR hv1 hv2 (decide_eq_true ho) u hu)
theorem out_rows : ∀ v ∈ natI (rankedL ow.length R false), rowM (natI (rankedL ow.length R false)) (su.getD v.toNat []) ≠ [] := by
  intro x hx
  obtain ⟨v, hv, rfl⟩ := List.mem_map.1 hx
  obtain ⟨hv1, hv2⟩ := rankedL_out.1 hv
  obtain ⟨u, hu, h1⟩ := out_some V hR hRn hv1 hv2
  have h2 := su_range V hv1 hu
  intro e
  unfold rowM at e
  rw [List.map_eq_nil_iff, List.filter_eq_nil_iff] at e
  refine e u hu (decide_eq_true ?_)
  exact List.mem_map.2 ⟨u.toNat, rankedL_out.2 ⟨by omega, h1⟩, by omega⟩
/-- An attractor is its own attractor. -/
theorem again_iff {R2 : Nat → Int} (hR2 : IsRank ow.length (fun v => Pf ow side v = true) (Sf su) (fun v => Zf (natI (rankedL ow.length R true)) v = true) R2) :
    ∀ v, v < ow.length → (0 ≤ R2 v ↔ 0 ≤ R v) := by
  have key : ∀ (k v : Nat), v < ow.length → R2 v = k → 0 ≤ R v := by
    intro k
    induction k using Nat.strongRecOn with
    | ind k ih =>
      intro v hv hk
      rcases Nat.eq_zero_or_pos k with e | e
      · have := (hR2.z v hv).1 (by omega)
        have := of_decide_eq_true this
        exact (rankedL_in.1 (mem_natI.1 this)).2
      · by_cases hp : Pf ow side v = true
        · obtain ⟨u, hu, h1⟩ := hR2.p v hv hp (by omega)
          have hun := (Sf_ok V hv).2.1 u hu
          have := ih (k - 1) (by omega) u hun (by omega)
          exact (hR.p' v hv hp u hu this).1
        · have h1 := hR2.o v hv hp (by omega)
          exact (hR.o' v hv hp ow.length (by omega) fun u hu => by
            have hun := (Sf_ok V hv).2.1 u hu
            obtain ⟨q1, q2⟩ := h1 u hu
            exact ⟨ih (R2 u).toNat (by omega) u hun (by omega), hRn u hun⟩).1
  intro v hv
  constructor
  · intro h; exact key (R2 v).toNat v hv (by omega)
  · intro h
    have := (hR2.z v hv).2 (decide_eq_true (mem_natI.2 (rankedL_in.2 ⟨hv, h⟩)))
    omega
end
theorem lowB_lt {keep : List Int} (hr : keep.Pairwise (· < ·)) {u : Int} (hu : u ∈ keep) : lowB u keep < keep.length := by
  obtain ⟨i, hi⟩ := List.getElem?_of_mem hu
  rw [lowB_idx hr hi]
  exact getSome_lt hi
/-- A game restricted to a set in which every position keeps a successor is valid. -/
theorem restrict_valid {ow pr keep : List Int} {su : List (List Int)} (V : Valid ow pr su) (hk : keep.Pairwise (· < ·)) (hkn : ∀ x ∈ keep, -1 < x ∧ x < ow.length) (h0 : 0 < keep.length) (hrow : ∀ v ∈ keep, rowM keep (su.getD v.toNat []) ≠ []) :
    Valid (keep.map fun v => ow.getD v.toNat 0) (keep.map fun v => pr.getD v.toNat 0) (keep.map fun v => rowM keep (su.getD v.toNat [])) := by
  have hlen : keep.length ≤ ow.length := by
    have h1 : (keep.map Int.toNat).length ≤ ow.length := nodup_lenN _ _ (by
      rw [List.nodup_iff_pairwise_ne]
      refine List.pairwise_map.2 (List.Pairwise.imp_of_mem (fun ha hb h => ?_) hk)
      have := hkn _ ha; have := hkn _ hb
      omega) (fun x hx => by
      obtain ⟨y, hy, rfl⟩ := List.mem_map.1 hx
      have := hkn y hy; omega)
    rwa [List.length_map] at h1
  have n1 := V.n1
  refine ⟨by rw [List.length_map]; exact h0, by rw [List.length_map]; omega, by rw [List.length_map, List.length_map], by rw [List.length_map, List.length_map], fun i hi => ?_⟩
  rw [List.length_map] at hi
  have hm : keep[i] ∈ keep := List.getElem_mem hi
  have hki := hkn _ hm
  have hs : keep[i].toNat < su.length := by rw [V.s]; omega
  obtain ⟨h1, h2, h3, h4, h5⟩ := V.row keep[i].toNat hs
  have e1 : (keep.map fun v => pr.getD v.toNat 0).getD i 0 = pr.getD keep[i].toNat 0 := by rw [List.getD, List.getElem?_map, List.getElem?_eq_getElem hi]; rfl
  have e2 : (keep.map fun v => ow.getD v.toNat 0).getD i 0 = ow.getD keep[i].toNat 0 := by rw [List.getD, List.getElem?_map, List.getElem?_eq_getElem hi]; rfl
  rw [e1, e2, List.getElem_map]
  refine ⟨h1, h2, h3, List.length_pos_iff.2 (hrow _ hm), ?_⟩
  have e3 : ((keep.map fun v => ow.getD v.toNat 0).length : Int) = keep.length := by rw [List.length_map]
  rw [e3]
  have hsr : (su.getD keep[i].toNat []).Pairwise (· < ·) := by
    rw [List.getD, List.getElem?_eq_getElem hs]; exact (posM_rise h5).1
  rw [rowM_eq hk hsr]
  refine posM_of (refRow_rise _ _) fun x hx => ?_
  obtain ⟨j, y, hj, _, rfl⟩ := refRow_mem.1 hx
  have := getSome_lt hj
  omega
theorem rankOf_le {ow pr : List Int} {su : List (List Int)} (V : Valid ow pr su) {side : Int} {keep : List Int} : ∀ v, v < ow.length → rkOf ow su side keep v ≤ ow.length := fun v hv => (rk_range _ _).2
theorem strat_nonneg {ow pr : List Int} {su : List (List Int)} {side : Int} {keep : List Int} (V : Valid ow pr su) (hR : IsRank ow.length (fun v => Pf ow side v = true) (Sf su) (fun v => Zf keep v = true) (rkOf ow su side keep)) {v : Nat} (hv : v < ow.length) :
    0 ≤ stratOf ow su side (rkOf ow su side keep) v ↔ 0 < rkOf ow su side keep v ∧ ow.getD v 0 = side := by
  unfold stratOf
  by_cases h : 0 < rkOf ow su side keep v ∧ ow.getD v 0 = side
  · rw [if_pos h]
    refine ⟨fun _ => h, fun _ => ?_⟩
    obtain ⟨u, hu, h1⟩ := hR.p v hv (decide_eq_true h.2) h.1
    obtain ⟨y, hy, rfl⟩ := List.mem_map.1 hu
    exact firstS_some (fun u hu => (su_range V hv hu).1) ⟨y, hy, h1⟩
  · rw [if_neg h]
    exact ⟨fun q => by omega, fun q => absurd q h⟩
end Go.Am.Ar

set_option linter.unusedVariables false
set_option linter.unusedSimpArgs false
set_option maxRecDepth 10000
namespace Go.Am.Ar
open Go.Am renaming pchk → P1, pold → P2, PKNo → P3, ppack → P4, PObj.under → P5, pput → P6, ptset → P7, ptget → P8, pev → P9, ofAV → P10, ofAV1 → P11, ppad → P12, pfill → P13, prepl → P14, AO.effect → P15
open List renaming replicate → L1
open Nat renaming reduceAdd → N1, reduceSub → N2, reduceMul → N3, reduceLT → N4, reduceLeDiff → N5, reduceEqDiff → N6, reduceBEq → N7
open Int renaming reduceToNat → I1, reduceLT → I2, reduceLE → I3, reduceEq → I4, reduceAdd → I5, reduceSub → I6, reduceNeg → I7
section
variable {tab : FuncId → Option AF} (T : HasA tab)
include T

theorem isNaN_p {M : Mem} {K : PV → Mem → Prop} {x : Int} (hq : K (.bool false) M) : SemC tab 68 [p64 x] M K := by
  refine SemC_pure T.h68 (by simp only [PP, P1, P2, P3, P4, P5, P6, P7, P8, P9, P10, P11, P12, P13, P14, L1, P15, N1, N2, N3, N4, N5, N6, N7, I1, I2, I3, I4, I5, I6, I7, reduceIte, reduceCtorEq]) ?_
  simp only [af68, PP, P1, P2, P3, P4, P5, P6, P7, P8, P9, P10, P11, P12, P13, P14, L1, P15, N1, N2, N3, N4, N5, N6, N7, I1, I2, I3, I4, I5, I6, I7, reduceIte, reduceCtorEq]
  exact hq
theorem sisNaN_p {M : Mem} {K : PV → Mem → Prop} {x : Int} (hq : K (.bool false) M) : SemC tab 61 [p64 x] M K := by
  refine SemC_pure T.h61 (by simp only [PP, P1, P2, P3, P4, P5, P6, P7, P8, P9, P10, P11, P12, P13, P14, L1, P15, N1, N2, N3, N4, N5, N6, N7, I1, I2, I3, I4, I5, I6, I7, reduceIte, reduceCtorEq]) ?_
  simp only [af61, PP, P1, P2, P3, P4, P5, P6, P7, P8, P9, P10, P11, P12, P13, P14, L1, P15, N1, N2, N3, N4, N5, N6, N7, I1, I2, I3, I4, I5, I6, I7, reduceIte, reduceCtorEq]
  exact hq
theorem less_p {M : Mem} {K : PV → Mem → Prop} {x y : Int} (hq : K (.bool (decide (x < y))) M) : SemC tab 60 [p64 x, p64 y] M K := by
  refine SemC_pure T.h60 (by simp only [PP, P1, P2, P3, P4, P5, P6, P7, P8, P9, P10, P11, P12, P13, P14, L1, P15, N1, N2, N3, N4, N5, N6, N7, I1, I2, I3, I4, I5, I6, I7, reduceIte, reduceCtorEq]) ?_
  simp only [af60, PP, P1, P2, P3, P4, P5, P6, P7, P8, P9, P10, P11, P12, P13, P14, L1, P15, N1, N2, N3, N4, N5, N6, N7, I1, I2, I3, I4, I5, I6, I7, reduceIte, reduceCtorEq]
  refine isNaN_p T ?_
  simp only [PP, P1, P2, P3, P4, P5, P6, P7, P8, P9, P10, P11, P12, P13, P14, L1, P15, N1, N2, N3, N4, N5, N6, N7, I1, I2, I3, I4, I5, I6, I7, reduceIte, reduceCtorEq]
  exact hq

theorem search_p {M : Mem} {K : PV → Mem → Prop} {f o : Bool} {xs : List Int} {v : Int} (hm : xs.length < big) (hs : xs.Pairwise (· < ·)) (hq : K (.tuple [p64 (lowB v xs), .bool (decide (v ∈ xs))]) M) :
    SemC tab 52 [slI f o .i64 xs, p64 v] M K := by
  refine SemC_pure T.h52 (by simp only [PP, P1, P2, P3, P4, P5, P6, P7, P8, P9, P10, P11, P12, P13, P14, L1, P15, N1, N2, N3, N4, N5, N6, N7, I1, I2, I3, I4, I5, I6, I7, reduceIte, reduceCtorEq]) ?_
  simp only [af52, PP, P1, P2, P3, P4, P5, P6, P7, P8, P9, P10, P11, P12, P13, P14, L1, P15, N1, N2, N3, N4, N5, N6, N7, I1, I2, I3, I4, I5, I6, I7, reduceIte, reduceCtorEq]
  refine loop2 (fun (lo hi : Nat) => lo ≤ hi ∧ hi ≤ xs.length ∧ (∀ i x, xs[i]? = some x → i < lo → x < v) ∧ (∀ i x, xs[i]? = some x → hi ≤ i → v ≤ x)) (fun lo hi => [slI f o .i64 xs, p64 v, .junk, .junk, .junk, .junk, p64 xs.length, p64 lo, p64 hi, .junk, .junk, .junk, .junk, .junk, .junk, .junk, .junk, .junk, .junk, .junk, .junk, .junk, .junk, .junk, .junk, .junk, .junk, .junk, .junk, .junk, .junk, .junk, .junk, .junk, .junk, .junk, .junk, .junk, .junk, .junk, .junk, .junk, .junk, .junk, .junk, .junk, .junk, .junk, .junk, .junk, .junk, .junk, .junk, .junk]) (fun _ _ => []) (fun lo hi => hi - lo) 0 xs.length ⟨by omega, by omega, fun i x h1 h2 => by omega, fun i x h1 h2 => by have := getSome_lt h1; omega⟩ (by simp only [PWeak_nil, PWeak_junk, PWeak_same, Int.cast_ofNat_Int, List.length_append, List.length_cons, List.length_nil, Nat.zero_add]) rfl ?_
  intro lo hi ⟨h1, h2, h3, h4⟩ ih
  refine SemW_go (by kernel_rfl) ?_
  have hb : xs.length < 1000000000000 := hm
  simp only [PP, P1, P2, P3, P4, P5, P6, P7, P8, P9, P10, P11, P12, P13, P14, L1, P15, N1, N2, N3, N4, N5, N6, N7, I1, I2, I3, I4, I5, I6, I7, reduceIte, reduceCtorEq]
  refine QIf.intro (fun c => ?_) (fun c => ?_)
  · have w1 : IntKind.i64.wrap ((lo : Int) + hi) = ((lo + hi : Nat) : Int) := by
      rw [show (lo : Int) + hi = ((lo + hi : Nat) : Int) by omega]; exact wrap_i64 (by omega)
    have w2 : IntKind.u64.wrap ((lo + hi : Nat) : Int) = ((lo + hi : Nat) : Int) := wrap_u64 (by omega)
    have w3 : IntKind.i64.wrap (((lo + hi) / 2 : Nat) : Int) = (((lo + hi) / 2 : Nat) : Int) := wrap_i64 (by omega)
    have hmid : (lo + hi) / 2 < xs.length := by omega
    have hge : lo ≤ (lo + hi) / 2 := by omega
    have hlh : (lo + hi) / 2 < hi := by omega
    have w4 := wrap_succ (k := (lo + hi) / 2) (by show _ < 1000000000000; omega)
    have hs' := pshr_one (lo + hi)
    generalize (lo + hi) / 2 = mid at *
    obtain ⟨x, g1⟩ := some_of hmid
    have k0 : (0 : Int) ≤ mid := by omega
    have k1 : (mid : Int) < xs.length := by omega
    simp only [PP, P1, P2, P3, P4, P5, P6, P7, P8, P9, P10, P11, P12, P13, P14, L1, P15, N1, N2, N3, N4, N5, N6, N7, I1, I2, I3, I4, I5, I6, I7, reduceIte, reduceCtorEq, c, w1, w2, hs', w3, g1, k0, k1]
    refine less_p T ?_
    by_cases c : x < v
    · simp only [PP, P1, P2, P3, P4, P5, P6, P7, P8, P9, P10, P11, P12, P13, P14, L1, P15, N1, N2, N3, N4, N5, N6, N7, I1, I2, I3, I4, I5, I6, I7, reduceIte, reduceCtorEq, c, w4]
      exact SemW_weak (ih (mid + 1) hi ⟨by omega, h2, fun i y hy hi => by
        rcases Nat.lt_or_ge i mid with q | q
        · have := rise_get hs hy g1 q; omega
        · have : i = mid := by omega
          subst this; rw [g1] at hy; cases hy; exact c, h4⟩ (by omega)) (by simp only [PWeak_nil, PWeak_junk, PWeak_same, Int.cast_ofNat_Int, List.length_append, List.length_cons, List.length_nil, Nat.zero_add])
    · simp only [PP, P1, P2, P3, P4, P5, P6, P7, P8, P9, P10, P11, P12, P13, P14, L1, P15, N1, N2, N3, N4, N5, N6, N7, I1, I2, I3, I4, I5, I6, I7, reduceIte, reduceCtorEq, c]
      exact SemW_weak (ih lo mid ⟨by omega, by omega, h3, fun i y hy hi => by
        rcases Nat.lt_or_ge mid i with q | q
        · have := rise_get hs g1 hy q; omega
        · have : i = mid := by omega
          subst this; rw [g1] at hy; cases hy; omega⟩ (by omega)) (by simp only [PWeak_nil, PWeak_junk, PWeak_same, Int.cast_ofNat_Int, List.length_append, List.length_cons, List.length_nil, Nat.zero_add])
  · have e : hi = lo := by omega
    subst e
    have hl := lowB_of h2 h3 h4
    rw [hl] at hq
    by_cases c2 : hi < xs.length
    · obtain ⟨x, g1⟩ := some_of c2
      have k0 : (0 : Int) ≤ hi := by omega
      have k1 : (hi : Int) < xs.length := by omega
      by_cases d : x = v
      · subst d
        have : x ∈ xs := List.mem_of_getElem? g1
        simp only [PP, P1, P2, P3, P4, P5, P6, P7, P8, P9, P10, P11, P12, P13, P14, L1, P15, N1, N2, N3, N4, N5, N6, N7, I1, I2, I3, I4, I5, I6, I7, reduceIte, reduceCtorEq, k0, k1, g1, this, Int.lt_irrefl] at hq ⊢
        exact hq
      · have hni : ¬ v ∈ xs := by
          intro hv
          obtain ⟨j, hj⟩ := List.getElem?_of_mem hv
          have a1 := h4 hi x g1 (Nat.le_refl _)
          rcases Nat.lt_or_ge j hi with q | q
          · have := h3 j v hj q; omega
          · rcases Nat.lt_or_ge hi j with q2 | q2
            · have := rise_get hs g1 hj q2; omega
            · have : j = hi := by omega
              subst this; rw [g1] at hj; cases hj; exact d rfl
        simp only [PP, P1, P2, P3, P4, P5, P6, P7, P8, P9, P10, P11, P12, P13, P14, L1, P15, N1, N2, N3, N4, N5, N6, N7, I1, I2, I3, I4, I5, I6, I7, reduceIte, reduceCtorEq, k0, k1, g1, d, hni, Int.lt_irrefl] at hq ⊢
        refine sisNaN_p T ?_
        simp only [PP, P1, P2, P3, P4, P5, P6, P7, P8, P9, P10, P11, P12, P13, P14, L1, P15, N1, N2, N3, N4, N5, N6, N7, I1, I2, I3, I4, I5, I6, I7, reduceIte, reduceCtorEq]
        exact hq
    · have k1 : ¬ (hi : Int) < xs.length := by omega
      have hni : ¬ v ∈ xs := by
        intro hv
        obtain ⟨j, hj⟩ := List.getElem?_of_mem hv
        have := getSome_lt hj
        have := h3 j v hj (by omega)
        omega
      simp only [PP, P1, P2, P3, P4, P5, P6, P7, P8, P9, P10, P11, P12, P13, P14, L1, P15, N1, N2, N3, N4, N5, N6, N7, I1, I2, I3, I4, I5, I6, I7, reduceIte, reduceCtorEq, k1, hni, Int.lt_irrefl] at hq ⊢
      exact hq
end
end Go.Am.Ar

set_option linter.unusedVariables false
set_option linter.unusedSimpArgs false
set_option maxRecDepth 10000
namespace Go.Am.Ar
open Go.Am renaming pchk → P1, pold → P2, PKNo → P3, ppack → P4, PObj.under → P5, pput → P6, ptset → P7, ptget → P8, pev → P9, ofAV → P10, ofAV1 → P11, ppad → P12, pfill → P13, prepl → P14, AO.effect → P15
open List renaming replicate → L1
open Nat renaming reduceAdd → N1, reduceSub → N2, reduceMul → N3, reduceLT → N4, reduceLeDiff → N5, reduceEqDiff → N6, reduceBEq → N7
open Int renaming reduceToNat → I1, reduceLT → I2, reduceLE → I3, reduceEq → I4, reduceAdd → I5, reduceSub → I6, reduceNeg → I7
section
variable {tab : FuncId → Option AF} (T : HasA tab)
include T

theorem restrict_p {M : Mem} {K : PV → Mem → Prop} {f1 o1 f2 o2 f3 o3 f4 o4 f5 o5 : Bool} {ow pr keep : List Int} {su : List (List Int)} (B : Bnd ow pr su) (hb : keep.length < big) (hq : K (restrictM ow pr su keep) M) :
    SemC tab 28 [gmP f1 o1 f2 o2 f3 o3 f4 o4 ow pr su, slI f5 o5 .i64 keep] M K := by
  refine SemC_pure T.h28 (by simp only [PP, P1, P2, P3, P4, P5, P6, P7, P8, P9, P10, P11, P12, P13, P14, L1, P15, N1, N2, N3, N4, N5, N6, N7, I1, I2, I3, I4, I5, I6, I7, reduceIte, reduceCtorEq]) ?_
  simp only [af28, PP, P1, P2, P3, P4, P5, P6, P7, P8, P9, P10, P11, P12, P13, P14, L1, P15, N1, N2, N3, N4, N5, N6, N7, I1, I2, I3, I4, I5, I6, I7, reduceIte, reduceCtorEq, restrictM] at hq ⊢
  refine acheck_p T B hb ?_
  simp only [PP, P1, P2, P3, P4, P5, P6, P7, P8, P9, P10, P11, P12, P13, P14, L1, P15, N1, N2, N3, N4, N5, N6, N7, I1, I2, I3, I4, I5, I6, I7, reduceIte, reduceCtorEq]
  refine QIf.intro (fun c1 => ?_) (fun c1 => ?_)
  rotate_left
  · simp only [PP, P1, P2, P3, P4, P5, P6, P7, P8, P9, P10, P11, P12, P13, P14, L1, P15, N1, N2, N3, N4, N5, N6, N7, I1, I2, I3, I4, I5, I6, I7, reduceIte, reduceCtorEq, c1] at hq ⊢
    exact hq
  simp only [PP, P1, P2, P3, P4, P5, P6, P7, P8, P9, P10, P11, P12, P13, P14, L1, P15, N1, N2, N3, N4, N5, N6, N7, I1, I2, I3, I4, I5, I6, I7, reduceIte, reduceCtorEq, c1] at hq ⊢
  refine QIf.intro (fun c2 => ?_) (fun c2 => ?_)
  · simp only [PP, P1, P2, P3, P4, P5, P6, P7, P8, P9, P10, P11, P12, P13, P14, L1, P15, N1, N2, N3, N4, N5, N6, N7, I1, I2, I3, I4, I5, I6, I7, reduceIte, reduceCtorEq, c2] at hq ⊢
    exact hq
  simp only [PP, P1, P2, P3, P4, P5, P6, P7, P8, P9, P10, P11, P12, P13, P14, L1, P15, N1, N2, N3, N4, N5, N6, N7, I1, I2, I3, I4, I5, I6, I7, reduceIte, reduceCtorEq, c2] at hq ⊢
  obtain ⟨V, _, hpm⟩ := wrong_zero c1
  obtain ⟨hrise, hrange⟩ := posM_rise hpm
  have hs := V.s
  have hp := V.p
  have n1 := V.n1
  have hb' : keep.length < 1000000000000 := hb
  refine SemW_re (GStep.nilbox 1 0 1 rfl rfl rfl) ?_
  refine SemW_re (GStep.nilbox 1 1 1 rfl rfl rfl) ?_
  refine SemW_re (GStep.nilbox 1 2 1 rfl rfl rfl) ?_
  simp only [List.length_cons, List.length_nil, List.length_append, List.length_set, List.set_cons_zero, List.set_cons_succ, List.cons_append, List.nil_append, Nat.reduceAdd]
  refine loop6 (fun (k v g : Nat) (a1 a2 : List Int) (a3 : List (List Int)) => k ≤ keep.length ∧ a1 = (keep.take k).map (fun v => ow.getD v.toNat 0) ∧ a2 = (keep.take k).map (fun v => pr.getD v.toNat 0) ∧ a3 = (keep.take k).map (fun v => rowM keep (su.getD v.toNat [])) ∧ [] ∉ a3)
    (fun k v g a1 a2 a3 => [.junk, slI f5 o5 .i64 keep, .ptr 0 0 0, .junk, .ptr 1 0 0, .junk, .junk, .junk, .junk, .junk, .junk, .junk, .junk, .junk, .junk, .junk, .junk, .junk, .junk, .junk, .junk, .junk, .junk, .junk, .junk, slI f5 o5 .i64 keep, p64 keep.length, p64 k, .junk, .junk, .junk, .junk, .junk, .junk, .junk, .junk, .junk, .junk, .junk, .junk, .junk, .junk, .junk, .junk, .junk, .junk, .junk, .junk, .junk, .junk, .junk, .junk, .junk, .junk, .junk, .junk, .junk, .junk, .junk, .junk, .junk, .junk, .junk, .junk, .junk, .junk, .junk, .junk, .junk, .junk, .junk, .junk, .junk, .junk, .junk, .junk, .junk, .junk, .junk, .junk, .junk, .junk, .junk, .junk, .junk])
    (fun k v g a1 a2 a3 => [.cells 0 0 [slI f1 o1 .u8 ow, slI f2 o2 .i64 pr, slR f3 o3 f4 o4 .i64 su], .cells 0 v [.ref 2 g 1 0 a1.length, .ref 3 g 1 0 a2.length, .ref 4 g 1 0 a3.length], .cells g 0 (a1.map (PV.int .u8)), .cells g 0 (a2.map (PV.int .i64)), .cells g 0 (a3.map (slI false true .i64))])
    (fun k _ _ _ _ _ => keep.length - k) 0 0 0 [] [] [] ⟨by omega, rfl, rfl, rfl, by simp⟩ (by simp only [PWeak_nil, PWeak_junk, PWeak_same, Int.cast_ofNat_Int, List.length_append, List.length_cons, List.length_nil, Nat.zero_add]) rfl ?_
  intro k v g a1 a2 a3 ⟨hle, ha1, ha2, ha3, hne⟩ ih
  refine SemW_go (by kernel_rfl) ?_
  simp only [PP, P1, P2, P3, P4, P5, P6, P7, P8, P9, P10, P11, P12, P13, P14, L1, P15, N1, N2, N3, N4, N5, N6, N7, I1, I2, I3, I4, I5, I6, I7, reduceIte, reduceCtorEq]
  refine QIf.intro (fun c => ?_) (fun c => ?_)
  · have hk' : k < keep.length := by omega
    obtain ⟨x, g1⟩ := some_of hk'
    obtain ⟨hx0, hx1⟩ := hrange x (List.mem_of_getElem? g1)
    have h0 : (0 : Int) ≤ k := by omega
    have hw := wrap_succ (k := k) (by show _ < 1000000000000; omega)
    have x0 : (0 : Int) ≤ x := by omega
    have x1 : x < (ow.length : Int) := hx1
    have x2 : x < (pr.length : Int) := by omega
    have x3 : x < (su.length : Int) := by omega
    obtain ⟨row, q1⟩ := some_of (xs := su) (k := x.toNat) (by omega)
    obtain ⟨o, q2⟩ := some_of (xs := ow) (k := x.toNat) (by omega)
    obtain ⟨p, q3⟩ := some_of (xs := pr) (k := x.toNat) (by omega)
    have hrb := B.r row (List.mem_of_getElem? q1)
    have hrb' : row.length < 1000000000000 := hrb
    simp only [PP, P1, P2, P3, P4, P5, P6, P7, P8, P9, P10, P11, P12, P13, P14, L1, P15, N1, N2, N3, N4, N5, N6, N7, I1, I2, I3, I4, I5, I6, I7, reduceIte, reduceCtorEq, c, g1, h0, x0, x3, q1]
    refine SemW_gh ?_
    refine SemW_re (GStep.nil 9 1 rfl rfl rfl) ?_
    simp only [ptset, List.cons_append, List.nil_append, List.length_cons, List.length_nil, Nat.reduceAdd]
    refine loop3 (fun (j g2 : Nat) (acc : List Int) => j ≤ row.length ∧ acc = rowM keep (row.take j))
      (fun j g2 acc => [.junk, slI f5 o5 .i64 keep, .ptr 0 0 0, .junk, .ptr 1 0 0, .junk, .junk, .junk, p64 x, .ref 5 g2 1 0 acc.length, .junk, .junk, .junk, .junk, .junk, .junk, .junk, .junk, .junk, .junk, .junk, .junk, .junk, .junk, .junk, slI f5 o5 .i64 keep, p64 keep.length, p64 k, .junk, .junk, .junk, .junk, .junk, .junk, .junk, slI f4 o4 .i64 row, p64 row.length, p64 j, .junk, .junk, .junk, .junk, .junk, .junk, .junk, .junk, .junk, .junk, .junk, .junk, .junk, .junk, .junk, .junk, .junk, .junk, .junk, .junk, .junk, .junk, .junk, .junk, .junk, .junk, .junk, .junk, .junk, .junk, .junk, .junk, .junk, .junk, .junk, .junk, .junk, .junk, .junk, .junk, .junk, .junk, .junk, .junk, .junk, .junk, .junk])
      (fun j g2 acc => [.cells 0 0 [slI f1 o1 .u8 ow, slI f2 o2 .i64 pr, slR f3 o3 f4 o4 .i64 su], .cells 0 v [.ref 2 g 1 0 a1.length, .ref 3 g 1 0 a2.length, .ref 4 g 1 0 a3.length], .cells g 0 (a1.map (PV.int .u8)), .cells g 0 (a2.map (PV.int .i64)), .cells g 0 (a3.map (slI false true .i64)), .cells g2 0 (acc.map (PV.int .i64))])
      (fun j _ _ => row.length - j) 0 0 [] ⟨by omega, rfl⟩ (by simp only [PWeak_nil, PWeak_junk, PWeak_same, Int.cast_ofNat_Int, List.length_append, List.length_cons, List.length_nil, Nat.zero_add]) rfl ?_
    intro j g2 acc ⟨hjle, hacc⟩ ih2
    refine SemW_go (by kernel_rfl) ?_
    simp only [PP, P1, P2, P3, P4, P5, P6, P7, P8, P9, P10, P11, P12, P13, P14, L1, P15, N1, N2, N3, N4, N5, N6, N7, I1, I2, I3, I4, I5, I6, I7, reduceIte, reduceCtorEq]
    refine QIf.intro (fun d => ?_) (fun d => ?_)
    · have hj' : j < row.length := by omega
      obtain ⟨u, e1⟩ := some_of hj'
      have j0 : (0 : Int) ≤ j := by omega
      have hwj := wrap_succ (k := j) (by show _ < 1000000000000; omega)
      simp only [PP, P1, P2, P3, P4, P5, P6, P7, P8, P9, P10, P11, P12, P13, P14, L1, P15, N1, N2, N3, N4, N5, N6, N7, I1, I2, I3, I4, I5, I6, I7, reduceIte, reduceCtorEq, d, e1, j0]
      refine search_p T hb hrise ?_
      simp only [PP, P1, P2, P3, P4, P5, P6, P7, P8, P9, P10, P11, P12, P13, P14, L1, P15, N1, N2, N3, N4, N5, N6, N7, I1, I2, I3, I4, I5, I6, I7, reduceIte, reduceCtorEq]
      by_cases hu : u ∈ keep
      · have hal : acc.length ≤ j := by
          rw [hacc]; simp only [rowM, List.length_map]
          exact Nat.le_trans (List.length_filter_le _ _) (by simp; omega)
        have b1 : (acc.length + 1) * 8 ≤ 140737488355328 := by omega
        have b2 : acc.length + 1 ≤ 9223372036854775807 := by omega
        simp only [PP, P1, P2, P3, P4, P5, P6, P7, P8, P9, P10, P11, P12, P13, P14, L1, P15, N1, N2, N3, N4, N5, N6, N7, I1, I2, I3, I4, I5, I6, I7, reduceIte, reduceCtorEq, hu, b1, b2, hwj]
        refine SemW_to (ih2 (j + 1) (g2 + 1) (acc ++ [((lowB u keep : Nat) : Int)]) ⟨by omega, ?_⟩ (by omega)) (by simp only [PWeak_nil, PWeak_junk, PWeak_same, Int.cast_ofNat_Int, List.length_append, List.length_cons, List.length_nil, Nat.zero_add]) (by simp only [List.map_append, List.map_cons, List.map_nil])
        rw [take_some e1, hacc]; simp [rowM, hu]
      · simp only [PP, P1, P2, P3, P4, P5, P6, P7, P8, P9, P10, P11, P12, P13, P14, L1, P15, N1, N2, N3, N4, N5, N6, N7, I1, I2, I3, I4, I5, I6, I7, reduceIte, reduceCtorEq, hu, hwj]
        refine SemW_weak (ih2 (j + 1) g2 acc ⟨by omega, ?_⟩ (by omega)) (by simp only [PWeak_nil, PWeak_junk, PWeak_same, Int.cast_ofNat_Int, List.length_append, List.length_cons, List.length_nil, Nat.zero_add])
        rw [take_some e1, hacc]; simp [rowM, hu]
    · have hacc : acc = rowM keep row := by rw [hacc, List.take_of_length_le (by omega)]
      simp only [PP, P1, P2, P3, P4, P5, P6, P7, P8, P9, P10, P11, P12, P13, P14, L1, P15, N1, N2, N3, N4, N5, N6, N7, I1, I2, I3, I4, I5, I6, I7, reduceIte, reduceCtorEq, d]
      refine Gh.step (GStep.freeze (b := [.junk, slI f5 o5 .i64 keep, .ptr 0 0 0, .junk, .ptr 1 0 0, .junk, .junk, .junk, p64 x, slI false true .i64 acc, .junk, .junk, .junk, .junk, .junk, .junk, .junk, .junk, .junk, .junk, .junk, .junk, .junk, .junk, .junk, slI f5 o5 .i64 keep, p64 keep.length, p64 k, .junk, .junk, .junk, .junk, .junk, .junk, .junk, .junk, .junk, .junk, .junk, .junk, .junk, .junk, .junk, .junk, .junk, .junk, .junk, .junk, .junk, .junk, .junk, .junk, .junk, .junk, .junk, .junk, .junk, .junk, .junk, .junk, .junk, .junk, .junk, .junk, .junk, .junk, .junk, .junk, .junk, .junk, .junk, .junk, .junk, .junk, .junk, .junk, .junk, .junk, .junk, .junk, .junk, .junk, .junk, .junk, .junk]) 5 (Nat.zero_le _) rfl (by simp only [PFrz_nil, PFrz_junk, PFrz_same, PFrz_ref, psub_map, Nat.mul_one, Nat.zero_add, List.length_map, Nat.le_refl]) rfl) (Gh.same ?_)
      have hrow : rowM keep (su.getD x.toNat []) = acc := by rw [hacc]; simp [List.getD, q1]
      simp only [PP, P1, P2, P3, P4, P5, P6, P7, P8, P9, P10, P11, P12, P13, P14, L1, P15, N1, N2, N3, N4, N5, N6, N7, I1, I2, I3, I4, I5, I6, I7, reduceIte, reduceCtorEq]
      refine QIf.intro (fun d2 => ?_) (fun d2 => ?_)
      · have hex : ∃ v ∈ keep, rowM keep (su.getD v.toNat []) = [] := ⟨x, List.mem_of_getElem? g1, by rw [hrow]; exact List.length_eq_zero_iff.1 (by omega)⟩
        simp only [PP, P1, P2, P3, P4, P5, P6, P7, P8, P9, P10, P11, P12, P13, P14, L1, P15, N1, N2, N3, N4, N5, N6, N7, I1, I2, I3, I4, I5, I6, I7, reduceIte, reduceCtorEq, d2, hex] at hq ⊢
        exact hq
      · have l1 : a1.length = k := by rw [ha1]; simp; omega
        have l2 : a2.length = k := by rw [ha2]; simp; omega
        have l3 : a3.length = k := by rw [ha3]; simp; omega
        have b1 : a1.length + 1 ≤ 140737488355328 := by omega
        have b2 : (a2.length + 1) * 8 ≤ 140737488355328 := by omega
        have b3 : (a3.length + 1) * 24 ≤ 140737488355328 := by omega
        have b4 : a1.length + 1 ≤ 9223372036854775807 := by omega
        have b5 : a2.length + 1 ≤ 9223372036854775807 := by omega
        have b6 : a3.length + 1 ≤ 9223372036854775807 := by omega
        simp only [PP, P1, P2, P3, P4, P5, P6, P7, P8, P9, P10, P11, P12, P13, P14, L1, P15, N1, N2, N3, N4, N5, N6, N7, I1, I2, I3, I4, I5, I6, I7, reduceIte, reduceCtorEq, d2, x0, x1, x2, q2, q3, b1, b2, b3, b4, b5, b6, hw]
        refine SemW_re (GStep.drop (b := [.junk, slI f5 o5 .i64 keep, .ptr 0 0 0, .junk, .ptr 1 0 0, .junk, .junk, .junk, .junk, .junk, .junk, .junk, .junk, .junk, .junk, .junk, .junk, .junk, .junk, .junk, .junk, .junk, .junk, .junk, .junk, slI f5 o5 .i64 keep, p64 keep.length, p64 ((k + 1 : Nat) : Int), .junk, .junk, .junk, .junk, .junk, .junk, .junk, .junk, .junk, .junk, .junk, .junk, .junk, .junk, .junk, .junk, .junk, .junk, .junk, .junk, .junk, .junk, .junk, .junk, .junk, .junk, .junk, .junk, .junk, .junk, .junk, .junk, .junk, .junk, .junk, .junk, .junk, .junk, .junk, .junk, .junk, .junk, .junk, .junk, .junk, .junk, .junk, .junk, .junk, .junk, .junk, .junk, .junk, .junk, .junk, .junk, .junk]) 5 (Nat.zero_le _) (by simp) (by simp only [PWeak_nil, PWeak_junk, PWeak_same, Int.cast_ofNat_Int, List.length_append, List.length_cons, List.length_nil, Nat.zero_add]) (by simp only [PP, P1, P2, P3, P4, P5, P6, P7, P8, P9, P10, P11, P12, P13, P14, L1, P15, N1, N2, N3, N4, N5, N6, N7, I1, I2, I3, I4, I5, I6, I7, reduceIte, reduceCtorEq]) (by simp only [PP, P1, P2, P3, P4, P5, P6, P7, P8, P9, P10, P11, P12, P13, P14, L1, P15, N1, N2, N3, N4, N5, N6, N7, I1, I2, I3, I4, I5, I6, I7, reduceIte, reduceCtorEq]) rfl) ?_
        refine SemW_to (ih (k + 1) (v + 1 + 1 + 1) (g + 1) (a1 ++ [o]) (a2 ++ [p]) (a3 ++ [acc]) ⟨by omega, ?_, ?_, ?_, ?_⟩ (by omega)) (by simp only [PWeak_nil, PWeak_junk, PWeak_same, Int.cast_ofNat_Int, List.length_append, List.length_cons, List.length_nil, Nat.zero_add]) (by simp only [PP, P1, P2, P3, P4, P5, P6, P7, P8, P9, P10, P11, P12, P13, P14, L1, P15, N1, N2, N3, N4, N5, N6, N7, I1, I2, I3, I4, I5, I6, I7, reduceIte, reduceCtorEq])
        · rw [take_some g1, ha1]; simp [List.getD, q2]
        · rw [take_some g1, ha2]; simp [List.getD, q3]
        · rw [take_some g1, ha3, List.map_append]; simp only [List.map_cons, List.map_nil, hrow]
        · simp only [List.mem_append, List.mem_singleton, not_or]
          exact ⟨hne, fun e => d2 (by rw [← e]; rfl)⟩
  · have ha1 : a1 = keep.map (fun v => ow.getD v.toNat 0) := by rw [ha1, List.take_of_length_le (by omega)]
    have ha2 : a2 = keep.map (fun v => pr.getD v.toNat 0) := by rw [ha2, List.take_of_length_le (by omega)]
    have ha3 : a3 = keep.map (fun v => rowM keep (su.getD v.toNat [])) := by rw [ha3, List.take_of_length_le (by omega)]
    have hex : ¬ ∃ v ∈ keep, rowM keep (su.getD v.toNat []) = [] := by
      rintro ⟨v, hv, he⟩
      exact hne (by rw [ha3]; exact List.mem_map.2 ⟨v, hv, he⟩)
    simp only [hex, if_false] at hq
    rw [← ha1, ← ha2, ← ha3] at hq
    simp only [PP, P1, P2, P3, P4, P5, P6, P7, P8, P9, P10, P11, P12, P13, P14, L1, P15, N1, N2, N3, N4, N5, N6, N7, I1, I2, I3, I4, I5, I6, I7, reduceIte, reduceCtorEq, c]
    exact hq
end
end Go.Am.Ar

set_option linter.unusedVariables false
set_option linter.unusedSimpArgs false
set_option maxRecDepth 10000
namespace Go.Am.Ar
open Go.Am renaming pchk → P1, pold → P2, PKNo → P3, ppack → P4, PObj.under → P5, pput → P6, ptset → P7, ptget → P8, pev → P9, ofAV → P10, ofAV1 → P11, ppad → P12, pfill → P13, prepl → P14, AO.effect → P15
open List renaming replicate → L1
open Nat renaming reduceAdd → N1, reduceSub → N2, reduceMul → N3, reduceLT → N4, reduceLeDiff → N5, reduceEqDiff → N6, reduceBEq → N7
open Int renaming reduceToNat → I1, reduceLT → I2, reduceLE → I3, reduceEq → I4, reduceAdd → I5, reduceSub → I6, reduceNeg → I7

/-- The first index of a number, counted from k, or -1. -/
def idxI (v : Int) : Nat → List Int → Int
  | _, [] => -1
  | k, x :: l => if v = x then (k : Int) else idxI v (k + 1) l
theorem idxI_spec (v : Int) : ∀ (l : List Int) (k : Nat), (v ∉ l ∧ idxI v k l = -1) ∨ ∃ i, l[i]? = some v ∧ v ∉ l.take i ∧ idxI v k l = ((k + i : Nat) : Int)
  | [], k => .inl ⟨by simp, rfl⟩
  | x :: l, k => by
    unfold idxI
    by_cases h : v = x
    · rw [if_pos h]; exact .inr ⟨0, by simp [h], by simp, rfl⟩
    · rw [if_neg h]
      rcases idxI_spec v l (k + 1) with ⟨h1, h2⟩ | ⟨i, h1, h2, h3⟩
      · exact .inl ⟨by simp [h, h1], h2⟩
      · refine .inr ⟨i + 1, by simpa using h1, by simp [h, h2], ?_⟩
        rw [h3]; congr 1; omega

def playL (st : List Int) : Nat → Int → List Int → List Int × List Int
  | 0, _, all => (all, [])
  | n + 1, v, all => if 0 ≤ idxI v 0 all then (all.take (idxI v 0 all).toNat, all.drop (idxI v 0 all).toNat) else playL st n (st.getD v.toNat 0) (all ++ [v])
def movM (su : List (List Int)) : Nat → List Int → Bool
  | _, [] => true
  | k, u :: l => if u ∈ su.getD k [] then movM su (k + 1) l else false
def playE (ow pr : List Int) (su : List (List Int)) (st : List Int) (from' : Int) : Int :=
  if checkM ow pr su = 0 then (if from' < 0 then 8 else if (ow.length : Int) ≤ from' then 8 else if (st.length : Int) = ow.length then (if movM su 0 st = true then 0 else 13) else 2) else checkM ow pr su
def playM (ow pr : List Int) (su : List (List Int)) (st : List Int) (from' : Int) : PV :=
  if playE ow pr su st from' = 0 then .tuple [slI false true .i64 (playL st (ow.length + 1) from' []).1, slI false true .i64 (playL st (ow.length + 1) from' []).2, p64 0]
  else .tuple [slI false true .i64 [], slI false true .i64 [], p64 (playE ow pr su st from')]

theorem movM_get {su : List (List Int)} : ∀ {l : List Int} {k : Nat}, movM su k l = true → ∀ (i : Nat) (u : Int), l[i]? = some u → u ∈ su.getD (k + i) []
  | [], k, h, i, u, q => by simp at q
  | x :: l, k, h, i, u, q => by
    unfold movM at h
    split at h
    · rename_i hm
      cases i with
      | zero => simp at q; subst q; exact hm
      | succ i =>
        have := movM_get h i u (by simpa using q)
        rw [show k + (i + 1) = k + 1 + i by omega]; exact this
    · cases h


section
variable {tab : FuncId → Option AF} (T : HasA tab)
include T

theorem index_p {M : Mem} {K : PV → Mem → Prop} {f o : Bool} {xs : List Int} {v : Int} (hm : xs.length < big) (hk : K (p64 (idxI v 0 xs)) M) :
    SemC tab 49 [slI f o .i64 xs, p64 v] M K := by
  refine SemC_pure T.h49 (by simp only [PP, P1, P2, P3, P4, P5, P6, P7, P8, P9, P10, P11, P12, P13, P14, L1, P15, N1, N2, N3, N4, N5, N6, N7, I1, I2, I3, I4, I5, I6, I7, reduceIte, reduceCtorEq]) ?_
  simp only [af49, PP, P1, P2, P3, P4, P5, P6, P7, P8, P9, P10, P11, P12, P13, P14, L1, P15, N1, N2, N3, N4, N5, N6, N7, I1, I2, I3, I4, I5, I6, I7, reduceIte, reduceCtorEq]
  refine loop1 (fun (k : Nat) => k ≤ xs.length ∧ K (p64 (idxI v k (xs.drop k))) M) (fun k => [slI f o .i64 xs, p64 v, .junk, .junk, .junk, .junk, .junk, p64 xs.length, p64 k, .junk, .junk, .junk, .junk, .junk, .junk, .junk, .junk, .junk, .junk]) (fun _ => []) (fun k => xs.length - k) 0 ⟨by omega, hk⟩ (by simp only [PWeak_nil, PWeak_junk, PWeak_same, Int.cast_ofNat_Int, List.length_append, List.length_cons, List.length_nil, Nat.zero_add]) rfl ?_
  intro k ⟨hle, hq⟩ ih
  refine SemW_go (by kernel_rfl) ?_
  simp only [PP, P1, P2, P3, P4, P5, P6, P7, P8, P9, P10, P11, P12, P13, P14, L1, P15, N1, N2, N3, N4, N5, N6, N7, I1, I2, I3, I4, I5, I6, I7, reduceIte, reduceCtorEq]
  refine QIf.intro (fun c => ?_) (fun c => ?_)
  · have hk' : k < xs.length := by omega
    obtain ⟨x, g⟩ := some_of hk'
    rw [drop_some g] at hq
    have hw := wrap_succ (k := k) (by omega)
    have h0 : (0 : Int) ≤ k := by omega
    simp only [PP, P1, P2, P3, P4, P5, P6, P7, P8, P9, P10, P11, P12, P13, P14, L1, P15, N1, N2, N3, N4, N5, N6, N7, I1, I2, I3, I4, I5, I6, I7, reduceIte, reduceCtorEq, idxI, c, g, h0] at hq ⊢
    refine QIf.intro (fun h1 => ?_) (fun h1 => ?_)
    · simp only [PP, P1, P2, P3, P4, P5, P6, P7, P8, P9, P10, P11, P12, P13, P14, L1, P15, N1, N2, N3, N4, N5, N6, N7, I1, I2, I3, I4, I5, I6, I7, reduceIte, reduceCtorEq, h1] at hq ⊢
      exact hq
    simp only [PP, P1, P2, P3, P4, P5, P6, P7, P8, P9, P10, P11, P12, P13, P14, L1, P15, N1, N2, N3, N4, N5, N6, N7, I1, I2, I3, I4, I5, I6, I7, reduceIte, reduceCtorEq, h1] at hq ⊢
    simp only [hw]
    exact SemW_weak (ih (k + 1) ⟨by omega, hq⟩ (by omega)) (by simp only [PWeak_nil, PWeak_junk, PWeak_same, Int.cast_ofNat_Int, List.length_append, List.length_cons, List.length_nil, Nat.zero_add])
  · rw [List.drop_eq_nil_of_le (by omega)] at hq
    simp only [PP, P1, P2, P3, P4, P5, P6, P7, P8, P9, P10, P11, P12, P13, P14, L1, P15, N1, N2, N3, N4, N5, N6, N7, I1, I2, I3, I4, I5, I6, I7, reduceIte, reduceCtorEq, c]
    exact hq

theorem contains_p {M : Mem} {K : PV → Mem → Prop} {f o : Bool} {xs : List Int} {v : Int} (hm : xs.length < big) (hk : K (.bool (decide (v ∈ xs))) M) :
    SemC tab 48 [slI f o .i64 xs, p64 v] M K := by
  refine SemC_pure T.h48 (by simp only [PP, P1, P2, P3, P4, P5, P6, P7, P8, P9, P10, P11, P12, P13, P14, L1, P15, N1, N2, N3, N4, N5, N6, N7, I1, I2, I3, I4, I5, I6, I7, reduceIte, reduceCtorEq]) ?_
  simp only [af48, PP, P1, P2, P3, P4, P5, P6, P7, P8, P9, P10, P11, P12, P13, P14, L1, P15, N1, N2, N3, N4, N5, N6, N7, I1, I2, I3, I4, I5, I6, I7, reduceIte, reduceCtorEq]
  refine index_p T hm ?_
  have e : decide (0 ≤ idxI v 0 xs) = decide (v ∈ xs) := by
    rcases idxI_spec v xs 0 with ⟨h1, h2⟩ | ⟨i, h1, h2, h3⟩
    · rw [h2]; simp [h1]
    · rw [h3]; simp [List.mem_of_getElem? h1]
  simp only [PP, P1, P2, P3, P4, P5, P6, P7, P8, P9, P10, P11, P12, P13, P14, L1, P15, N1, N2, N3, N4, N5, N6, N7, I1, I2, I3, I4, I5, I6, I7, reduceIte, reduceCtorEq, e]
  exact hk

theorem clone_r {M : Mem} {K : PV → Mem → Prop} {id g ver off n : Nat} {xs : List Int} (hM : M[id]? = some (.cells g ver (xs.map (PV.int .i64)))) (hl : off + n ≤ xs.length) (hb : xs.length < big) (hc : M.all (cutOk M.length) = true)
    (hk : K (slI false true .i64 ((xs.drop off).take n)) M) : SemC tab 50 [.ref id g 1 off n] M K := by
  have hb' : xs.length < 1000000000000 := hb
  have b1 : n * 8 ≤ 140737488355328 := by omega
  have b2 : n ≤ 9223372036854775807 := by omega
  have hlt : (id == M.length) = false := beq_eq_false_iff_ne.2 (by have := getSome_lt hM; omega)
  have hps : psub (xs.map (PV.int .i64)) off n = ((xs.drop off).take n).map (PV.int .i64) := by simp [psub, List.map_drop, List.map_take]
  have hln : ((xs.drop off).take n).length = n := by rw [List.length_take, List.length_drop]; omega
  refine SemC_wk (SemC_gh (SemC_fn T.h50 ?_))
  simp only [af50, PP, P1, P2, P3, P4, P5, P6, P7, P8, P9, P10, P11, P12, P13, P14, L1, P15, N1, N2, N3, N4, N5, N6, N7, I1, I2, I3, I4, I5, I6, I7, reduceIte, reduceCtorEq, hM]
  refine QIf.intro (fun c => ?_) (fun c => ?_)
  · subst c
    constructor
    · simp only [PP, P1, P2, P3, P4, P5, P6, P7, P8, P9, P10, P11, P12, P13, P14, L1, P15, N1, N2, N3, N4, N5, N6, N7, I1, I2, I3, I4, I5, I6, I7, reduceIte, reduceCtorEq]
      exact Gh.same ⟨_, rfl, _, PvWk.nils _ _ _, hk⟩
    · simp only [PP, P1, P2, P3, P4, P5, P6, P7, P8, P9, P10, P11, P12, P13, P14, L1, P15, N1, N2, N3, N4, N5, N6, N7, I1, I2, I3, I4, I5, I6, I7, reduceIte, reduceCtorEq, hM, hl]
      exact ⟨by omega, Gh.same ⟨_, rfl, _, PvWk.sl _ _ _ _, by simpa [slI] using hk⟩⟩
  · simp only [PP, P1, P2, P3, P4, P5, P6, P7, P8, P9, P10, P11, P12, P13, P14, L1, P15, N1, N2, N3, N4, N5, N6, N7, I1, I2, I3, I4, I5, I6, I7, reduceIte, reduceCtorEq, c, hM, hl, b1, b2, List.length_map]
    rw [hps]
    exact ⟨all_one_ints _ _, Gh_ret hc hln ⟨_, PvWk.refl _, hk⟩⟩

theorem play_p {M : Mem} {K : PV → Mem → Prop} {f1 o1 f2 o2 f3 o3 f4 o4 f5 o5 : Bool} {ow pr st : List Int} {su : List (List Int)} {from' : Int} (B : Bnd ow pr su) (hb : st.length < big) (hq : K (playM ow pr su st from') M) :
    SemC tab 23 [gmP f1 o1 f2 o2 f3 o3 f4 o4 ow pr su, slI f5 o5 .i64 st, p64 from'] M K := by
  refine SemC_wk ?_
  refine SemC_pure T.h23 (by simp only [PP, P1, P2, P3, P4, P5, P6, P7, P8, P9, P10, P11, P12, P13, P14, L1, P15, N1, N2, N3, N4, N5, N6, N7, I1, I2, I3, I4, I5, I6, I7, reduceIte, reduceCtorEq]) ?_
  simp only [af23, PP, P1, P2, P3, P4, P5, P6, P7, P8, P9, P10, P11, P12, P13, P14, L1, P15, N1, N2, N3, N4, N5, N6, N7, I1, I2, I3, I4, I5, I6, I7, reduceIte, reduceCtorEq, playM, playE] at hq ⊢
  refine check_p T B ?_
  simp only [PP, P1, P2, P3, P4, P5, P6, P7, P8, P9, P10, P11, P12, P13, P14, L1, P15, N1, N2, N3, N4, N5, N6, N7, I1, I2, I3, I4, I5, I6, I7, reduceIte, reduceCtorEq]
  refine QIf.intro (fun c1 => ?_) (fun c1 => ?_)
  rotate_left
  · simp only [PP, P1, P2, P3, P4, P5, P6, P7, P8, P9, P10, P11, P12, P13, P14, L1, P15, N1, N2, N3, N4, N5, N6, N7, I1, I2, I3, I4, I5, I6, I7, reduceIte, reduceCtorEq, c1] at hq ⊢
    exact ⟨_, wk_attr _, hq⟩
  have V := valid_of c1
  have hs := V.s
  have n1 := V.n1
  simp only [PP, P1, P2, P3, P4, P5, P6, P7, P8, P9, P10, P11, P12, P13, P14, L1, P15, N1, N2, N3, N4, N5, N6, N7, I1, I2, I3, I4, I5, I6, I7, reduceIte, reduceCtorEq, c1] at hq ⊢
  refine QIf.intro (fun c2 => ?_) (fun c2 => ?_)
  · simp only [PP, P1, P2, P3, P4, P5, P6, P7, P8, P9, P10, P11, P12, P13, P14, L1, P15, N1, N2, N3, N4, N5, N6, N7, I1, I2, I3, I4, I5, I6, I7, reduceIte, reduceCtorEq, c2] at hq ⊢
    exact ⟨_, wk_attr _, hq⟩
  simp only [PP, P1, P2, P3, P4, P5, P6, P7, P8, P9, P10, P11, P12, P13, P14, L1, P15, N1, N2, N3, N4, N5, N6, N7, I1, I2, I3, I4, I5, I6, I7, reduceIte, reduceCtorEq, c2] at hq ⊢
  refine QIf.intro (fun c3 => ?_) (fun c3 => ?_)
  · simp only [PP, P1, P2, P3, P4, P5, P6, P7, P8, P9, P10, P11, P12, P13, P14, L1, P15, N1, N2, N3, N4, N5, N6, N7, I1, I2, I3, I4, I5, I6, I7, reduceIte, reduceCtorEq, c3] at hq ⊢
    exact ⟨_, wk_attr _, hq⟩
  simp only [PP, P1, P2, P3, P4, P5, P6, P7, P8, P9, P10, P11, P12, P13, P14, L1, P15, N1, N2, N3, N4, N5, N6, N7, I1, I2, I3, I4, I5, I6, I7, reduceIte, reduceCtorEq, c3] at hq ⊢
  refine QIf.intro (fun c4 => ?_) (fun c4 => ?_)
  rotate_left
  · simp only [PP, P1, P2, P3, P4, P5, P6, P7, P8, P9, P10, P11, P12, P13, P14, L1, P15, N1, N2, N3, N4, N5, N6, N7, I1, I2, I3, I4, I5, I6, I7, reduceIte, reduceCtorEq, c4] at hq ⊢
    exact ⟨_, wk_attr _, hq⟩
  simp only [PP, P1, P2, P3, P4, P5, P6, P7, P8, P9, P10, P11, P12, P13, P14, L1, P15, N1, N2, N3, N4, N5, N6, N7, I1, I2, I3, I4, I5, I6, I7, reduceIte, reduceCtorEq, c4] at hq ⊢
  refine loop1 (fun (k : Nat) => k ≤ ow.length ∧ movM su k (st.drop k) = movM su 0 st) (fun k => [.junk, slI f5 o5 .i64 st, p64 from', .ptr 0 0 0, .junk, .junk, .junk, .junk, .junk, .junk, .junk, .junk, .junk, .junk, .junk, .junk, .junk, .junk, .junk, .junk, .junk, .junk, .junk, .junk, .junk, .junk, .junk, .junk, .junk, .junk, .junk, .junk, .junk, .junk, .junk, .junk, .junk, slI f5 o5 .i64 st, p64 ow.length, p64 k, .junk, .junk, .junk, .junk, .junk, .junk, .junk, .junk, .junk, .junk, .junk, .junk, .junk, .junk, .junk, .junk, .junk, .junk, .junk, .junk, .junk, .junk, .junk, .junk, .junk, .junk, .junk, .junk, .junk, .junk, .junk, .junk, .junk, .junk, .junk]) (fun _ => [.cells 0 0 [slI f1 o1 .u8 ow, slI f2 o2 .i64 pr, slR f3 o3 f4 o4 .i64 su]]) (fun k => ow.length - k) 0 ⟨by omega, rfl⟩ (by simp only [PWeak_nil, PWeak_junk, PWeak_same, Int.cast_ofNat_Int, List.length_append, List.length_cons, List.length_nil, Nat.zero_add]) rfl ?_
  intro k ⟨hle, hmv⟩ ih
  refine SemW_go (by kernel_rfl) ?_
  simp only [PP, P1, P2, P3, P4, P5, P6, P7, P8, P9, P10, P11, P12, P13, P14, L1, P15, N1, N2, N3, N4, N5, N6, N7, I1, I2, I3, I4, I5, I6, I7, reduceIte, reduceCtorEq]
  refine QIf.intro (fun d => ?_) (fun d => ?_)
  · have hk : k < ow.length := by omega
    have hw := wrap_succ (k := k) (by show _ < 1000000000000; omega)
    have k0 : (0 : Int) ≤ k := by omega
    obtain ⟨u, g1⟩ := some_of (xs := st) (k := k) (by omega)
    obtain ⟨row, g2⟩ := some_of (xs := su) (k := k) (by omega)
    have ks : (k : Int) < su.length := by omega
    have e2 : su.getD k [] = row := by simp [List.getD, g2]
    rw [drop_some g1, movM, e2] at hmv
    simp only [PP, P1, P2, P3, P4, P5, P6, P7, P8, P9, P10, P11, P12, P13, P14, L1, P15, N1, N2, N3, N4, N5, N6, N7, I1, I2, I3, I4, I5, I6, I7, reduceIte, reduceCtorEq, c4, d, g1, g2, k0, ks]
    refine contains_p T (B.r _ (List.mem_of_getElem? g2)) ?_
    by_cases h1 : u ∈ row
    · rw [if_pos h1] at hmv
      simp only [PP, P1, P2, P3, P4, P5, P6, P7, P8, P9, P10, P11, P12, P13, P14, L1, P15, N1, N2, N3, N4, N5, N6, N7, I1, I2, I3, I4, I5, I6, I7, reduceIte, reduceCtorEq, h1, hw]
      exact SemW_weak (ih (k + 1) ⟨by omega, hmv⟩ (by omega)) (by simp only [PWeak_nil, PWeak_junk, PWeak_same, Int.cast_ofNat_Int, List.length_append, List.length_cons, List.length_nil, Nat.zero_add])
    · rw [if_neg h1] at hmv
      simp only [PP, P1, P2, P3, P4, P5, P6, P7, P8, P9, P10, P11, P12, P13, P14, L1, P15, N1, N2, N3, N4, N5, N6, N7, I1, I2, I3, I4, I5, I6, I7, reduceIte, reduceCtorEq, h1, ← hmv] at hq ⊢
      exact ⟨_, wk_attr _, hq⟩
  · have hkn : k = st.length := by omega
    rw [List.drop_eq_nil_of_le (by omega)] at hmv
    simp only [PP, P1, P2, P3, P4, P5, P6, P7, P8, P9, P10, P11, P12, P13, P14, L1, P15, N1, N2, N3, N4, N5, N6, N7, I1, I2, I3, I4, I5, I6, I7, reduceIte, reduceCtorEq, ← hmv, movM] at hq ⊢
    simp only [PP, P1, P2, P3, P4, P5, P6, P7, P8, P9, P10, P11, P12, P13, P14, L1, P15, N1, N2, N3, N4, N5, N6, N7, I1, I2, I3, I4, I5, I6, I7, reduceIte, reduceCtorEq, d]
    have hst : ∀ (k : Nat) (u : Int), st[k]? = some u → 0 ≤ u ∧ u < ow.length := by
      intro k u hu
      have h1 := movM_get hmv.symm k u hu
      have hks : k < su.length := by have := getSome_lt hu; omega
      obtain ⟨_, _, _, _, q⟩ := V.row k hks
      rw [Nat.zero_add, List.getD, List.getElem?_eq_getElem hks] at h1
      have := (posM_rise q).2 u h1
      omega
    obtain ⟨v0, rfl⟩ : ∃ v0 : Nat, from' = v0 := ⟨from'.toNat, by omega⟩
    refine SemW_re (GStep.nil 13 1 rfl rfl rfl) ?_
    simp only [ptset, List.cons_append, List.nil_append, List.length_cons, List.length_nil, Nat.reduceAdd]
    refine loop3 (fun (v g : Nat) (l : List Nat) => v < ow.length ∧ l.Nodup ∧ (∀ x ∈ l, x < ow.length) ∧ K (.tuple [slI false true .i64 (playL st (ow.length + 1 - l.length) v (natI l)).1, slI false true .i64 (playL st (ow.length + 1 - l.length) v (natI l)).2, p64 0]) M)
      (fun v g l => [.junk, slI f5 o5 .i64 st, .junk, .junk, .junk, .junk, .junk, .junk, .junk, .junk, .junk, .junk, .junk, .ref 1 g 1 0 l.length, p64 v, .junk, .junk, .junk, .junk, .junk, .junk, .junk, .junk, .junk, .junk, .junk, .junk, .junk, .junk, .junk, .junk, .junk, .junk, .junk, .junk, .junk, .junk, .junk, .junk, .junk, .junk, .junk, .junk, .junk, .junk, .junk, .junk, .junk, .junk, .junk, .junk, .junk, .junk, .junk, .junk, .junk, .junk, .junk, .junk, .junk, .junk, .junk, .junk, .junk, .junk, .junk, .junk, .junk, .junk, .junk, .junk, .junk, .junk, .junk, .junk])
      (fun v g l => [.cells 0 0 [slI f1 o1 .u8 ow, slI f2 o2 .i64 pr, slR f3 o3 f4 o4 .i64 su], .cells g 0 ((natI l).map (PV.int .i64))])
      (fun v g l => ow.length + 1 - l.length) v0 0 [] ⟨by omega, List.nodup_nil, by simp, hq⟩ (by simp only [PWeak_nil, PWeak_junk, PWeak_same, Int.cast_ofNat_Int, List.length_append, List.length_cons, List.length_nil, Nat.zero_add]) rfl ?_
    intro v g l ⟨hv, hnd, hlt, hq⟩ ih
    have hll := nodup_lenN _ l hnd hlt
    have hlb : (natI l).length < big := by show _ < 1000000000000; rw [List.length_map]; omega
    obtain ⟨fu, hfu⟩ : ∃ fu, ow.length + 1 - l.length = fu + 1 := ⟨ow.length - l.length, by omega⟩
    rw [hfu, playL] at hq
    refine SemW_go (by kernel_rfl) ?_
    simp only [PP, P1, P2, P3, P4, P5, P6, P7, P8, P9, P10, P11, P12, P13, P14, L1, P15, N1, N2, N3, N4, N5, N6, N7, I1, I2, I3, I4, I5, I6, I7, reduceIte, reduceCtorEq]
    refine SemC_bor (.ints rfl (List.length_map _) (.same rfl .nil)) (index_p T hlb ⟨rfl, ?_⟩)
    rcases idxI_spec v (natI l) 0 with ⟨h1, h2⟩ | ⟨i, h1, h2, h3⟩
    · have hv0 : (0 : Int) ≤ v := by omega
      have hvs : (v : Int) < st.length := by omega
      obtain ⟨u, g1⟩ := some_of (xs := st) (k := v) (by omega)
      obtain ⟨u0, u1⟩ := hst v u g1
      obtain ⟨w, rfl⟩ : ∃ w : Nat, u = w := ⟨u.toNat, by omega⟩
      have e1 : st.getD v 0 = w := by simp [List.getD, g1]
      have b1 : (l.length + 1) * 8 ≤ 140737488355328 := by omega
      have b2 : l.length + 1 ≤ 9223372036854775807 := by omega
      simp only [PP, P1, P2, P3, P4, P5, P6, P7, P8, P9, P10, P11, P12, P13, P14, L1, P15, N1, N2, N3, N4, N5, N6, N7, I1, I2, I3, I4, I5, I6, I7, reduceIte, reduceCtorEq, h2, e1] at hq ⊢
      have b2 : l.length ≤ 9223372036854775806 := by omega
      have hni : v ∉ l := fun h => h1 (mem_natI.2 h)
      have hps : psub ((natI l).map (PV.int .i64)) 0 l.length ++ [.int .i64 (v : Int)] = (natI (l ++ [v])).map (PV.int .i64) := by
        rw [psub_all _ _ (by simp)]; simp
      have hq2 : natI l ++ [(v : Int)] = natI (l ++ [v]) := by simp
      simp only [PP, P1, P2, P3, P4, P5, P6, P7, P8, P9, P10, P11, P12, P13, P14, L1, P15, N1, N2, N3, N4, N5, N6, N7, I1, I2, I3, I4, I5, I6, I7, reduceIte, reduceCtorEq, g1, hv0, hvs, b1, b2]
      refine SemW_to (ih w (g + 1) (l ++ [v]) ⟨by omega, ?_, ?_, ?_⟩ (by rw [List.length_append, List.length_singleton]; omega)) (by simp only [PWeak_nil, PWeak_junk, PWeak_same, Int.cast_ofNat_Int, List.length_append, List.length_cons, List.length_nil, Nat.zero_add]) (by rw [hps])
      · rw [List.nodup_append]
        exact ⟨hnd, by simp, fun a ha b hb e => by rw [List.mem_singleton] at hb; subst hb; subst e; exact hni ha⟩
      · intro x hx
        rcases List.mem_append.1 hx with h | h
        · exact hlt x h
        · rw [List.mem_singleton] at h; subst h; exact hv
      · rw [hq2] at hq
        rw [show ow.length + 1 - (l ++ [v]).length = fu by rw [List.length_append, List.length_singleton]; omega]
        exact hq
    · have i0 : (0 : Int) ≤ ((0 + i : Nat) : Int) := by omega
      have il : i < l.length := by have := getSome_lt h1; rwa [List.length_map] at this
      rw [h3] at hq ⊢
      rw [if_pos i0] at hq
      simp only [PP, P1, P2, P3, P4, P5, P6, P7, P8, P9, P10, P11, P12, P13, P14, L1, P15, N1, N2, N3, N4, N5, N6, N7, I1, I2, I3, I4, I5, I6, I7, reduceIte, reduceCtorEq] at hq i0 ⊢
      have il2 : (i : Int) ≤ l.length := by omega
      have e0 : ((i : Int) - 0).toNat = i := by omega
      have e1 : ((l.length : Int) - i).toNat = l.length - i := by omega
      have ll : (natI l).length = l.length := List.length_map _
      simp only [PP, P1, P2, P3, P4, P5, P6, P7, P8, P9, P10, P11, P12, P13, P14, L1, P15, N1, N2, N3, N4, N5, N6, N7, I1, I2, I3, I4, I5, I6, I7, reduceIte, reduceCtorEq, i0, il2, e0]
      refine clone_r T (xs := natI l) (g := g) (ver := 0) rfl (by omega) hlb (by simp only [PP, P1, P2, P3, P4, P5, P6, P7, P8, P9, P10, P11, P12, P13, P14, L1, P15, N1, N2, N3, N4, N5, N6, N7, I1, I2, I3, I4, I5, I6, I7, reduceIte, reduceCtorEq, cutOk, underL_ints]) ?_
      simp only [PP, P1, P2, P3, P4, P5, P6, P7, P8, P9, P10, P11, P12, P13, P14, L1, P15, N1, N2, N3, N4, N5, N6, N7, I1, I2, I3, I4, I5, I6, I7, reduceIte, reduceCtorEq, i0, il2, e1, Int.le_refl]
      refine clone_r T (xs := natI l) (g := g) (ver := 0) rfl (by omega) hlb (by simp only [PP, P1, P2, P3, P4, P5, P6, P7, P8, P9, P10, P11, P12, P13, P14, L1, P15, N1, N2, N3, N4, N5, N6, N7, I1, I2, I3, I4, I5, I6, I7, reduceIte, reduceCtorEq, cutOk, underL_ints]) ?_
      rw [List.take_of_length_le (show ((natI l).drop i).length ≤ l.length - i by simp)]
      simp only [PP, P1, P2, P3, P4, P5, P6, P7, P8, P9, P10, P11, P12, P13, P14, L1, P15, N1, N2, N3, N4, N5, N6, N7, I1, I2, I3, I4, I5, I6, I7, reduceIte, reduceCtorEq]
      exact ⟨_, PvWk.refl _, hq⟩

theorem winner_p {M : Mem} {K : PV → Mem → Prop} {f1 o1 f2 o2 f3 o3 f4 o4 f5 o5 : Bool} {ow pr lp : List Int} {su : List (List Int)} (B : Bnd ow pr su) (hb : lp.length < big) (hq : K (winM ow pr su lp) M) :
    SemC tab 26 [gmP f1 o1 f2 o2 f3 o3 f4 o4 ow pr su, slI f5 o5 .i64 lp] M K := by
  refine SemC_pure T.h26 (by simp only [PP, P1, P2, P3, P4, P5, P6, P7, P8, P9, P10, P11, P12, P13, P14, L1, P15, N1, N2, N3, N4, N5, N6, N7, I1, I2, I3, I4, I5, I6, I7, reduceIte, reduceCtorEq]) ?_
  simp only [af26, PP, P1, P2, P3, P4, P5, P6, P7, P8, P9, P10, P11, P12, P13, P14, L1, P15, N1, N2, N3, N4, N5, N6, N7, I1, I2, I3, I4, I5, I6, I7, reduceIte, reduceCtorEq, winM] at hq ⊢
  refine check_p T B ?_
  simp only [PP, P1, P2, P3, P4, P5, P6, P7, P8, P9, P10, P11, P12, P13, P14, L1, P15, N1, N2, N3, N4, N5, N6, N7, I1, I2, I3, I4, I5, I6, I7, reduceIte, reduceCtorEq]
  refine QIf.intro (fun c1 => ?_) (fun c1 => ?_)
  rotate_left
  · simp only [PP, P1, P2, P3, P4, P5, P6, P7, P8, P9, P10, P11, P12, P13, P14, L1, P15, N1, N2, N3, N4, N5, N6, N7, I1, I2, I3, I4, I5, I6, I7, reduceIte, reduceCtorEq, c1] at hq ⊢
    exact hq
  simp only [PP, P1, P2, P3, P4, P5, P6, P7, P8, P9, P10, P11, P12, P13, P14, L1, P15, N1, N2, N3, N4, N5, N6, N7, I1, I2, I3, I4, I5, I6, I7, reduceIte, reduceCtorEq, c1] at hq ⊢
  have V := valid_of c1
  have hp := V.p
  have n1 := V.n1
  refine QIf.intro (fun c2 => ?_) (fun c2 => ?_)
  · simp only [PP, P1, P2, P3, P4, P5, P6, P7, P8, P9, P10, P11, P12, P13, P14, L1, P15, N1, N2, N3, N4, N5, N6, N7, I1, I2, I3, I4, I5, I6, I7, reduceIte, reduceCtorEq, c2] at hq ⊢
    exact hq
  simp only [PP, P1, P2, P3, P4, P5, P6, P7, P8, P9, P10, P11, P12, P13, P14, L1, P15, N1, N2, N3, N4, N5, N6, N7, I1, I2, I3, I4, I5, I6, I7, reduceIte, reduceCtorEq, c2] at hq ⊢
  refine loop2 (fun (k : Nat) (m : Int) => k ≤ lp.length ∧ K (winL ow.length pr m (lp.drop k)) M) (fun k m => [.junk, .junk, .ptr 0 0 0, .junk, .junk, .junk, .junk, p64 m, .junk, .junk, .junk, .junk, .junk, .junk, .junk, .junk, .junk, .junk, slI f5 o5 .i64 lp, p64 lp.length, p64 k, .junk, .junk, .junk, .junk, .junk, .junk, .junk, .junk, .junk, .junk, .junk, .junk, .junk, .junk, .junk, .junk, .junk, .junk, .junk, .junk, .junk, .junk, .junk]) (fun _ _ => [.cells 0 0 [slI f1 o1 .u8 ow, slI f2 o2 .i64 pr, slR f3 o3 f4 o4 .i64 su]]) (fun k _ => lp.length - k) 0 0 ⟨by omega, hq⟩ (by simp only [PWeak_nil, PWeak_junk, PWeak_same, Int.cast_ofNat_Int, List.length_append, List.length_cons, List.length_nil, Nat.zero_add]) rfl ?_
  intro k m ⟨hle, hq⟩ ih
  refine SemW_go (by kernel_rfl) ?_
  simp only [PP, P1, P2, P3, P4, P5, P6, P7, P8, P9, P10, P11, P12, P13, P14, L1, P15, N1, N2, N3, N4, N5, N6, N7, I1, I2, I3, I4, I5, I6, I7, reduceIte, reduceCtorEq]
  refine QIf.intro (fun d => ?_) (fun d => ?_)
  · have hk : k < lp.length := by omega
    have hkb : lp.length < 1000000000000 := hb
    have hw := wrap_succ (k := k) (by show _ < 1000000000000; omega)
    have k0 : (0 : Int) ≤ k := by omega
    obtain ⟨v, g1⟩ := some_of hk
    rw [drop_some g1, winL] at hq
    simp only [PP, P1, P2, P3, P4, P5, P6, P7, P8, P9, P10, P11, P12, P13, P14, L1, P15, N1, N2, N3, N4, N5, N6, N7, I1, I2, I3, I4, I5, I6, I7, reduceIte, reduceCtorEq, d, g1, k0]
    refine QIf.intro (fun h1 => ?_) (fun h1 => ?_)
    · simp only [PP, P1, P2, P3, P4, P5, P6, P7, P8, P9, P10, P11, P12, P13, P14, L1, P15, N1, N2, N3, N4, N5, N6, N7, I1, I2, I3, I4, I5, I6, I7, reduceIte, reduceCtorEq, h1] at hq ⊢
      exact hq
    simp only [PP, P1, P2, P3, P4, P5, P6, P7, P8, P9, P10, P11, P12, P13, P14, L1, P15, N1, N2, N3, N4, N5, N6, N7, I1, I2, I3, I4, I5, I6, I7, reduceIte, reduceCtorEq, h1, k0] at hq ⊢
    refine QIf.intro (fun h2 => ?_) (fun h2 => ?_)
    · simp only [PP, P1, P2, P3, P4, P5, P6, P7, P8, P9, P10, P11, P12, P13, P14, L1, P15, N1, N2, N3, N4, N5, N6, N7, I1, I2, I3, I4, I5, I6, I7, reduceIte, reduceCtorEq, h2] at hq ⊢
      exact hq
    simp only [PP, P1, P2, P3, P4, P5, P6, P7, P8, P9, P10, P11, P12, P13, P14, L1, P15, N1, N2, N3, N4, N5, N6, N7, I1, I2, I3, I4, I5, I6, I7, reduceIte, reduceCtorEq, h2, k0] at hq ⊢
    have v0 : 0 ≤ v := by omega
    have vp : v < pr.length := by omega
    obtain ⟨p, g2⟩ := some_of (xs := pr) (k := v.toNat) (by omega)
    have e2 : pr.getD v.toNat 0 = p := by simp [List.getD, g2]
    rw [e2] at hq
    simp only [PP, P1, P2, P3, P4, P5, P6, P7, P8, P9, P10, P11, P12, P13, P14, L1, P15, N1, N2, N3, N4, N5, N6, N7, I1, I2, I3, I4, I5, I6, I7, reduceIte, reduceCtorEq, g2, v0, vp, hw]
    exact SemW_weak (ih (k + 1) (max m p) ⟨by omega, hq⟩ (by omega)) (by simp only [PWeak_nil, PWeak_junk, PWeak_same, Int.cast_ofNat_Int, List.length_append, List.length_cons, List.length_nil, Nat.zero_add])
  · rw [List.drop_eq_nil_of_le (by omega), winL] at hq
    have h2 : (2 : Int) ≠ 0 := by omega
    simp only [PP, P1, P2, P3, P4, P5, P6, P7, P8, P9, P10, P11, P12, P13, P14, L1, P15, N1, N2, N3, N4, N5, N6, N7, I1, I2, I3, I4, I5, I6, I7, reduceIte, reduceCtorEq, d, prem h2]
    exact hq
end
end Go.Am.Ar

set_option linter.unusedVariables false
namespace Go.Am.Ar
def itr (f : Nat → Nat) (v : Nat) : Nat → Nat
  | 0 => v
  | j + 1 => f (itr f v j)
theorem itr_lt {f : Nat → Nat} {n v : Nat} (hf : ∀ v, v < n → f v < n) (hv : v < n) : ∀ j, itr f v j < n
  | 0 => hv
  | j + 1 => hf _ (itr_lt hf hv j)
def its (f : Nat → Nat) (v m : Nat) : List Nat := (List.range m).map (itr f v)
theorem its_len (f : Nat → Nat) (v m : Nat) : (its f v m).length = m := by simp [its]
theorem its_get {f : Nat → Nat} {v m j : Nat} (h : j < m) : (its f v m)[j]? = some (itr f v j) := by simp [its, h]
theorem its_succ (f : Nat → Nat) (v m : Nat) : its f v (m + 1) = its f v m ++ [itr f v m] := by simp [its, List.range_succ]
theorem its_mem {f : Nat → Nat} {v m x : Nat} : x ∈ its f v m ↔ ∃ j, j < m ∧ itr f v j = x := by simp [its]
theorem its_lt {f : Nat → Nat} {n v m : Nat} (hf : ∀ v, v < n → f v < n) (hv : v < n) : ∀ x ∈ its f v m, x < n := by
  intro x hx
  obtain ⟨j, _, rfl⟩ := its_mem.1 hx
  exact itr_lt hf hv j

/-- A play: a prefix and a loop of iterates, which are different. -/
structure IsPlay (f : Nat → Nat) (v n : Nat) (p l : List Int) (m k : Nat) : Prop where
  km : k < m
  mn : m ≤ n
  nd : (its f v m).Nodup
  back : itr f v m = itr f v k
  p : p = natI ((its f v m).take k)
  l : l = natI ((its f v m).drop k)

theorem natI_inj {l : List Nat} {i : Nat} {v : Nat} (h : (natI l)[i]? = some (v : Int)) : l[i]? = some v := by
  rw [List.getElem?_map] at h
  cases h1 : l[i]? with
  | none => rw [h1] at h; cases h
  | some a =>
    rw [h1] at h
    have : (a : Int) = v := by simpa using h
    rw [show a = v by omega]

theorem playL_spec {st : List Int} {f : Nat → Nat} {n v : Nat} (hst : ∀ v, v < n → st[v]? = some ((f v : Nat) : Int)) (hf : ∀ v, v < n → f v < n) (hv : v < n) :
    ∀ (fuel m : Nat), m + fuel = n + 1 → (its f v m).Nodup → ∃ m' k, m ≤ m' ∧ IsPlay f v n (playL st fuel (itr f v m : Nat) (natI (its f v m))).1 (playL st fuel (itr f v m : Nat) (natI (its f v m))).2 m' k
  | 0, m, hm, hnd => by
    have := nodup_lenN n _ hnd (its_lt hf hv)
    rw [its_len] at this
    omega
  | fuel + 1, m, hm, hnd => by
    have hlen := nodup_lenN n _ hnd (its_lt hf hv)
    rw [its_len] at hlen
    unfold playL
    rcases idxI_spec (itr f v m : Nat) (natI (its f v m)) 0 with ⟨h1, h2⟩ | ⟨i, h1, h2, h3⟩
    · rw [h2, if_neg (by omega)]
      have hn : itr f v m ∉ its f v m := fun h => h1 (mem_natI.2 h)
      have e1 : st.getD (itr f v m : Int).toNat 0 = ((itr f v (m + 1) : Nat) : Int) := by
        rw [Int.toNat_natCast, List.getD, hst _ (itr_lt hf hv m)]; rfl
      have e2 : natI (its f v m) ++ [((itr f v m : Nat) : Int)] = natI (its f v (m + 1)) := by rw [its_succ]; simp
      rw [e1, e2]
      have hnd' : (its f v (m + 1)).Nodup := by
        rw [its_succ, List.nodup_append]
        exact ⟨hnd, by simp, fun a ha b hb e => by rw [List.mem_singleton] at hb; subst hb; subst e; exact hn ha⟩
      obtain ⟨m', k, h4, h5⟩ := playL_spec hst hf hv fuel (m + 1) (by omega) hnd'
      exact ⟨m', k, by omega, h5⟩
    · rw [h3, if_pos (by omega)]
      have h1' := natI_inj h1
      have hi := getSome_lt h1'
      rw [its_len] at hi
      rw [its_get hi] at h1'
      refine ⟨m, i, Nat.le_refl _, hi, hlen, hnd, ?_, ?_, ?_⟩
      · simp only [Option.some.injEq] at h1'; exact h1'.symm
      · simp [natI, List.map_take]
      · simp [natI, List.map_drop]
theorem play_spec {st : List Int} {f : Nat → Nat} {n v : Nat} (hst : ∀ v, v < n → st[v]? = some ((f v : Nat) : Int)) (hf : ∀ v, v < n → f v < n) (hv : v < n) :
    ∃ m k, IsPlay f v n (playL st (n + 1) v []).1 (playL st (n + 1) v []).2 m k := by
  obtain ⟨m, k, _, h⟩ := playL_spec hst hf hv (n + 1) 0 (by omega) (by simp [its])
  exact ⟨m, k, h⟩

/-- Falling ranks end at zero within the play. -/
theorem fall {f : Nat → Nat} {n v : Nat} {R : Nat → Int} (hf : ∀ v, v < n → f v < n) (hv : v < n) (hR : ∀ v, v < n → 0 < R v → 0 ≤ R (f v) ∧ R (f v) < R v) (h0 : 0 ≤ R v) :
    ∃ i : Nat, (i : Int) ≤ R v ∧ R (itr f v i) = 0 ∧ ∀ a b : Nat, a < b → b ≤ i → R (itr f v b) < R (itr f v a) := by
  have key : ∀ (d : Nat) (v : Nat), v < n → R v = d → ∃ i : Nat, (i : Int) ≤ R v ∧ R (itr f v i) = 0 ∧ (∀ a : Nat, a < i → R (itr f v (a + 1)) < R (itr f v a)) := by
    intro d
    induction d using Nat.strongRecOn with
    | ind d ih =>
      intro v hv hd
      rcases Nat.eq_zero_or_pos d with e | e
      · exact ⟨0, by omega, by show R v = 0; omega, fun a h => by omega⟩
      · obtain ⟨h1, h2⟩ := hR v hv (by omega)
        obtain ⟨i, h3, h4, h5⟩ := ih (R (f v)).toNat (by omega) (f v) (hf v hv) (by omega)
        have sh : ∀ j, itr f (f v) j = itr f v (j + 1) := by
          intro j
          induction j with
          | zero => rfl
          | succ j ih => show f _ = f _; rw [ih]
        refine ⟨i + 1, by omega, by rw [← sh]; exact h4, fun a ha => ?_⟩
        cases a with
        | zero => exact h2
        | succ a =>
          have := h5 a (by omega)
          rw [sh, sh] at this
          exact this
  obtain ⟨i, h1, h2, h3⟩ := key (R v).toNat v hv (by omega)
  refine ⟨i, h1, h2, fun a b hab hb => ?_⟩
  obtain ⟨d, rfl⟩ : ∃ d, b = a + 1 + d := ⟨b - a - 1, by omega⟩
  clear hab
  induction d with
  | zero => exact h3 a (by omega)
  | succ d ih =>
    have := ih (by omega)
    have := h3 (a + 1 + d) (by omega)
    rw [show a + 1 + (d + 1) = a + 1 + d + 1 by omega]
    omega
theorem IsPlay.fall {f : Nat → Nat} {n v m k : Nat} {R : Nat → Int} {p l : List Int} (h : IsPlay f v n p l m k) (hf : ∀ v, v < n → f v < n) (hv : v < n) (hR : ∀ v, v < n → 0 < R v → 0 ≤ R (f v) ∧ R (f v) < R v) (h0 : 0 ≤ R v) :
    ∃ (i : Nat) (x : Nat), (i : Int) ≤ R v ∧ (p ++ l)[i]? = some (x : Int) ∧ x < n ∧ R x = 0 := by
  obtain ⟨i, h1, h2, h3⟩ := Ar.fall hf hv hR h0
  have him : i < m := by
    rcases Nat.lt_or_ge i m with q | q
    · exact q
    · have := h3 k m h.km q
      rw [h.back] at this
      omega
  refine ⟨i, itr f v i, h1, ?_, itr_lt hf hv i, h2⟩
  rw [h.p, h.l, ← List.map_append, List.take_append_drop, List.getElem?_map, its_get him]
  rfl
theorem IsPlay.len {f : Nat → Nat} {n v m k : Nat} {p l : List Int} (h : IsPlay f v n p l m k) : p.length = k ∧ l.length = m - k := by
  rw [h.p, h.l]
  simp [its_len]
  have := h.km
  omega
theorem IsPlay.mem {f : Nat → Nat} {n v m k : Nat} {p l : List Int} (h : IsPlay f v n p l m k) (hf : ∀ v, v < n → f v < n) (hv : v < n) : ∀ x ∈ l, 0 ≤ x ∧ x < n := by
  intro x hx
  rw [h.l] at hx
  obtain ⟨y, hy, rfl⟩ := List.mem_map.1 hx
  have := its_lt hf hv y (List.mem_of_mem_drop hy)
  omega
end Go.Am.Ar

set_option linter.unusedVariables false
namespace Go.Am.Ar
theorem checkLoop_of {ow pr : List Int} {n : Nat} (hn : ow.length = n) : ∀ {su : List (List Int)} {k : Nat}, (∀ (i : Nat) (row : List Int), su[i]? = some row → 0 ≤ pr.getD (k + i) 0 ∧ pr.getD (k + i) 0 ≤ 16 ∧ ow.getD (k + i) 0 ≤ 1 ∧ 0 < row.length ∧ posM ow.length (-1) row = true) → checkLoop ow pr k su = 0
  | [], k, _ => rfl
  | row :: su, k, h => by
    obtain ⟨h1, h2, h3, h4, h5⟩ := h 0 row rfl
    unfold checkLoop
    rw [Nat.add_zero] at h1 h2 h3
    rw [if_neg (by omega), if_neg (by omega), if_neg (by omega), if_neg (by omega), if_neg (by simp [h5])]
    exact checkLoop_of hn fun i row hr => by rw [show k + 1 + i = k + (i + 1) by omega]; exact h (i + 1) row (by simpa using hr)
theorem check_of {ow pr : List Int} {su : List (List Int)} (V : Valid ow pr su) : checkM ow pr su = 0 := by
  have h1 := V.n0
  have h2 := V.n1
  have h3 := V.p
  have h4 := V.s
  unfold checkM
  rw [if_neg (by omega), if_neg (by omega), if_pos (by omega), if_pos (by omega)]
  refine checkLoop_of rfl fun i row hr => ?_
  have hi := getSome_lt hr
  have := V.row i hi
  rw [List.getElem?_eq_getElem hi] at hr
  cases hr
  rw [Nat.zero_add]
  exact this

structure Dual1 (ow pr : List Int) (su : List (List Int)) (ow' pr' : List Int) : Prop where
  v : Valid ow pr su
  v' : Valid ow' pr' su
  n : ow'.length = ow.length
  p : pr'.length = pr.length
  o : ∀ v, v < ow.length → 0 ≤ ow.getD v 0 ∧ ow.getD v 0 ≤ 1 ∧ ow'.getD v 0 = 1 - ow.getD v 0
  r : ∀ v, v < ow.length → 0 ≤ pr.getD v 0 ∧ pr'.getD v 0 = pr.getD v 0 + 1
theorem maxFrom_ge : ∀ {l : List Int} {m : Int}, m ≤ maxFrom m l ∧ ∀ x ∈ l, x ≤ maxFrom m l
  | [], m => ⟨Int.le_refl _, fun x h => by cases h⟩
  | y :: l, m => by
    obtain ⟨h1, h2⟩ := maxFrom_ge (l := l) (m := max m y)
    unfold maxFrom
    refine ⟨by omega, fun x hx => ?_⟩
    rcases List.mem_cons.1 hx with rfl | hx
    · omega
    · exact h2 x hx
theorem maxFrom_mem : ∀ {l : List Int} {m : Int}, maxFrom m l = m ∨ maxFrom m l ∈ l
  | [], m => .inl rfl
  | y :: l, m => by
    unfold maxFrom
    rcases maxFrom_mem (l := l) (m := max m y) with h | h
    · rcases Int.le_total m y with q | q
      · exact .inr (by rw [h, Int.max_eq_right q]; simp)
      · exact .inl (by rw [h, Int.max_eq_left q])
    · exact .inr (List.mem_cons_of_mem _ h)
theorem maxL_ge {l : List Int} : ∀ x ∈ l, x ≤ maxL l := by
  cases l with
  | nil => intro x h; cases h
  | cons y l =>
    intro x hx
    rcases List.mem_cons.1 hx with rfl | hx
    · exact maxFrom_ge.1
    · exact maxFrom_ge.2 x hx
theorem maxL_mem {l : List Int} (h : l ≠ []) : maxL l ∈ l := by
  cases l with
  | nil => exact absurd rfl h
  | cons y l =>
    show maxFrom y l ∈ _
    rcases maxFrom_mem (l := l) (m := y) with h | h
    · rw [h]; simp
    · exact List.mem_cons_of_mem _ h
theorem dual_of {ow pr : List Int} {su : List (List Int)} (V : Valid ow pr su) (ho : ∀ x ∈ ow, 0 ≤ x) (h16 : ¬ maxL pr = 16) : Dual1 ow pr su (dualO ow) (dualP pr) := by
  have hn : (dualO ow).length = ow.length := by simp [dualO]
  have hp : (dualP pr).length = pr.length := by simp [dualP]
  have hO : ∀ v, v < ow.length → 0 ≤ ow.getD v 0 ∧ ow.getD v 0 ≤ 1 ∧ (dualO ow).getD v 0 = 1 - ow.getD v 0 := by
    intro v hv
    have h1 := (V.row v (by rw [V.s]; exact hv)).2.2.1
    have h2 : 0 ≤ ow.getD v 0 := by
      rw [List.getD, List.getElem?_eq_getElem hv]; exact ho _ (List.getElem_mem hv)
    refine ⟨h2, h1, ?_⟩
    rw [List.getD, List.getD, dualO, List.getElem?_map, List.getElem?_eq_getElem hv]
    rw [List.getD, List.getElem?_eq_getElem hv] at h1 h2
    simp only [Option.map_some, Option.getD_some] at h1 h2 ⊢
    simp only [IntKind.wrap, IntKind.signed, IntKind.bits]
    simp
    omega
  have hR : ∀ v, v < ow.length → 0 ≤ pr.getD v 0 ∧ pr.getD v 0 < 16 ∧ (dualP pr).getD v 0 = pr.getD v 0 + 1 := by
    intro v hv
    have h1 := V.row v (by rw [V.s]; exact hv)
    have hvp : v < pr.length := by rw [V.p]; exact hv
    have h3 : pr.getD v 0 ≤ maxL pr := by
      rw [List.getD, List.getElem?_eq_getElem hvp]; exact maxL_ge _ (List.getElem_mem hvp)
    have h4 : maxL pr ≤ 16 := by
      have hm := maxL_mem (l := pr) (by intro e; rw [e] at hvp; simp at hvp)
      obtain ⟨i, hi⟩ := List.getElem?_of_mem hm
      have hil := getSome_lt hi
      have := (V.row i (by rw [V.s, ← V.p]; exact hil)).2.1
      rw [getD_some hi] at this
      exact this
    refine ⟨h1.1, by omega, ?_⟩
    rw [List.getD, List.getD, dualP, List.getElem?_map, List.getElem?_eq_getElem hvp]
    rw [List.getD, List.getElem?_eq_getElem hvp] at h3 h1
    simp only [Option.map_some, Option.getD_some] at h1 h3 ⊢
    exact wrap64 (by omega) (by omega)
  refine ⟨V, ⟨by rw [hn]; exact V.n0, by rw [hn]; exact V.n1, by rw [hp, hn]; exact V.p, by rw [hn]; exact V.s, fun i hi => ?_⟩, hn, hp, hO, fun v hv => ⟨(hR v hv).1, (hR v hv).2.2⟩⟩
  have hv : i < ow.length := by rw [← V.s]; exact hi
  obtain ⟨h1, h2, h3, h4, h5⟩ := V.row i hi
  have h6 := hO i hv
  have h7 := hR i hv
  exact ⟨by omega, by omega, by omega, h4, by rw [hn]; exact h5⟩

section
variable {ow pr ow' pr' : List Int} {su : List (List Int)} (D : Dual1 ow pr su ow' pr')
include D
theorem Dual1.play (st : List Int) (fr : Int) : playM ow' pr' su st fr = playM ow pr su st fr := by
  have e : playE ow' pr' su st fr = playE ow pr su st fr := by
    unfold playE
    rw [check_of D.v, check_of D.v', D.n]
  unfold playM
  rw [e, D.n]
theorem Dual1.wrong {side : Int} (h0 : 0 ≤ side) (h1 : side ≤ 1) (keep : List Int) : wrongM ow' pr' su (1 - side) keep = wrongM ow pr su side keep := by
  unfold wrongM
  rw [check_of D.v, check_of D.v', if_pos rfl, if_pos rfl, if_neg (show ¬ (1 : Int) < 1 - side by omega), if_neg (show ¬ (1 : Int) < side by omega), D.n]
theorem Dual1.pf {side : Int} {v : Nat} (hv : v < ow.length) : Pf ow' (1 - side) v = Pf ow side v := by
  obtain ⟨_, _, h⟩ := D.o v hv
  unfold Pf
  rw [h]
  by_cases e : ow.getD v 0 = side
  · simp [e]
  · have : ¬ (1 - ow.getD v 0 = 1 - side) := by omega
    simp only [this, e]
end
theorem rk_congr {P P' : Nat → Bool} {S : Nat → List Nat} {Z : Nat → Bool} {n : Nat} (hP : ∀ v, v < n → P v = P' v) (hS : ∀ v, v < n → ∀ u ∈ S v, u < n) : ∀ k v, v < n → rk P S Z k v = rk P' S Z k v
  | 0, v, _ => rfl
  | k + 1, v, hv => by
    have h1 := rk_congr (Z := Z) hP hS k v hv
    have h2 : (S v).map (rk P S Z k) = (S v).map (rk P' S Z k) := List.map_congr_left fun u hu => rk_congr hP hS k u (hS v hv u hu)
    show rkRow _ _ _ _ _ = rkRow _ _ _ _ _
    unfold rkRow
    rw [h1, h2, hP v hv]
theorem tabL_congr {n : Nat} {R R' : Nat → Int} (h : ∀ v, v < n → R v = R' v) : tabL n R = tabL n R' := List.map_congr_left fun v hv => h v (List.mem_range.1 hv)
theorem firstS_congr {R R' : Nat → Int} {k : Int} : ∀ {l : List Int}, (∀ u ∈ l, R u.toNat = R' u.toNat) → firstS R k l = firstS R' k l
  | [], _ => rfl
  | u :: l, h => by
    unfold firstS
    rw [h u (by simp), firstS_congr fun x hx => h x (by simp [hx])]
section
variable {ow pr ow' pr' : List Int} {su : List (List Int)} (D : Dual1 ow pr su ow' pr')
include D
theorem Dual1.rk {side : Int} {keep : List Int} {v : Nat} (hv : v < ow.length) : rkOf ow' su (1 - side) keep v = rkOf ow su side keep v := by
  unfold rkOf
  rw [D.n]
  exact rk_congr (fun v hv => D.pf hv) (fun v hv => (Sf_ok D.v hv).2.1) _ v hv
theorem Dual1.strat {side : Int} {keep : List Int} {v : Nat} (hv : v < ow.length) : stratOf ow' su (1 - side) (rkOf ow' su (1 - side) keep) v = stratOf ow su side (rkOf ow su side keep) v := by
  unfold stratOf
  have h1 := D.rk (side := side) (keep := keep) hv
  have h2 := D.pf (side := side) hv
  have h3 : (ow'.getD v 0 = 1 - side) ↔ (ow.getD v 0 = side) := by
    unfold Pf at h2
    exact decide_eq_decide.1 h2
  simp only [h1, h3]
  rw [firstS_congr (R := rkOf ow' su (1 - side) keep) (R' := rkOf ow su side keep) fun u hu => D.rk (by have := su_range D.v hv hu; omega)]
theorem Dual1.attr {side : Int} (h0 : 0 ≤ side) (h1 : side ≤ 1) (keep : List Int) : attrM ow' pr' su (1 - side) keep = attrM ow pr su side keep := by
  unfold attrM
  rw [D.wrong h0 h1 keep, D.n, tabL_congr fun v hv => D.rk (side := side) (keep := keep) hv, tabL_congr fun v hv => D.strat (side := side) (keep := keep) hv]
theorem Dual1.trapAt {side : Int} {keep : List Int} {v : Int} (hv : v.toNat < ow.length) : trapAt ow' su (1 - side) keep v ↔ trapAt ow su side keep v := by
  have h2 := D.pf (side := side) hv
  have h3 : (ow'.getD v.toNat 0 = 1 - side) ↔ (ow.getD v.toNat 0 = side) := by
    unfold Pf at h2
    exact decide_eq_decide.1 h2
  unfold Ar.trapAt
  rw [h3]
theorem Dual1.trap {side : Int} (h0 : 0 ≤ side) (h1 : side ≤ 1) (keep : List Int) : trapM ow' pr' su (1 - side) keep = trapM ow pr su side keep := by
  unfold trapM
  rw [D.wrong h0 h1 keep]
  by_cases c : wrongM ow pr su side keep = 0
  · rw [if_pos c, if_pos c]
    obtain ⟨_, _, hp⟩ := wrong_zero c
    have hk := (posM_rise hp).2
    have : trapL ow' su (1 - side) keep keep = trapL ow su side keep keep := by
      rw [Bool.eq_iff_iff, trapL_iff, trapL_iff]
      exact ⟨fun h v hv => (D.trapAt (by have := hk v hv; omega)).1 (h v hv), fun h v hv => (D.trapAt (by have := hk v hv; omega)).2 (h v hv)⟩
    rw [this]
  · rw [if_neg c, if_neg c]
end
/-- The greatest priority of a list of positions. -/
def mxP (pr : List Int) : Int → List Int → Int
  | m, [] => m
  | m, v :: l => mxP pr (max m (pr.getD v.toNat 0)) l
theorem winL_of {n : Int} {pr : List Int} : ∀ {l : List Int} {m : Int}, (∀ v ∈ l, 0 ≤ v ∧ v < n) → winL n pr m l = .tuple [p8 (IntKind.u8.wrap ((mxP pr m l).tmod 2)), p64 0]
  | [], m, _ => rfl
  | v :: l, m, h => by
    have := h v (by simp)
    unfold winL mxP
    rw [if_neg (by omega), if_neg (by omega)]
    exact winL_of fun x hx => h x (by simp [hx])
theorem mxP_ge {pr : List Int} : ∀ {l : List Int} {m : Int}, m ≤ mxP pr m l
  | [], m => Int.le_refl _
  | v :: l, m => by
    unfold mxP
    have := mxP_ge (pr := pr) (l := l) (m := max m (pr.getD v.toNat 0))
    omega
theorem mxP_dual {pr pr' : List Int} {n : Nat} (h : ∀ v, v < n → 0 ≤ pr.getD v 0 ∧ pr'.getD v 0 = pr.getD v 0 + 1) : ∀ {l : List Int} {m : Int}, (∀ v ∈ l, 0 ≤ v ∧ v < n) → mxP pr' (m + 1) l = mxP pr m l + 1
  | [], m, _ => rfl
  | v :: l, m, hl => by
    have h1 := hl v (by simp)
    have h2 := h v.toNat (by omega)
    unfold mxP
    rw [h2.2, show max (m + 1) (pr.getD v.toNat 0 + 1) = max m (pr.getD v.toNat 0) + 1 by omega]
    exact mxP_dual h fun x hx => hl x (by simp [hx])
theorem mxP_dual0 {pr pr' : List Int} {n : Nat} (h : ∀ v, v < n → 0 ≤ pr.getD v 0 ∧ pr'.getD v 0 = pr.getD v 0 + 1) {l : List Int} (hl : ∀ v ∈ l, 0 ≤ v ∧ v < n) (hne : l ≠ []) : mxP pr' 0 l = mxP pr 0 l + 1 := by
  cases l with
  | nil => exact absurd rfl hne
  | cons v l =>
    have h1 := hl v (by simp)
    have h2 := h v.toNat (by omega)
    unfold mxP
    rw [h2.2, show max (0 : Int) (pr.getD v.toNat 0 + 1) = max 0 (pr.getD v.toNat 0) + 1 by omega]
    exact mxP_dual h fun x hx => hl x (by simp [hx])
theorem par_u8 {m : Int} (h : 0 ≤ m) : IntKind.u8.wrap (m.tmod 2) = m % 2 := by
  rw [Int.tmod_eq_emod_of_nonneg h]
  simp only [IntKind.wrap, IntKind.signed, IntKind.bits]
  simp
  omega
theorem par_sum {m : Int} (h : 0 ≤ m) : IntKind.u8.wrap (m % 2 + (m + 1) % 2) = 1 := by
  have : m % 2 + (m + 1) % 2 = 1 := by omega
  rw [this]; rfl
theorem playE_ok {ow pr : List Int} {su : List (List Int)} {st : List Int} {fr : Int} (h : playE ow pr su st fr = 0) : Valid ow pr su ∧ st.length = ow.length ∧ movM su 0 st = true ∧ 0 ≤ fr ∧ fr < ow.length := by
  unfold playE at h
  split at h
  · rename_i h0
    split at h
    · simp at h
    · split at h
      · simp at h
      · split at h
        · split at h
          · rename_i h1 h2 h3 h4
            exact ⟨valid_of h0, by omega, h4, by omega, by omega⟩
          · simp at h
        · simp at h
  · rename_i h0; exact absurd h h0
theorem playE_play {ow pr : List Int} {su : List (List Int)} {st : List Int} {fr : Int} (h : playE ow pr su st fr = 0) :
    ∃ (f : Nat → Nat) (v m k : Nat), v < ow.length ∧ (∀ v, v < ow.length → f v < ow.length) ∧ IsPlay f v ow.length (playL st (ow.length + 1) fr []).1 (playL st (ow.length + 1) fr []).2 m k := by
  obtain ⟨V, hl, hm, h0, h1⟩ := playE_ok h
  have hst : ∀ v, v < ow.length → ∃ u, st[v]? = some u ∧ 0 ≤ u ∧ u < ow.length := fun v hv => by
    obtain ⟨u, hu⟩ := some_of (xs := st) (k := v) (by omega)
    have := movM_get hm v u hu
    rw [Nat.zero_add] at this
    exact ⟨u, hu, su_range V hv this⟩
  have hf : ∀ v, v < ow.length → (st.getD v 0).toNat < ow.length := fun v hv => by
    obtain ⟨u, h1, h2, h3⟩ := hst v hv
    rw [getD_some h1]; omega
  obtain ⟨w, rfl⟩ : ∃ w : Nat, fr = w := ⟨fr.toNat, by omega⟩
  obtain ⟨m, k, hp⟩ := play_spec (st := st) (f := fun v => (st.getD v 0).toNat) (n := ow.length) (v := w) (fun v hv => by
    obtain ⟨u, h1, h2, h3⟩ := hst v hv
    show st[v]? = some (((st.getD v 0).toNat : Nat) : Int)
    rw [getD_some h1, h1]; congr 1; omega) hf (by omega)
  exact ⟨_, w, m, k, by omega, hf, hp⟩
end Go.Am.Ar
