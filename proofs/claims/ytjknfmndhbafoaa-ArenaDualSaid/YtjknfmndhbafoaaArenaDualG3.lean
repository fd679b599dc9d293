/- Contracts: traps, and what goes with it. -/
import Derived.Test.YtjknfmndhbafoaaArenaDualG2
import Derived.Test.YtjknfmndhbafoaaArenaDualG0
import Derived.Test.YtjknfmndhbafoaaPmC
import Derived.Test.YtjknfmndhbafoaaPmL
set_option linter.unusedVariables false
set_option linter.unusedSimpArgs false
set_option maxRecDepth 10000
namespace Go.Am.Ar
open Go.Am renaming pchk → P1, pold → P2, PKNo → P3, ppack → P4, PObj.under → P5, pput → P6, ptset → P7, ptget → P8, pev → P9, ofAV → P10, ofAV1 → P11, ppad → P12, pfill → P13, prepl → P14, AO.effect → P15
open List renaming replicate → L1
open Nat renaming reduceAdd → N1, reduceSub → N2, reduceMul → N3, reduceLT → N4, reduceLeDiff → N5, reduceEqDiff → N6, reduceBEq → N7
open Int renaming reduceToNat → I1, reduceLT → I2, reduceLE → I3, reduceEq → I4, reduceAdd → I5, reduceSub → I6, reduceNeg → I7
def trapAt (ow : List Int) (su : List (List Int)) (side : Int) (keep : List Int) (v : Int) : Prop :=
  (∃ u ∈ su.getD v.toNat [], u ∈ keep) ∧ (ow.getD v.toNat 0 = side → ∀ u ∈ su.getD v.toNat [], u ∈ keep)
instance (ow : List Int) (su : List (List Int)) (side : Int) (keep : List Int) (v : Int) : Decidable (trapAt ow su side keep v) := by unfold trapAt; infer_instance
def trapL (ow : List Int) (su : List (List Int)) (side : Int) (keep : List Int) : List Int → Bool
  | [] => true
  | v :: l => if trapAt ow su side keep v then trapL ow su side keep l else false
theorem trapL_iff {ow : List Int} {su : List (List Int)} {side : Int} {keep : List Int} : ∀ {l : List Int}, trapL ow su side keep l = true ↔ ∀ v ∈ l, trapAt ow su side keep v
  | [] => by simp [trapL]
  | v :: l => by
    unfold trapL
    split
    · rename_i h; rw [trapL_iff]; simp [h]
    · rename_i h; simp [h]
def trapM (ow pr : List Int) (su : List (List Int)) (side : Int) (keep : List Int) : PV :=
  if wrongM ow pr su side keep = 0 then .tuple [.bool (trapL ow su side keep keep), p64 0] else .tuple [.bool false, p64 (wrongM ow pr su side keep)]
theorem trapM_res (ow pr : List Int) (su : List (List Int)) (side : Int) (keep : List Int) : ∃ b e, trapM ow pr su side keep = .tuple [.bool b, p64 e] := by
  unfold trapM
  split
  · exact ⟨_, _, rfl⟩
  · exact ⟨_, _, rfl⟩
theorem natI_of {l : List Int} (h : ∀ x ∈ l, 0 ≤ x) : natI (l.map Int.toNat) = l := by
  induction l with
  | nil => rfl
  | cons x l ih =>
    have := h x (by simp)
    have e := ih fun y hy => h y (by simp [hy])
    show ((x.toNat : Nat) : Int) :: natI (l.map Int.toNat) = x :: l
    rw [e]
    congr 1
    omega
theorem toNat_mem {l : List Int} (h : ∀ x ∈ l, 0 ≤ x) {x : Int} (hx : 0 ≤ x) : x.toNat ∈ l.map Int.toNat ↔ x ∈ l := by
  rw [List.mem_map]
  exact ⟨fun ⟨y, h1, h2⟩ => by have := h y h1; rw [show x = y by omega]; exact h1, fun h => ⟨x, h, rfl⟩⟩
theorem ex_nat {a b : List Int} (ha : ∀ x ∈ a, 0 ≤ x) (hb : ∀ x ∈ b, 0 ≤ x) : (∃ x, x ∈ a.map Int.toNat ∧ x ∈ b.map Int.toNat) ↔ ∃ u ∈ a, u ∈ b := by
  constructor
  · rintro ⟨x, h1, h2⟩
    obtain ⟨y, q1, rfl⟩ := List.mem_map.1 h1
    exact ⟨y, q1, (toNat_mem hb (ha y q1)).1 h2⟩
  · rintro ⟨u, h1, h2⟩
    exact ⟨u.toNat, List.mem_map.2 ⟨u, h1, rfl⟩, List.mem_map.2 ⟨u, h2, rfl⟩⟩
theorem all_nat {a b : List Int} (ha : ∀ x ∈ a, 0 ≤ x) (hb : ∀ x ∈ b, 0 ≤ x) : (∀ x ∈ a.map Int.toNat, x ∈ b.map Int.toNat) ↔ ∀ u ∈ a, u ∈ b := by
  constructor
  · intro h u hu
    exact (toNat_mem hb (ha u hu)).1 (h _ (List.mem_map.2 ⟨u, hu, rfl⟩))
  · intro h x hx
    obtain ⟨y, q1, rfl⟩ := List.mem_map.1 hx
    exact List.mem_map.2 ⟨y, h y q1, rfl⟩
section
variable {tab : FuncId → Option AF} (T : HasA tab)
include T
theorem trap_p {M : Mem} {K : PV → Mem → Prop} {f1 o1 f2 o2 f3 o3 f4 o4 f5 o5 : Bool} {ow pr keep : List Int} {side : Int} {su : List (List Int)} (B : Bnd ow pr su) (hb : keep.length < big) (hq : K (trapM ow pr su side keep) M) :
    SemC tab 15 [gmP f1 o1 f2 o2 f3 o3 f4 o4 ow pr su, p8 side, slI f5 o5 .i64 keep] M K := by
  refine SemC_pure T.h15 (by simp only [PP, P1, P2, P3, P4, P5, P6, P7, P8, P9, P10, P11, P12, P13, P14, L1, P15, N1, N2, N3, N4, N5, N6, N7, I1, I2, I3, I4, I5, I6, I7, reduceIte, reduceCtorEq]) ?_
  simp only [af15, PP, P1, P2, P3, P4, P5, P6, P7, P8, P9, P10, P11, P12, P13, P14, L1, P15, N1, N2, N3, N4, N5, N6, N7, I1, I2, I3, I4, I5, I6, I7, reduceIte, reduceCtorEq, trapM] at hq ⊢
  refine acheck_p T B hb ?_
  simp only [PP, P1, P2, P3, P4, P5, P6, P7, P8, P9, P10, P11, P12, P13, P14, L1, P15, N1, N2, N3, N4, N5, N6, N7, I1, I2, I3, I4, I5, I6, I7, reduceIte, reduceCtorEq]
  refine QIf.intro (fun c1 => ?_) (fun c1 => ?_)
  rotate_left
  · simp only [PP, P1, P2, P3, P4, P5, P6, P7, P8, P9, P10, P11, P12, P13, P14, L1, P15, N1, N2, N3, N4, N5, N6, N7, I1, I2, I3, I4, I5, I6, I7, reduceIte, reduceCtorEq, c1] at hq ⊢
    exact hq
  simp only [PP, P1, P2, P3, P4, P5, P6, P7, P8, P9, P10, P11, P12, P13, P14, L1, P15, N1, N2, N3, N4, N5, N6, N7, I1, I2, I3, I4, I5, I6, I7, reduceIte, reduceCtorEq, c1] at hq ⊢
  obtain ⟨V, hside, hpm⟩ := wrong_zero c1
  have hs := V.s
  have n1 := V.n1
  have kr : ∀ x ∈ keep, 0 ≤ x ∧ x < ow.length := fun x hx => by have := (posM_rise hpm).2 x hx; omega
  have hkn : ∀ x ∈ keep.map Int.toNat, x < 4096 := fun x hx => by
    obtain ⟨y, hy, rfl⟩ := List.mem_map.1 hx
    have := kr y hy; omega
  refine of_p T (natI_of fun x hx => (kr x hx).1) (by rw [List.length_map]; exact hb) hkn ?_
  have hkl := ofL_len hkn
  simp only [PP, P1, P2, P3, P4, P5, P6, P7, P8, P9, P10, P11, P12, P13, P14, L1, P15, N1, N2, N3, N4, N5, N6, N7, I1, I2, I3, I4, I5, I6, I7, reduceIte, reduceCtorEq]
  refine loop1 (fun (k : Nat) => k ≤ keep.length ∧ K (.tuple [.bool (trapL ow su side keep (keep.drop k)), p64 0]) M) (fun k => [.junk, p8 side, .junk, .ptr 0 0 0, .junk, .junk, .junk, .junk, .junk, slW false true (ofL (keep.map Int.toNat)), .junk, .junk, .junk, .junk, .junk, .junk, .junk, .junk, .junk, .junk, .junk, .junk, slI f5 o5 .i64 keep, p64 keep.length, p64 k, .junk, .junk, .junk, .junk, .junk, .junk, .junk, .junk, .junk, .junk, .junk, .junk, .junk, .junk, .junk, .junk, .junk, .junk, .junk, .junk, .junk, .junk, .junk, .junk, .junk, .junk, .junk, .junk, .junk]) (fun _ => [.cells 0 0 [slI f1 o1 .u8 ow, slI f2 o2 .i64 pr, slR f3 o3 f4 o4 .i64 su]]) (fun k => keep.length - k) 0 ⟨by omega, hq⟩ (by simp only [PWeak_nil, PWeak_junk, PWeak_same, Int.cast_ofNat_Int, List.length_append, List.length_cons, List.length_nil, Nat.zero_add]) rfl ?_
  intro k ⟨hle, hq⟩ ih
  refine SemW_go (by kernel_rfl) ?_
  simp only [PP, P1, P2, P3, P4, P5, P6, P7, P8, P9, P10, P11, P12, P13, P14, L1, P15, N1, N2, N3, N4, N5, N6, N7, I1, I2, I3, I4, I5, I6, I7, reduceIte, reduceCtorEq]
  refine QIf.intro (fun c => ?_) (fun c => ?_)
  · have hk : k < keep.length := by omega
    have hkb : keep.length < 1000000000000 := hb
    have hw := wrap_succ (k := k) (by show _ < 1000000000000; omega)
    have k0 : (0 : Int) ≤ k := by omega
    obtain ⟨v, g1⟩ := some_of hk
    obtain ⟨v0, v1⟩ := kr v (List.mem_of_getElem? g1)
    obtain ⟨row, g2⟩ := some_of (xs := su) (k := v.toNat) (by omega)
    obtain ⟨o, g3⟩ := some_of (xs := ow) (k := v.toNat) (by omega)
    have e2 : su.getD v.toNat [] = row := by simp [List.getD, g2]
    have e3 : ow.getD v.toNat 0 = o := by simp [List.getD, g3]
    have vs : v < su.length := by omega
    have rr : ∀ x ∈ row, 0 ≤ x ∧ x < ow.length := fun x hx => su_range V (v := v.toNat) (by omega) (by rw [e2]; exact hx)
    have hrn : ∀ x ∈ row.map Int.toNat, x < 4096 := fun x hx => by
      obtain ⟨y, hy, rfl⟩ := List.mem_map.1 hx
      have := rr y hy; omega
    have hrl := ofL_len hrn
    rw [drop_some g1, trapL] at hq
    have hta : trapAt ow su side keep v ↔ (∃ u ∈ row, u ∈ keep) ∧ (o = side → ∀ u ∈ row, u ∈ keep) := by unfold trapAt; rw [e2, e3]
    simp only [PP, P1, P2, P3, P4, P5, P6, P7, P8, P9, P10, P11, P12, P13, P14, L1, P15, N1, N2, N3, N4, N5, N6, N7, I1, I2, I3, I4, I5, I6, I7, reduceIte, reduceCtorEq, c, g1, k0, g2, v0, vs]
    refine of_p T (natI_of fun x hx => (rr x hx).1) (by rw [List.length_map]; exact B.r _ (List.mem_of_getElem? g2)) hrn ?_
    simp only [PP, P1, P2, P3, P4, P5, P6, P7, P8, P9, P10, P11, P12, P13, P14, L1, P15, N1, N2, N3, N4, N5, N6, N7, I1, I2, I3, I4, I5, I6, I7, reduceIte, reduceCtorEq]
    refine intersects_p T (by show _ < 1000000000000; omega) (by show _ < 1000000000000; omega) ?_
    have i1 := (inter_iff hrn hkn).trans (ex_nat (fun x hx => (rr x hx).1) (fun x hx => (kr x hx).1))
    have i2 := (subset_iff hrn hkn).trans (all_nat (fun x hx => (rr x hx).1) (fun x hx => (kr x hx).1))
    simp only [i1] 
    by_cases h1 : ∃ u ∈ row, u ∈ keep
    · by_cases h2 : o = side
      · simp only [PP, P1, P2, P3, P4, P5, P6, P7, P8, P9, P10, P11, P12, P13, P14, L1, P15, N1, N2, N3, N4, N5, N6, N7, I1, I2, I3, I4, I5, I6, I7, reduceIte, reduceCtorEq, h1, h2, g3, v0, v1]
        refine subset_p T (by show _ < 1000000000000; omega) (by show _ < 1000000000000; omega) ?_
        simp only [i2]
        by_cases h3 : ∀ u ∈ row, u ∈ keep
        · rw [if_pos (hta.2 ⟨h1, fun _ => h3⟩)] at hq
          simp only [PP, P1, P2, P3, P4, P5, P6, P7, P8, P9, P10, P11, P12, P13, P14, L1, P15, N1, N2, N3, N4, N5, N6, N7, I1, I2, I3, I4, I5, I6, I7, reduceIte, reduceCtorEq, eq_true h3, hw]
          exact SemW_weak (ih (k + 1) ⟨by omega, hq⟩ (by omega)) (by simp only [PWeak_nil, PWeak_junk, PWeak_same, Int.cast_ofNat_Int, List.length_append, List.length_cons, List.length_nil, Nat.zero_add])
        · rw [if_neg (fun h => h3 ((hta.1 h).2 h2))] at hq
          simp only [PP, P1, P2, P3, P4, P5, P6, P7, P8, P9, P10, P11, P12, P13, P14, L1, P15, N1, N2, N3, N4, N5, N6, N7, I1, I2, I3, I4, I5, I6, I7, reduceIte, reduceCtorEq, eq_false h3]
          exact hq
      · rw [if_pos (hta.2 ⟨h1, fun h => absurd h h2⟩)] at hq
        simp only [PP, P1, P2, P3, P4, P5, P6, P7, P8, P9, P10, P11, P12, P13, P14, L1, P15, N1, N2, N3, N4, N5, N6, N7, I1, I2, I3, I4, I5, I6, I7, reduceIte, reduceCtorEq, h1, h2, g3, v0, v1, hw]
        exact SemW_weak (ih (k + 1) ⟨by omega, hq⟩ (by omega)) (by simp only [PWeak_nil, PWeak_junk, PWeak_same, Int.cast_ofNat_Int, List.length_append, List.length_cons, List.length_nil, Nat.zero_add])
    · rw [if_neg (fun h => h1 (hta.1 h).1)] at hq
      simp only [PP, P1, P2, P3, P4, P5, P6, P7, P8, P9, P10, P11, P12, P13, P14, L1, P15, N1, N2, N3, N4, N5, N6, N7, I1, I2, I3, I4, I5, I6, I7, reduceIte, reduceCtorEq, h1]
      exact hq
  · rw [List.drop_eq_nil_of_le (by omega)] at hq
    simp only [PP, P1, P2, P3, P4, P5, P6, P7, P8, P9, P10, P11, P12, P13, P14, L1, P15, N1, N2, N3, N4, N5, N6, N7, I1, I2, I3, I4, I5, I6, I7, reduceIte, reduceCtorEq, c]
    exact hq

theorem refTrap_p {M : Mem} {K : PV → Mem → Prop} {f1 o1 f2 o2 f3 o3 f4 o4 f5 o5 : Bool} {ow pr keep : List Int} {side : Int} {su : List (List Int)} (B : Bnd ow pr su) (hb : keep.length < big) (hq : K (trapM ow pr su side keep) M) :
    SemC tab 16 [gmP f1 o1 f2 o2 f3 o3 f4 o4 ow pr su, p8 side, slI f5 o5 .i64 keep] M K := by
  refine SemC_pure T.h16 (by simp only [PP, P1, P2, P3, P4, P5, P6, P7, P8, P9, P10, P11, P12, P13, P14, L1, P15, N1, N2, N3, N4, N5, N6, N7, I1, I2, I3, I4, I5, I6, I7, reduceIte, reduceCtorEq]) ?_
  simp only [af16, PP, P1, P2, P3, P4, P5, P6, P7, P8, P9, P10, P11, P12, P13, P14, L1, P15, N1, N2, N3, N4, N5, N6, N7, I1, I2, I3, I4, I5, I6, I7, reduceIte, reduceCtorEq, trapM] at hq ⊢
  refine wrong_p T B hb ?_
  simp only [PP, P1, P2, P3, P4, P5, P6, P7, P8, P9, P10, P11, P12, P13, P14, L1, P15, N1, N2, N3, N4, N5, N6, N7, I1, I2, I3, I4, I5, I6, I7, reduceIte, reduceCtorEq]
  refine QIf.intro (fun c1 => ?_) (fun c1 => ?_)
  rotate_left
  · simp only [PP, P1, P2, P3, P4, P5, P6, P7, P8, P9, P10, P11, P12, P13, P14, L1, P15, N1, N2, N3, N4, N5, N6, N7, I1, I2, I3, I4, I5, I6, I7, reduceIte, reduceCtorEq, c1] at hq ⊢
    exact hq
  simp only [PP, P1, P2, P3, P4, P5, P6, P7, P8, P9, P10, P11, P12, P13, P14, L1, P15, N1, N2, N3, N4, N5, N6, N7, I1, I2, I3, I4, I5, I6, I7, reduceIte, reduceCtorEq, c1] at hq ⊢
  obtain ⟨V, hside, hpm⟩ := wrong_zero c1
  have hs := V.s
  have n1 := V.n1
  have kr : ∀ x ∈ keep, 0 ≤ x ∧ x < ow.length := fun x hx => by have := (posM_rise hpm).2 x hx; omega
  refine loop1 (fun (k : Nat) => k ≤ keep.length ∧ K (.tuple [.bool (trapL ow su side keep (keep.drop k)), p64 0]) M) (fun k => [.junk, p8 side, slI f5 o5 .i64 keep, .ptr 0 0 0, .junk, .junk, .junk, .junk, .junk, p64 k, .junk, .junk, .junk, .junk, .junk, .junk, .junk, .junk, .junk, .junk, .junk, .junk, .junk, .junk, .junk, .junk, .junk, .junk, .junk, .junk, .junk, .junk, .junk, .junk, .junk, .junk, .junk, .junk, .junk, .junk, .junk, .junk, .junk, .junk, .junk, .junk, .junk, .junk, .junk, .junk, .junk, .junk, .junk, .junk, .junk, .junk, .junk, .junk, .junk, .junk, .junk, .junk, .junk, .junk, .junk, .junk, .junk, .junk, .junk, .junk]) (fun _ => [.cells 0 0 [slI f1 o1 .u8 ow, slI f2 o2 .i64 pr, slR f3 o3 f4 o4 .i64 su]]) (fun k => keep.length - k) 0 ⟨by omega, hq⟩ (by simp only [PWeak_nil, PWeak_junk, PWeak_same, Int.cast_ofNat_Int, List.length_append, List.length_cons, List.length_nil, Nat.zero_add]) rfl ?_
  intro k ⟨hle, hq⟩ ih
  refine SemW_go (by kernel_rfl) ?_
  simp only [PP, P1, P2, P3, P4, P5, P6, P7, P8, P9, P10, P11, P12, P13, P14, L1, P15, N1, N2, N3, N4, N5, N6, N7, I1, I2, I3, I4, I5, I6, I7, reduceIte, reduceCtorEq]
  refine QIf.intro (fun c => ?_) (fun c => ?_)
  · have hk : k < keep.length := by omega
    have hkb : keep.length < 1000000000000 := hb
    have hw := wrap_succ (k := k) (by show _ < 1000000000000; omega)
    have k0 : (0 : Int) ≤ k := by omega
    obtain ⟨v, g1⟩ := some_of hk
    obtain ⟨v0, v1⟩ := kr v (List.mem_of_getElem? g1)
    obtain ⟨row, g2⟩ := some_of (xs := su) (k := v.toNat) (by omega)
    obtain ⟨o, g3⟩ := some_of (xs := ow) (k := v.toNat) (by omega)
    have e2 : su.getD v.toNat [] = row := by simp [List.getD, g2]
    have e3 : ow.getD v.toNat 0 = o := by simp [List.getD, g3]
    have vs : v < su.length := by omega
    have hrl : row.length < 1000000000000 := B.r _ (List.mem_of_getElem? g2)
    rw [drop_some g1, trapL] at hq
    have hta : trapAt ow su side keep v ↔ (∃ u ∈ row, u ∈ keep) ∧ (o = side → ∀ u ∈ row, u ∈ keep) := by unfold trapAt; rw [e2, e3]
    simp only [PP, P1, P2, P3, P4, P5, P6, P7, P8, P9, P10, P11, P12, P13, P14, L1, P15, N1, N2, N3, N4, N5, N6, N7, I1, I2, I3, I4, I5, I6, I7, reduceIte, reduceCtorEq, c, g1, k0]
    refine loop3 (fun (i a b : Nat) => i ≤ row.length ∧ a ≤ i ∧ b ≤ i ∧ (0 < a ↔ ∃ u ∈ row.take i, u ∈ keep) ∧ (0 < b ↔ ∃ u ∈ row.take i, ¬ u ∈ keep))
      (fun i a b => [.junk, p8 side, slI f5 o5 .i64 keep, .ptr 0 0 0, .junk, .junk, .junk, .junk, .junk, p64 k, p64 v, p64 a, p64 b, p64 i, .junk, .junk, .junk, .junk, .junk, .junk, .junk, .junk, .junk, .junk, .junk, .junk, .junk, .junk, .junk, .junk, .junk, .junk, .junk, .junk, .junk, .junk, .junk, .junk, .junk, .junk, .junk, .junk, .junk, .junk, .junk, .junk, .junk, .junk, .junk, .junk, .junk, .junk, .junk, .junk, .junk, .junk, .junk, .junk, .junk, .junk, .junk, .junk, .junk, .junk, .junk, .junk, .junk, .junk, .junk, .junk]) (fun _ _ _ => [.cells 0 0 [slI f1 o1 .u8 ow, slI f2 o2 .i64 pr, slR f3 o3 f4 o4 .i64 su]]) (fun i _ _ => row.length - i) 0 0 0 ⟨by omega, by omega, by omega, by simp, by simp⟩ (by simp only [PWeak_nil, PWeak_junk, PWeak_same, Int.cast_ofNat_Int, List.length_append, List.length_cons, List.length_nil, Nat.zero_add]) rfl ?_
    intro i a b ⟨hi, hai, hbi, ha, hb'⟩ ih2
    refine SemW_go (by kernel_rfl) ?_
    simp only [PP, P1, P2, P3, P4, P5, P6, P7, P8, P9, P10, P11, P12, P13, P14, L1, P15, N1, N2, N3, N4, N5, N6, N7, I1, I2, I3, I4, I5, I6, I7, reduceIte, reduceCtorEq, g2, v0, vs]
    refine QIf.intro (fun d => ?_) (fun d => ?_)
    · have hil : i < row.length := by omega
      have hwi := wrap_succ (k := i) (by show _ < 1000000000000; omega)
      have hwa := wrap_succ (k := a) (by show _ < 1000000000000; omega)
      have hwb := wrap_succ (k := b) (by show _ < 1000000000000; omega)
      have i0 : (0 : Int) ≤ i := by omega
      obtain ⟨u, g4⟩ := some_of hil
      simp only [PP, P1, P2, P3, P4, P5, P6, P7, P8, P9, P10, P11, P12, P13, P14, L1, P15, N1, N2, N3, N4, N5, N6, N7, I1, I2, I3, I4, I5, I6, I7, reduceIte, reduceCtorEq, d, g2, v0, vs, i0, g4]
      refine hasInt_p T hb ?_
      by_cases hu : u ∈ keep
      · simp only [PP, P1, P2, P3, P4, P5, P6, P7, P8, P9, P10, P11, P12, P13, P14, L1, P15, N1, N2, N3, N4, N5, N6, N7, I1, I2, I3, I4, I5, I6, I7, reduceIte, reduceCtorEq, hu, hwa, hwi]
        refine SemW_weak (ih2 (i + 1) (a + 1) b ⟨by omega, by omega, by omega, ?_, ?_⟩ (by omega)) (by simp only [PWeak_nil, PWeak_junk, PWeak_same, Int.cast_ofNat_Int, List.length_append, List.length_cons, List.length_nil, Nat.zero_add])
        · rw [take_some g4]
          exact ⟨fun _ => ⟨u, by simp, hu⟩, fun _ => by omega⟩
        · rw [take_some g4, hb']
          constructor
          · rintro ⟨x, h1, h2⟩; exact ⟨x, by simp [h1], h2⟩
          · rintro ⟨x, h1, h2⟩
            rcases List.mem_append.1 h1 with h | h
            · exact ⟨x, h, h2⟩
            · rw [List.mem_singleton] at h; subst h; exact absurd hu h2
      · simp only [PP, P1, P2, P3, P4, P5, P6, P7, P8, P9, P10, P11, P12, P13, P14, L1, P15, N1, N2, N3, N4, N5, N6, N7, I1, I2, I3, I4, I5, I6, I7, reduceIte, reduceCtorEq, hu, hwb, hwi]
        refine SemW_weak (ih2 (i + 1) a (b + 1) ⟨by omega, by omega, by omega, ?_, ?_⟩ (by omega)) (by simp only [PWeak_nil, PWeak_junk, PWeak_same, Int.cast_ofNat_Int, List.length_append, List.length_cons, List.length_nil, Nat.zero_add])
        · rw [take_some g4, ha]
          constructor
          · rintro ⟨x, h1, h2⟩; exact ⟨x, by simp [h1], h2⟩
          · rintro ⟨x, h1, h2⟩
            rcases List.mem_append.1 h1 with h | h
            · exact ⟨x, h, h2⟩
            · rw [List.mem_singleton] at h; subst h; exact absurd h2 hu
        · rw [take_some g4]
          exact ⟨fun _ => ⟨u, by simp, hu⟩, fun _ => by omega⟩
    · rw [List.take_of_length_le (by omega)] at ha hb'
      simp only [PP, P1, P2, P3, P4, P5, P6, P7, P8, P9, P10, P11, P12, P13, P14, L1, P15, N1, N2, N3, N4, N5, N6, N7, I1, I2, I3, I4, I5, I6, I7, reduceIte, reduceCtorEq, d, g3, v0, v1]
      by_cases h1 : ∃ u ∈ row, u ∈ keep
      · have a0 : ¬ (a : Int) = 0 := by have := ha.2 h1; omega
        by_cases h2 : o = side
        · by_cases h3 : ∀ u ∈ row, u ∈ keep
          · have b0 : ¬ (0 : Int) < b := fun h => by
              obtain ⟨x, q1, q2⟩ := hb'.1 (by omega)
              exact q2 (h3 x q1)
            rw [if_pos (hta.2 ⟨h1, fun _ => h3⟩)] at hq
            simp only [PP, P1, P2, P3, P4, P5, P6, P7, P8, P9, P10, P11, P12, P13, P14, L1, P15, N1, N2, N3, N4, N5, N6, N7, I1, I2, I3, I4, I5, I6, I7, reduceIte, reduceCtorEq, h2, a0, b0, hw]
            exact SemW_weak (ih (k + 1) ⟨by omega, hq⟩ (by omega)) (by simp only [PWeak_nil, PWeak_junk, PWeak_same, Int.cast_ofNat_Int, List.length_append, List.length_cons, List.length_nil, Nat.zero_add])
          · have b0 : (0 : Int) < b := by
              have : 0 < b := hb'.2 (Classical.byContradiction fun hn => h3 fun u hu => Classical.byContradiction fun q => hn ⟨u, hu, q⟩)
              omega
            rw [if_neg (fun h => h3 ((hta.1 h).2 h2))] at hq
            simp only [PP, P1, P2, P3, P4, P5, P6, P7, P8, P9, P10, P11, P12, P13, P14, L1, P15, N1, N2, N3, N4, N5, N6, N7, I1, I2, I3, I4, I5, I6, I7, reduceIte, reduceCtorEq, h2, b0]
            exact hq
        · rw [if_pos (hta.2 ⟨h1, fun h => absurd h h2⟩)] at hq
          simp only [PP, P1, P2, P3, P4, P5, P6, P7, P8, P9, P10, P11, P12, P13, P14, L1, P15, N1, N2, N3, N4, N5, N6, N7, I1, I2, I3, I4, I5, I6, I7, reduceIte, reduceCtorEq, h2, a0, hw]
          exact SemW_weak (ih (k + 1) ⟨by omega, hq⟩ (by omega)) (by simp only [PWeak_nil, PWeak_junk, PWeak_same, Int.cast_ofNat_Int, List.length_append, List.length_cons, List.length_nil, Nat.zero_add])
      · have a0 : (a : Int) = 0 := by
          have : ¬ 0 < a := fun h => h1 (ha.1 h)
          omega
        rw [if_neg (fun h => h1 (hta.1 h).1)] at hq
        by_cases h2 : o = side
        · simp only [PP, P1, P2, P3, P4, P5, P6, P7, P8, P9, P10, P11, P12, P13, P14, L1, P15, N1, N2, N3, N4, N5, N6, N7, I1, I2, I3, I4, I5, I6, I7, reduceIte, reduceCtorEq, h2, a0]
          refine QIf.intro (fun e => ?_) (fun e => ?_)
          · simp only [PP, P1, P2, P3, P4, P5, P6, P7, P8, P9, P10, P11, P12, P13, P14, L1, P15, N1, N2, N3, N4, N5, N6, N7, I1, I2, I3, I4, I5, I6, I7, reduceIte, reduceCtorEq, e, a0]; exact hq
          · simp only [PP, P1, P2, P3, P4, P5, P6, P7, P8, P9, P10, P11, P12, P13, P14, L1, P15, N1, N2, N3, N4, N5, N6, N7, I1, I2, I3, I4, I5, I6, I7, reduceIte, reduceCtorEq, e, a0]; exact hq
        · simp only [PP, P1, P2, P3, P4, P5, P6, P7, P8, P9, P10, P11, P12, P13, P14, L1, P15, N1, N2, N3, N4, N5, N6, N7, I1, I2, I3, I4, I5, I6, I7, reduceIte, reduceCtorEq, h2, a0]
          exact hq
  · rw [List.drop_eq_nil_of_le (by omega)] at hq
    simp only [PP, P1, P2, P3, P4, P5, P6, P7, P8, P9, P10, P11, P12, P13, P14, L1, P15, N1, N2, N3, N4, N5, N6, N7, I1, I2, I3, I4, I5, I6, I7, reduceIte, reduceCtorEq, c]
    exact hq
end
end Go.Am.Ar

set_option linter.unusedVariables false
set_option linter.unusedSimpArgs false
set_option maxRecDepth 10000
namespace Go.Am.Ar
open Go.Am renaming pchk → P1, pold → P2, PKNo → P3, ppack → P4, PObj.under → P5, pput → P6, ptset → P7, ptget → P8, pev → P9, ofAV → P10, ofAV1 → P11, ppad → P12, pfill → P13, prepl → P14, AO.effect → P15
open List renaming replicate → L1
open Nat renaming reduceAdd → N1, reduceSub → N2, reduceMul → N3, reduceLT → N4, reduceLeDiff → N5, reduceEqDiff → N6, reduceBEq → N7
open Int renaming reduceToNat → I1, reduceLT → I2, reduceLE → I3, reduceEq → I4, reduceAdd → I5, reduceSub → I6, reduceNeg → I7

/-- The first index of a number, counted from k, or -1. -/
def idxI (v : Int) : Nat → List Int → Int
  | _, [] => -1
  | k, x :: l => if v = x then (k : Int) else idxI v (k + 1) l
theorem idxI_spec (v : Int) : ∀ (l : List Int) (k : Nat), (v ∉ l ∧ idxI v k l = -1) ∨ ∃ i, l[i]? = some v ∧ v ∉ l.take i ∧ idxI v k l = ((k + i : Nat) : Int)
  | [], k => .inl ⟨by simp, rfl⟩
  | x :: l, k => by
    unfold idxI
    by_cases h : v = x
    · rw [if_pos h]; exact .inr ⟨0, by simp [h], by simp, rfl⟩
    · rw [if_neg h]
      rcases idxI_spec v l (k + 1) with ⟨h1, h2⟩ | ⟨i, h1, h2, h3⟩
      · exact .inl ⟨by simp [h, h1], h2⟩
      · refine .inr ⟨i + 1, by simpa using h1, by simp [h, h2], ?_⟩
        rw [h3]; congr 1; omega

def playL (st : List Int) : Nat → Int → List Int → List Int × List Int
  | 0, _, all => (all, [])
  | n + 1, v, all => if 0 ≤ idxI v 0 all then (all.take (idxI v 0 all).toNat, all.drop (idxI v 0 all).toNat) else playL st n (st.getD v.toNat 0) (all ++ [v])
def movM (su : List (List Int)) : Nat → List Int → Bool
  | _, [] => true
  | k, u :: l => if u ∈ su.getD k [] then movM su (k + 1) l else false
def playE (ow pr : List Int) (su : List (List Int)) (st : List Int) (from' : Int) : Int :=
  if checkM ow pr su = 0 then (if from' < 0 then 8 else if (ow.length : Int) ≤ from' then 8 else if (st.length : Int) = ow.length then (if movM su 0 st = true then 0 else 13) else 2) else checkM ow pr su
def playM (ow pr : List Int) (su : List (List Int)) (st : List Int) (from' : Int) : PV :=
  if playE ow pr su st from' = 0 then .tuple [slI false true .i64 (playL st (ow.length + 1) from' []).1, slI false true .i64 (playL st (ow.length + 1) from' []).2, p64 0]
  else .tuple [slI false true .i64 [], slI false true .i64 [], p64 (playE ow pr su st from')]

theorem movM_get {su : List (List Int)} : ∀ {l : List Int} {k : Nat}, movM su k l = true → ∀ (i : Nat) (u : Int), l[i]? = some u → u ∈ su.getD (k + i) []
  | [], k, h, i, u, q => by simp at q
  | x :: l, k, h, i, u, q => by
    unfold movM at h
    split at h
    · rename_i hm
      cases i with
      | zero => simp at q; subst q; exact hm
      | succ i =>
        have := movM_get h i u (by simpa using q)
        rw [show k + (i + 1) = k + 1 + i by omega]; exact this
    · cases h


section
variable {tab : FuncId → Option AF} (T : HasA tab)
include T

theorem index_p {M : Mem} {K : PV → Mem → Prop} {f o : Bool} {xs : List Int} {v : Int} (hm : xs.length < big) (hk : K (p64 (idxI v 0 xs)) M) :
    SemC tab 49 [slI f o .i64 xs, p64 v] M K := by
  refine SemC_pure T.h49 (by simp only [PP, P1, P2, P3, P4, P5, P6, P7, P8, P9, P10, P11, P12, P13, P14, L1, P15, N1, N2, N3, N4, N5, N6, N7, I1, I2, I3, I4, I5, I6, I7, reduceIte, reduceCtorEq]) ?_
  simp only [af49, PP, P1, P2, P3, P4, P5, P6, P7, P8, P9, P10, P11, P12, P13, P14, L1, P15, N1, N2, N3, N4, N5, N6, N7, I1, I2, I3, I4, I5, I6, I7, reduceIte, reduceCtorEq]
  refine loop1 (fun (k : Nat) => k ≤ xs.length ∧ K (p64 (idxI v k (xs.drop k))) M) (fun k => [slI f o .i64 xs, p64 v, .junk, .junk, .junk, .junk, .junk, p64 xs.length, p64 k, .junk, .junk, .junk, .junk, .junk, .junk, .junk, .junk, .junk, .junk]) (fun _ => []) (fun k => xs.length - k) 0 ⟨by omega, hk⟩ (by simp only [PWeak_nil, PWeak_junk, PWeak_same, Int.cast_ofNat_Int, List.length_append, List.length_cons, List.length_nil, Nat.zero_add]) rfl ?_
  intro k ⟨hle, hq⟩ ih
  refine SemW_go (by kernel_rfl) ?_
  simp only [PP, P1, P2, P3, P4, P5, P6, P7, P8, P9, P10, P11, P12, P13, P14, L1, P15, N1, N2, N3, N4, N5, N6, N7, I1, I2, I3, I4, I5, I6, I7, reduceIte, reduceCtorEq]
  refine QIf.intro (fun c => ?_) (fun c => ?_)
  · have hk' : k < xs.length := by omega
    obtain ⟨x, g⟩ := some_of hk'
    rw [drop_some g] at hq
    have hw := wrap_succ (k := k) (by omega)
    have h0 : (0 : Int) ≤ k := by omega
    simp only [PP, P1, P2, P3, P4, P5, P6, P7, P8, P9, P10, P11, P12, P13, P14, L1, P15, N1, N2, N3, N4, N5, N6, N7, I1, I2, I3, I4, I5, I6, I7, reduceIte, reduceCtorEq, idxI, c, g, h0] at hq ⊢
    refine QIf.intro (fun h1 => ?_) (fun h1 => ?_)
    · simp only [PP, P1, P2, P3, P4, P5, P6, P7, P8, P9, P10, P11, P12, P13, P14, L1, P15, N1, N2, N3, N4, N5, N6, N7, I1, I2, I3, I4, I5, I6, I7, reduceIte, reduceCtorEq, h1] at hq ⊢
      exact hq
    simp only [PP, P1, P2, P3, P4, P5, P6, P7, P8, P9, P10, P11, P12, P13, P14, L1, P15, N1, N2, N3, N4, N5, N6, N7, I1, I2, I3, I4, I5, I6, I7, reduceIte, reduceCtorEq, h1] at hq ⊢
    simp only [hw]
    exact SemW_weak (ih (k + 1) ⟨by omega, hq⟩ (by omega)) (by simp only [PWeak_nil, PWeak_junk, PWeak_same, Int.cast_ofNat_Int, List.length_append, List.length_cons, List.length_nil, Nat.zero_add])
  · rw [List.drop_eq_nil_of_le (by omega)] at hq
    simp only [PP, P1, P2, P3, P4, P5, P6, P7, P8, P9, P10, P11, P12, P13, P14, L1, P15, N1, N2, N3, N4, N5, N6, N7, I1, I2, I3, I4, I5, I6, I7, reduceIte, reduceCtorEq, c]
    exact hq

theorem contains_p {M : Mem} {K : PV → Mem → Prop} {f o : Bool} {xs : List Int} {v : Int} (hm : xs.length < big) (hk : K (.bool (decide (v ∈ xs))) M) :
    SemC tab 48 [slI f o .i64 xs, p64 v] M K := by
  refine SemC_pure T.h48 (by simp only [PP, P1, P2, P3, P4, P5, P6, P7, P8, P9, P10, P11, P12, P13, P14, L1, P15, N1, N2, N3, N4, N5, N6, N7, I1, I2, I3, I4, I5, I6, I7, reduceIte, reduceCtorEq]) ?_
  simp only [af48, PP, P1, P2, P3, P4, P5, P6, P7, P8, P9, P10, P11, P12, P13, P14, L1, P15, N1, N2, N3, N4, N5, N6, N7, I1, I2, I3, I4, I5, I6, I7, reduceIte, reduceCtorEq]
  refine index_p T hm ?_
  have e : decide (0 ≤ idxI v 0 xs) = decide (v ∈ xs) := by
    rcases idxI_spec v xs 0 with ⟨h1, h2⟩ | ⟨i, h1, h2, h3⟩
    · rw [h2]; simp [h1]
    · rw [h3]; simp [List.mem_of_getElem? h1]
  simp only [PP, P1, P2, P3, P4, P5, P6, P7, P8, P9, P10, P11, P12, P13, P14, L1, P15, N1, N2, N3, N4, N5, N6, N7, I1, I2, I3, I4, I5, I6, I7, reduceIte, reduceCtorEq, e]
  exact hk

theorem clone_r {M : Mem} {K : PV → Mem → Prop} {id g ver off n : Nat} {xs : List Int} (hM : M[id]? = some (.cells g ver (xs.map (PV.int .i64)))) (hl : off + n ≤ xs.length) (hb : xs.length < big) (hc : M.all (cutOk M.length) = true)
    (hk : K (slI false true .i64 ((xs.drop off).take n)) M) : SemC tab 50 [.ref id g 1 off n] M K := by
  have hb' : xs.length < 1000000000000 := hb
  have b1 : n * 8 ≤ 140737488355328 := by omega
  have b2 : n ≤ 9223372036854775807 := by omega
  have hlt : (id == M.length) = false := beq_eq_false_iff_ne.2 (by have := getSome_lt hM; omega)
  have hps : psub (xs.map (PV.int .i64)) off n = ((xs.drop off).take n).map (PV.int .i64) := by simp [psub, List.map_drop, List.map_take]
  have hln : ((xs.drop off).take n).length = n := by rw [List.length_take, List.length_drop]; omega
  refine SemC_wk (SemC_gh (SemC_fn T.h50 ?_))
  simp only [af50, PP, P1, P2, P3, P4, P5, P6, P7, P8, P9, P10, P11, P12, P13, P14, L1, P15, N1, N2, N3, N4, N5, N6, N7, I1, I2, I3, I4, I5, I6, I7, reduceIte, reduceCtorEq, hM]
  refine QIf.intro (fun c => ?_) (fun c => ?_)
  · subst c
    constructor
    · simp only [PP, P1, P2, P3, P4, P5, P6, P7, P8, P9, P10, P11, P12, P13, P14, L1, P15, N1, N2, N3, N4, N5, N6, N7, I1, I2, I3, I4, I5, I6, I7, reduceIte, reduceCtorEq]
      exact Gh.same ⟨_, rfl, _, PvWk.nils _ _ _, hk⟩
    · simp only [PP, P1, P2, P3, P4, P5, P6, P7, P8, P9, P10, P11, P12, P13, P14, L1, P15, N1, N2, N3, N4, N5, N6, N7, I1, I2, I3, I4, I5, I6, I7, reduceIte, reduceCtorEq, hM, hl]
      exact ⟨by omega, Gh.same ⟨_, rfl, _, PvWk.sl _ _ _ _, by simpa [slI] using hk⟩⟩
  · simp only [PP, P1, P2, P3, P4, P5, P6, P7, P8, P9, P10, P11, P12, P13, P14, L1, P15, N1, N2, N3, N4, N5, N6, N7, I1, I2, I3, I4, I5, I6, I7, reduceIte, reduceCtorEq, c, hM, hl, b1, b2, List.length_map]
    rw [hps]
    exact ⟨all_one_ints _ _, Gh_ret hc hln ⟨_, PvWk.refl _, hk⟩⟩

theorem play_p {M : Mem} {K : PV → Mem → Prop} {f1 o1 f2 o2 f3 o3 f4 o4 f5 o5 : Bool} {ow pr st : List Int} {su : List (List Int)} {from' : Int} (B : Bnd ow pr su) (hb : st.length < big) (hq : K (playM ow pr su st from') M) :
    SemC tab 23 [gmP f1 o1 f2 o2 f3 o3 f4 o4 ow pr su, slI f5 o5 .i64 st, p64 from'] M K := by
  refine SemC_wk ?_
  refine SemC_pure T.h23 (by simp only [PP, P1, P2, P3, P4, P5, P6, P7, P8, P9, P10, P11, P12, P13, P14, L1, P15, N1, N2, N3, N4, N5, N6, N7, I1, I2, I3, I4, I5, I6, I7, reduceIte, reduceCtorEq]) ?_
  simp only [af23, PP, P1, P2, P3, P4, P5, P6, P7, P8, P9, P10, P11, P12, P13, P14, L1, P15, N1, N2, N3, N4, N5, N6, N7, I1, I2, I3, I4, I5, I6, I7, reduceIte, reduceCtorEq, playM, playE] at hq ⊢
  refine check_p T B ?_
  simp only [PP, P1, P2, P3, P4, P5, P6, P7, P8, P9, P10, P11, P12, P13, P14, L1, P15, N1, N2, N3, N4, N5, N6, N7, I1, I2, I3, I4, I5, I6, I7, reduceIte, reduceCtorEq]
  refine QIf.intro (fun c1 => ?_) (fun c1 => ?_)
  rotate_left
  · simp only [PP, P1, P2, P3, P4, P5, P6, P7, P8, P9, P10, P11, P12, P13, P14, L1, P15, N1, N2, N3, N4, N5, N6, N7, I1, I2, I3, I4, I5, I6, I7, reduceIte, reduceCtorEq, c1] at hq ⊢
    exact ⟨_, wk_attr _, hq⟩
  have V := valid_of c1
  have hs := V.s
  have n1 := V.n1
  simp only [PP, P1, P2, P3, P4, P5, P6, P7, P8, P9, P10, P11, P12, P13, P14, L1, P15, N1, N2, N3, N4, N5, N6, N7, I1, I2, I3, I4, I5, I6, I7, reduceIte, reduceCtorEq, c1] at hq ⊢
  refine QIf.intro (fun c2 => ?_) (fun c2 => ?_)
  · simp only [PP, P1, P2, P3, P4, P5, P6, P7, P8, P9, P10, P11, P12, P13, P14, L1, P15, N1, N2, N3, N4, N5, N6, N7, I1, I2, I3, I4, I5, I6, I7, reduceIte, reduceCtorEq, c2] at hq ⊢
    exact ⟨_, wk_attr _, hq⟩
  simp only [PP, P1, P2, P3, P4, P5, P6, P7, P8, P9, P10, P11, P12, P13, P14, L1, P15, N1, N2, N3, N4, N5, N6, N7, I1, I2, I3, I4, I5, I6, I7, reduceIte, reduceCtorEq, c2] at hq ⊢
  refine QIf.intro (fun c3 => ?_) (fun c3 => ?_)
  · simp only [PP, P1, P2, P3, P4, P5, P6, P7, P8, P9, P10, P11, P12, P13, P14, L1, P15, N1, N2, N3, N4, N5, N6, N7, I1, I2, I3, I4, I5, I6, I7, reduceIte, reduceCtorEq, c3] at hq ⊢
    exact ⟨_, wk_attr _, hq⟩
  simp only [PP, P1, P2, P3, P4, P5, P6, P7, P8, P9, P10, P11, P12, P13, P14, L1, P15, N1, N2, N3, N4, N5, N6, N7, I1, I2, I3, I4, I5, I6, I7, reduceIte, reduceCtorEq, c3] at hq ⊢
  refine QIf.intro (fun c4 => ?_) (fun c4 => ?_)
  rotate_left
  · simp only [PP, P1, P2, P3, P4, P5, P6, P7, P8, P9, P10, P11, P12, P13, P14, L1, P15, N1, N2, N3, N4, N5, N6, N7, I1, I2, I3, I4, I5, I6, I7, reduceIte, reduceCtorEq, c4] at hq ⊢
    exact ⟨_, wk_attr _, hq⟩
  simp only [PP, P1, P2, P3, P4, P5, P6, P7, P8, P9, P10, P11, P12, P13, P14, L1, P15, N1, N2, N3, N4, N5, N6, N7, I1, I2, I3, I4, I5, I6, I7, reduceIte, reduceCtorEq, c4] at hq ⊢
  refine loop1 (fun (k : Nat) => k ≤ ow.length ∧ movM su k (st.drop k) = movM su 0 st) (fun k => [.junk, slI f5 o5 .i64 st, p64 from', .ptr 0 0 0, .junk, .junk, .junk, .junk, .junk, .junk, .junk, .junk, .junk, .junk, .junk, .junk, .junk, .junk, .junk, .junk, .junk, .junk, .junk, .junk, .junk, .junk, .junk, .junk, .junk, .junk, .junk, .junk, .junk, .junk, .junk, .junk, .junk, slI f5 o5 .i64 st, p64 ow.length, p64 k, .junk, .junk, .junk, .junk, .junk, .junk, .junk, .junk, .junk, .junk, .junk, .junk, .junk, .junk, .junk, .junk, .junk, .junk, .junk, .junk, .junk, .junk, .junk, .junk, .junk, .junk, .junk, .junk, .junk, .junk, .junk, .junk, .junk, .junk, .junk]) (fun _ => [.cells 0 0 [slI f1 o1 .u8 ow, slI f2 o2 .i64 pr, slR f3 o3 f4 o4 .i64 su]]) (fun k => ow.length - k) 0 ⟨by omega, rfl⟩ (by simp only [PWeak_nil, PWeak_junk, PWeak_same, Int.cast_ofNat_Int, List.length_append, List.length_cons, List.length_nil, Nat.zero_add]) rfl ?_
  intro k ⟨hle, hmv⟩ ih
  refine SemW_go (by kernel_rfl) ?_
  simp only [PP, P1, P2, P3, P4, P5, P6, P7, P8, P9, P10, P11, P12, P13, P14, L1, P15, N1, N2, N3, N4, N5, N6, N7, I1, I2, I3, I4, I5, I6, I7, reduceIte, reduceCtorEq]
  refine QIf.intro (fun d => ?_) (fun d => ?_)
  · have hk : k < ow.length := by omega
    have hw := wrap_succ (k := k) (by show _ < 1000000000000; omega)
    have k0 : (0 : Int) ≤ k := by omega
    obtain ⟨u, g1⟩ := some_of (xs := st) (k := k) (by omega)
    obtain ⟨row, g2⟩ := some_of (xs := su) (k := k) (by omega)
    have ks : (k : Int) < su.length := by omega
    have e2 : su.getD k [] = row := by simp [List.getD, g2]
    rw [drop_some g1, movM, e2] at hmv
    simp only [PP, P1, P2, P3, P4, P5, P6, P7, P8, P9, P10, P11, P12, P13, P14, L1, P15, N1, N2, N3, N4, N5, N6, N7, I1, I2, I3, I4, I5, I6, I7, reduceIte, reduceCtorEq, c4, d, g1, g2, k0, ks]
    refine contains_p T (B.r _ (List.mem_of_getElem? g2)) ?_
    by_cases h1 : u ∈ row
    · rw [if_pos h1] at hmv
      simp only [PP, P1, P2, P3, P4, P5, P6, P7, P8, P9, P10, P11, P12, P13, P14, L1, P15, N1, N2, N3, N4, N5, N6, N7, I1, I2, I3, I4, I5, I6, I7, reduceIte, reduceCtorEq, h1, hw]
      exact SemW_weak (ih (k + 1) ⟨by omega, hmv⟩ (by omega)) (by simp only [PWeak_nil, PWeak_junk, PWeak_same, Int.cast_ofNat_Int, List.length_append, List.length_cons, List.length_nil, Nat.zero_add])
    · rw [if_neg h1] at hmv
      simp only [PP, P1, P2, P3, P4, P5, P6, P7, P8, P9, P10, P11, P12, P13, P14, L1, P15, N1, N2, N3, N4, N5, N6, N7, I1, I2, I3, I4, I5, I6, I7, reduceIte, reduceCtorEq, h1, ← hmv] at hq ⊢
      exact ⟨_, wk_attr _, hq⟩
  · have hkn : k = st.length := by omega
    rw [List.drop_eq_nil_of_le (by omega)] at hmv
    simp only [PP, P1, P2, P3, P4, P5, P6, P7, P8, P9, P10, P11, P12, P13, P14, L1, P15, N1, N2, N3, N4, N5, N6, N7, I1, I2, I3, I4, I5, I6, I7, reduceIte, reduceCtorEq, ← hmv, movM] at hq ⊢
    simp only [PP, P1, P2, P3, P4, P5, P6, P7, P8, P9, P10, P11, P12, P13, P14, L1, P15, N1, N2, N3, N4, N5, N6, N7, I1, I2, I3, I4, I5, I6, I7, reduceIte, reduceCtorEq, d]
    have hst : ∀ (k : Nat) (u : Int), st[k]? = some u → 0 ≤ u ∧ u < ow.length := by
      intro k u hu
      have h1 := movM_get hmv.symm k u hu
      have hks : k < su.length := by have := getSome_lt hu; omega
      obtain ⟨_, _, _, _, q⟩ := V.row k hks
      rw [Nat.zero_add, List.getD, List.getElem?_eq_getElem hks] at h1
      have := (posM_rise q).2 u h1
      omega
    obtain ⟨v0, rfl⟩ : ∃ v0 : Nat, from' = v0 := ⟨from'.toNat, by omega⟩
    refine SemW_re (GStep.nil 13 1 rfl rfl rfl) ?_
    simp only [ptset, List.cons_append, List.nil_append, List.length_cons, List.length_nil, Nat.reduceAdd]
    refine loop3 (fun (v g : Nat) (l : List Nat) => v < ow.length ∧ l.Nodup ∧ (∀ x ∈ l, x < ow.length) ∧ K (.tuple [slI false true .i64 (playL st (ow.length + 1 - l.length) v (natI l)).1, slI false true .i64 (playL st (ow.length + 1 - l.length) v (natI l)).2, p64 0]) M)
      (fun v g l => [.junk, slI f5 o5 .i64 st, .junk, .junk, .junk, .junk, .junk, .junk, .junk, .junk, .junk, .junk, .junk, .ref 1 g 1 0 l.length, p64 v, .junk, .junk, .junk, .junk, .junk, .junk, .junk, .junk, .junk, .junk, .junk, .junk, .junk, .junk, .junk, .junk, .junk, .junk, .junk, .junk, .junk, .junk, .junk, .junk, .junk, .junk, .junk, .junk, .junk, .junk, .junk, .junk, .junk, .junk, .junk, .junk, .junk, .junk, .junk, .junk, .junk, .junk, .junk, .junk, .junk, .junk, .junk, .junk, .junk, .junk, .junk, .junk, .junk, .junk, .junk, .junk, .junk, .junk, .junk, .junk])
      (fun v g l => [.cells 0 0 [slI f1 o1 .u8 ow, slI f2 o2 .i64 pr, slR f3 o3 f4 o4 .i64 su], .cells g 0 ((natI l).map (PV.int .i64))])
      (fun v g l => ow.length + 1 - l.length) v0 0 [] ⟨by omega, List.nodup_nil, by simp, hq⟩ (by simp only [PWeak_nil, PWeak_junk, PWeak_same, Int.cast_ofNat_Int, List.length_append, List.length_cons, List.length_nil, Nat.zero_add]) rfl ?_
    intro v g l ⟨hv, hnd, hlt, hq⟩ ih
    have hll := nodup_lenN _ l hnd hlt
    have hlb : (natI l).length < big := by show _ < 1000000000000; rw [List.length_map]; omega
    obtain ⟨fu, hfu⟩ : ∃ fu, ow.length + 1 - l.length = fu + 1 := ⟨ow.length - l.length, by omega⟩
    rw [hfu, playL] at hq
    refine SemW_go (by kernel_rfl) ?_
    simp only [PP, P1, P2, P3, P4, P5, P6, P7, P8, P9, P10, P11, P12, P13, P14, L1, P15, N1, N2, N3, N4, N5, N6, N7, I1, I2, I3, I4, I5, I6, I7, reduceIte, reduceCtorEq]
    refine SemC_bor (.ints rfl (List.length_map _) (.same rfl .nil)) (index_p T hlb ⟨rfl, ?_⟩)
    rcases idxI_spec v (natI l) 0 with ⟨h1, h2⟩ | ⟨i, h1, h2, h3⟩
    · have hv0 : (0 : Int) ≤ v := by omega
      have hvs : (v : Int) < st.length := by omega
      obtain ⟨u, g1⟩ := some_of (xs := st) (k := v) (by omega)
      obtain ⟨u0, u1⟩ := hst v u g1
      obtain ⟨w, rfl⟩ : ∃ w : Nat, u = w := ⟨u.toNat, by omega⟩
      have e1 : st.getD v 0 = w := by simp [List.getD, g1]
      have b1 : (l.length + 1) * 8 ≤ 140737488355328 := by omega
      have b2 : l.length + 1 ≤ 9223372036854775807 := by omega
      simp only [PP, P1, P2, P3, P4, P5, P6, P7, P8, P9, P10, P11, P12, P13, P14, L1, P15, N1, N2, N3, N4, N5, N6, N7, I1, I2, I3, I4, I5, I6, I7, reduceIte, reduceCtorEq, h2, e1] at hq ⊢
      have b2 : l.length ≤ 9223372036854775806 := by omega
      have hni : v ∉ l := fun h => h1 (mem_natI.2 h)
      have hps : psub ((natI l).map (PV.int .i64)) 0 l.length ++ [.int .i64 (v : Int)] = (natI (l ++ [v])).map (PV.int .i64) := by
        rw [psub_all _ _ (by simp)]; simp
      have hq2 : natI l ++ [(v : Int)] = natI (l ++ [v]) := by simp
      simp only [PP, P1, P2, P3, P4, P5, P6, P7, P8, P9, P10, P11, P12, P13, P14, L1, P15, N1, N2, N3, N4, N5, N6, N7, I1, I2, I3, I4, I5, I6, I7, reduceIte, reduceCtorEq, g1, hv0, hvs, b1, b2]
      refine SemW_to (ih w (g + 1) (l ++ [v]) ⟨by omega, ?_, ?_, ?_⟩ (by rw [List.length_append, List.length_singleton]; omega)) (by simp only [PWeak_nil, PWeak_junk, PWeak_same, Int.cast_ofNat_Int, List.length_append, List.length_cons, List.length_nil, Nat.zero_add]) (by rw [hps])
      · rw [List.nodup_append]
        exact ⟨hnd, by simp, fun a ha b hb e => by rw [List.mem_singleton] at hb; subst hb; subst e; exact hni ha⟩
      · intro x hx
        rcases List.mem_append.1 hx with h | h
        · exact hlt x h
        · rw [List.mem_singleton] at h; subst h; exact hv
      · rw [hq2] at hq
        rw [show ow.length + 1 - (l ++ [v]).length = fu by rw [List.length_append, List.length_singleton]; omega]
        exact hq
    · have i0 : (0 : Int) ≤ ((0 + i : Nat) : Int) := by omega
      have il : i < l.length := by have := getSome_lt h1; rwa [List.length_map] at this
      rw [h3] at hq ⊢
      rw [if_pos i0] at hq
      simp only [PP, P1, P2, P3, P4, P5, P6, P7, P8, P9, P10, P11, P12, P13, P14, L1, P15, N1, N2, N3, N4, N5, N6, N7, I1, I2, I3, I4, I5, I6, I7, reduceIte, reduceCtorEq] at hq i0 ⊢
      have il2 : (i : Int) ≤ l.length := by omega
      have e0 : ((i : Int) - 0).toNat = i := by omega
      have e1 : ((l.length : Int) - i).toNat = l.length - i := by omega
      have ll : (natI l).length = l.length := List.length_map _
      simp only [PP, P1, P2, P3, P4, P5, P6, P7, P8, P9, P10, P11, P12, P13, P14, L1, P15, N1, N2, N3, N4, N5, N6, N7, I1, I2, I3, I4, I5, I6, I7, reduceIte, reduceCtorEq, i0, il2, e0]
      refine clone_r T (xs := natI l) (g := g) (ver := 0) rfl (by omega) hlb (by simp only [PP, P1, P2, P3, P4, P5, P6, P7, P8, P9, P10, P11, P12, P13, P14, L1, P15, N1, N2, N3, N4, N5, N6, N7, I1, I2, I3, I4, I5, I6, I7, reduceIte, reduceCtorEq, cutOk, underL_ints]) ?_
      simp only [PP, P1, P2, P3, P4, P5, P6, P7, P8, P9, P10, P11, P12, P13, P14, L1, P15, N1, N2, N3, N4, N5, N6, N7, I1, I2, I3, I4, I5, I6, I7, reduceIte, reduceCtorEq, i0, il2, e1, Int.le_refl]
      refine clone_r T (xs := natI l) (g := g) (ver := 0) rfl (by omega) hlb (by simp only [PP, P1, P2, P3, P4, P5, P6, P7, P8, P9, P10, P11, P12, P13, P14, L1, P15, N1, N2, N3, N4, N5, N6, N7, I1, I2, I3, I4, I5, I6, I7, reduceIte, reduceCtorEq, cutOk, underL_ints]) ?_
      rw [List.take_of_length_le (show ((natI l).drop i).length ≤ l.length - i by simp)]
      simp only [PP, P1, P2, P3, P4, P5, P6, P7, P8, P9, P10, P11, P12, P13, P14, L1, P15, N1, N2, N3, N4, N5, N6, N7, I1, I2, I3, I4, I5, I6, I7, reduceIte, reduceCtorEq]
      exact ⟨_, PvWk.refl _, hq⟩

theorem winner_p {M : Mem} {K : PV → Mem → Prop} {f1 o1 f2 o2 f3 o3 f4 o4 f5 o5 : Bool} {ow pr lp : List Int} {su : List (List Int)} (B : Bnd ow pr su) (hb : lp.length < big) (hq : K (winM ow pr su lp) M) :
    SemC tab 26 [gmP f1 o1 f2 o2 f3 o3 f4 o4 ow pr su, slI f5 o5 .i64 lp] M K := by
  refine SemC_pure T.h26 (by simp only [PP, P1, P2, P3, P4, P5, P6, P7, P8, P9, P10, P11, P12, P13, P14, L1, P15, N1, N2, N3, N4, N5, N6, N7, I1, I2, I3, I4, I5, I6, I7, reduceIte, reduceCtorEq]) ?_
  simp only [af26, PP, P1, P2, P3, P4, P5, P6, P7, P8, P9, P10, P11, P12, P13, P14, L1, P15, N1, N2, N3, N4, N5, N6, N7, I1, I2, I3, I4, I5, I6, I7, reduceIte, reduceCtorEq, winM] at hq ⊢
  refine check_p T B ?_
  simp only [PP, P1, P2, P3, P4, P5, P6, P7, P8, P9, P10, P11, P12, P13, P14, L1, P15, N1, N2, N3, N4, N5, N6, N7, I1, I2, I3, I4, I5, I6, I7, reduceIte, reduceCtorEq]
  refine QIf.intro (fun c1 => ?_) (fun c1 => ?_)
  rotate_left
  · simp only [PP, P1, P2, P3, P4, P5, P6, P7, P8, P9, P10, P11, P12, P13, P14, L1, P15, N1, N2, N3, N4, N5, N6, N7, I1, I2, I3, I4, I5, I6, I7, reduceIte, reduceCtorEq, c1] at hq ⊢
    exact hq
  simp only [PP, P1, P2, P3, P4, P5, P6, P7, P8, P9, P10, P11, P12, P13, P14, L1, P15, N1, N2, N3, N4, N5, N6, N7, I1, I2, I3, I4, I5, I6, I7, reduceIte, reduceCtorEq, c1] at hq ⊢
  have V := valid_of c1
  have hp := V.p
  have n1 := V.n1
  refine QIf.intro (fun c2 => ?_) (fun c2 => ?_)
  · simp only [PP, P1, P2, P3, P4, P5, P6, P7, P8, P9, P10, P11, P12, P13, P14, L1, P15, N1, N2, N3, N4, N5, N6, N7, I1, I2, I3, I4, I5, I6, I7, reduceIte, reduceCtorEq, c2] at hq ⊢
    exact hq
  simp only [PP, P1, P2, P3, P4, P5, P6, P7, P8, P9, P10, P11, P12, P13, P14, L1, P15, N1, N2, N3, N4, N5, N6, N7, I1, I2, I3, I4, I5, I6, I7, reduceIte, reduceCtorEq, c2] at hq ⊢
  refine loop2 (fun (k : Nat) (m : Int) => k ≤ lp.length ∧ K (winL ow.length pr m (lp.drop k)) M) (fun k m => [.junk, .junk, .ptr 0 0 0, .junk, .junk, .junk, .junk, p64 m, .junk, .junk, .junk, .junk, .junk, .junk, .junk, .junk, .junk, .junk, slI f5 o5 .i64 lp, p64 lp.length, p64 k, .junk, .junk, .junk, .junk, .junk, .junk, .junk, .junk, .junk, .junk, .junk, .junk, .junk, .junk, .junk, .junk, .junk, .junk, .junk, .junk, .junk, .junk, .junk]) (fun _ _ => [.cells 0 0 [slI f1 o1 .u8 ow, slI f2 o2 .i64 pr, slR f3 o3 f4 o4 .i64 su]]) (fun k _ => lp.length - k) 0 0 ⟨by omega, hq⟩ (by simp only [PWeak_nil, PWeak_junk, PWeak_same, Int.cast_ofNat_Int, List.length_append, List.length_cons, List.length_nil, Nat.zero_add]) rfl ?_
  intro k m ⟨hle, hq⟩ ih
  refine SemW_go (by kernel_rfl) ?_
  simp only [PP, P1, P2, P3, P4, P5, P6, P7, P8, P9, P10, P11, P12, P13, P14, L1, P15, N1, N2, N3, N4, N5, N6, N7, I1, I2, I3, I4, I5, I6, I7, reduceIte, reduceCtorEq]
  refine QIf.intro (fun d => ?_) (fun d => ?_)
  · have hk : k < lp.length := by omega
    have hkb : lp.length < 1000000000000 := hb
    have hw := wrap_succ (k := k) (by show _ < 1000000000000; omega)
    have k0 : (0 : Int) ≤ k := by omega
    obtain ⟨v, g1⟩ := some_of hk
    rw [drop_some g1, winL] at hq
    simp only [PP, P1, P2, P3, P4, P5, P6, P7, P8, P9, P10, P11, P12, P13, P14, L1, P15, N1, N2, N3, N4, N5, N6, N7, I1, I2, I3, I4, I5, I6, I7, reduceIte, reduceCtorEq, d, g1, k0]
    refine QIf.intro (fun h1 => ?_) (fun h1 => ?_)
    · simp only [PP, P1, P2, P3, P4, P5, P6, P7, P8, P9, P10, P11, P12, P13, P14, L1, P15, N1, N2, N3, N4, N5, N6, N7, I1, I2, I3, I4, I5, I6, I7, reduceIte, reduceCtorEq, h1] at hq ⊢
      exact hq
    simp only [PP, P1, P2, P3, P4, P5, P6, P7, P8, P9, P10, P11, P12, P13, P14, L1, P15, N1, N2, N3, N4, N5, N6, N7, I1, I2, I3, I4, I5, I6, I7, reduceIte, reduceCtorEq, h1, k0] at hq ⊢
    refine QIf.intro (fun h2 => ?_) (fun h2 => ?_)
    · simp only [PP, P1, P2, P3, P4, P5, P6, P7, P8, P9, P10, P11, P12, P13, P14, L1, P15, N1, N2, N3, N4, N5, N6, N7, I1, I2, I3, I4, I5, I6, I7, reduceIte, reduceCtorEq, h2] at hq ⊢
      exact hq
    simp only [PP, P1, P2, P3, P4, P5, P6, P7, P8, P9, P10, P11, P12, P13, P14, L1, P15, N1, N2, N3, N4, N5, N6, N7, I1, I2, I3, I4, I5, I6, I7, reduceIte, reduceCtorEq, h2, k0] at hq ⊢
    have v0 : 0 ≤ v := by omega
    have vp : v < pr.length := by omega
    obtain ⟨p, g2⟩ := some_of (xs := pr) (k := v.toNat) (by omega)
    have e2 : pr.getD v.toNat 0 = p := by simp [List.getD, g2]
    rw [e2] at hq
    simp only [PP, P1, P2, P3, P4, P5, P6, P7, P8, P9, P10, P11, P12, P13, P14, L1, P15, N1, N2, N3, N4, N5, N6, N7, I1, I2, I3, I4, I5, I6, I7, reduceIte, reduceCtorEq, g2, v0, vp, hw]
    exact SemW_weak (ih (k + 1) (max m p) ⟨by omega, hq⟩ (by omega)) (by simp only [PWeak_nil, PWeak_junk, PWeak_same, Int.cast_ofNat_Int, List.length_append, List.length_cons, List.length_nil, Nat.zero_add])
  · rw [List.drop_eq_nil_of_le (by omega), winL] at hq
    have h2 : (2 : Int) ≠ 0 := by omega
    simp only [PP, P1, P2, P3, P4, P5, P6, P7, P8, P9, P10, P11, P12, P13, P14, L1, P15, N1, N2, N3, N4, N5, N6, N7, I1, I2, I3, I4, I5, I6, I7, reduceIte, reduceCtorEq, d, prem h2]
    exact hq
end
end Go.Am.Ar

set_option linter.unusedVariables false
namespace Go.Am.Ar
def itr (f : Nat → Nat) (v : Nat) : Nat → Nat
  | 0 => v
  | j + 1 => f (itr f v j)
theorem itr_lt {f : Nat → Nat} {n v : Nat} (hf : ∀ v, v < n → f v < n) (hv : v < n) : ∀ j, itr f v j < n
  | 0 => hv
  | j + 1 => hf _ (itr_lt hf hv j)
def its (f : Nat → Nat) (v m : Nat) : List Nat := (List.range m).map (itr f v)
theorem its_len (f : Nat → Nat) (v m : Nat) : (its f v m).length = m := by simp [its]
theorem its_get {f : Nat → Nat} {v m j : Nat} (h : j < m) : (its f v m)[j]? = some (itr f v j) := by simp [its, h]
theorem its_succ (f : Nat → Nat) (v m : Nat) : its f v (m + 1) = its f v m ++ [itr f v m] := by simp [its, List.range_succ]
theorem its_mem {f : Nat → Nat} {v m x : Nat} : x ∈ its f v m ↔ ∃ j, j < m ∧ itr f v j = x := by simp [its]
theorem its_lt {f : Nat → Nat} {n v m : Nat} (hf : ∀ v, v < n → f v < n) (hv : v < n) : ∀ x ∈ its f v m, x < n := by
  intro x hx
  obtain ⟨j, _, rfl⟩ := its_mem.1 hx
  exact itr_lt hf hv j

/-- A play: a prefix and a loop of iterates, which are different. -/
structure IsPlay (f : Nat → Nat) (v n : Nat) (p l : List Int) (m k : Nat) : Prop where
  km : k < m
  mn : m ≤ n
  nd : (its f v m).Nodup
  back : itr f v m = itr f v k
  p : p = natI ((its f v m).take k)
  l : l = natI ((its f v m).drop k)

theorem natI_inj {l : List Nat} {i : Nat} {v : Nat} (h : (natI l)[i]? = some (v : Int)) : l[i]? = some v := by
  rw [List.getElem?_map] at h
  cases h1 : l[i]? with
  | none => rw [h1] at h; cases h
  | some a =>
    rw [h1] at h
    have : (a : Int) = v := by simpa using h
    rw [show a = v by omega]

theorem playL_spec {st : List Int} {f : Nat → Nat} {n v : Nat} (hst : ∀ v, v < n → st[v]? = some ((f v : Nat) : Int)) (hf : ∀ v, v < n → f v < n) (hv : v < n) :
    ∀ (fuel m : Nat), m + fuel = n + 1 → (its f v m).Nodup → ∃ m' k, m ≤ m' ∧ IsPlay f v n (playL st fuel (itr f v m : Nat) (natI (its f v m))).1 (playL st fuel (itr f v m : Nat) (natI (its f v m))).2 m' k
  | 0, m, hm, hnd => by
    have := nodup_lenN n _ hnd (its_lt hf hv)
    rw [its_len] at this
    omega
  | fuel + 1, m, hm, hnd => by
    have hlen := nodup_lenN n _ hnd (its_lt hf hv)
    rw [its_len] at hlen
    unfold playL
    rcases idxI_spec (itr f v m : Nat) (natI (its f v m)) 0 with ⟨h1, h2⟩ | ⟨i, h1, h2, h3⟩
    · rw [h2, if_neg (by omega)]
      have hn : itr f v m ∉ its f v m := fun h => h1 (mem_natI.2 h)
      have e1 : st.getD (itr f v m : Int).toNat 0 = ((itr f v (m + 1) : Nat) : Int) := by
        rw [Int.toNat_natCast, List.getD, hst _ (itr_lt hf hv m)]; rfl
      have e2 : natI (its f v m) ++ [((itr f v m : Nat) : Int)] = natI (its f v (m + 1)) := by rw [its_succ]; simp
      rw [e1, e2]
      have hnd' : (its f v (m + 1)).Nodup := by
        rw [its_succ, List.nodup_append]
        exact ⟨hnd, by simp, fun a ha b hb e => by rw [List.mem_singleton] at hb; subst hb; subst e; exact hn ha⟩
      obtain ⟨m', k, h4, h5⟩ := playL_spec hst hf hv fuel (m + 1) (by omega) hnd'
      exact ⟨m', k, by omega, h5⟩
    · rw [h3, if_pos (by omega)]
      have h1' := natI_inj h1
      have hi := getSome_lt h1'
      rw [its_len] at hi
      rw [its_get hi] at h1'
      refine ⟨m, i, Nat.le_refl _, hi, hlen, hnd, ?_, ?_, ?_⟩
      · simp only [Option.some.injEq] at h1'; exact h1'.symm
      · simp [natI, List.map_take]
      · simp [natI, List.map_drop]
theorem play_spec {st : List Int} {f : Nat → Nat} {n v : Nat} (hst : ∀ v, v < n → st[v]? = some ((f v : Nat) : Int)) (hf : ∀ v, v < n → f v < n) (hv : v < n) :
    ∃ m k, IsPlay f v n (playL st (n + 1) v []).1 (playL st (n + 1) v []).2 m k := by
  obtain ⟨m, k, _, h⟩ := playL_spec hst hf hv (n + 1) 0 (by omega) (by simp [its])
  exact ⟨m, k, h⟩

/-- Falling ranks end at zero within the play. -/
theorem fall {f : Nat → Nat} {n v : Nat} {R : Nat → Int} (hf : ∀ v, v < n → f v < n) (hv : v < n) (hR : ∀ v, v < n → 0 < R v → 0 ≤ R (f v) ∧ R (f v) < R v) (h0 : 0 ≤ R v) :
    ∃ i : Nat, (i : Int) ≤ R v ∧ R (itr f v i) = 0 ∧ ∀ a b : Nat, a < b → b ≤ i → R (itr f v b) < R (itr f v a) := by
  have key : ∀ (d : Nat) (v : Nat), v < n → R v = d → ∃ i : Nat, (i : Int) ≤ R v ∧ R (itr f v i) = 0 ∧ (∀ a : Nat, a < i → R (itr f v (a + 1)) < R (itr f v a)) := by
    intro d
    induction d using Nat.strongRecOn with
    | ind d ih =>
      intro v hv hd
      rcases Nat.eq_zero_or_pos d with e | e
      · exact ⟨0, by omega, by show R v = 0; omega, fun a h => by omega⟩
      · obtain ⟨h1, h2⟩ := hR v hv (by omega)
        obtain ⟨i, h3, h4, h5⟩ := ih (R (f v)).toNat (by omega) (f v) (hf v hv) (by omega)
        have sh : ∀ j, itr f (f v) j = itr f v (j + 1) := by
          intro j
          induction j with
          | zero => rfl
          | succ j ih => show f _ = f _; rw [ih]
        refine ⟨i + 1, by omega, by rw [← sh]; exact h4, fun a ha => ?_⟩
        cases a with
        | zero => exact h2
        | succ a =>
          have := h5 a (by omega)
          rw [sh, sh] at this
          exact this
  obtain ⟨i, h1, h2, h3⟩ := key (R v).toNat v hv (by omega)
  refine ⟨i, h1, h2, fun a b hab hb => ?_⟩
  obtain ⟨d, rfl⟩ : ∃ d, b = a + 1 + d := ⟨b - a - 1, by omega⟩
  clear hab
  induction d with
  | zero => exact h3 a (by omega)
  | succ d ih =>
    have := ih (by omega)
    have := h3 (a + 1 + d) (by omega)
    rw [show a + 1 + (d + 1) = a + 1 + d + 1 by omega]
    omega
theorem IsPlay.fall {f : Nat → Nat} {n v m k : Nat} {R : Nat → Int} {p l : List Int} (h : IsPlay f v n p l m k) (hf : ∀ v, v < n → f v < n) (hv : v < n) (hR : ∀ v, v < n → 0 < R v → 0 ≤ R (f v) ∧ R (f v) < R v) (h0 : 0 ≤ R v) :
    ∃ (i : Nat) (x : Nat), (i : Int) ≤ R v ∧ (p ++ l)[i]? = some (x : Int) ∧ x < n ∧ R x = 0 := by
  obtain ⟨i, h1, h2, h3⟩ := Ar.fall hf hv hR h0
  have him : i < m := by
    rcases Nat.lt_or_ge i m with q | q
    · exact q
    · have := h3 k m h.km q
      rw [h.back] at this
      omega
  refine ⟨i, itr f v i, h1, ?_, itr_lt hf hv i, h2⟩
  rw [h.p, h.l, ← List.map_append, List.take_append_drop, List.getElem?_map, its_get him]
  rfl
theorem IsPlay.len {f : Nat → Nat} {n v m k : Nat} {p l : List Int} (h : IsPlay f v n p l m k) : p.length = k ∧ l.length = m - k := by
  rw [h.p, h.l]
  simp [its_len]
  have := h.km
  omega
theorem IsPlay.mem {f : Nat → Nat} {n v m k : Nat} {p l : List Int} (h : IsPlay f v n p l m k) (hf : ∀ v, v < n → f v < n) (hv : v < n) : ∀ x ∈ l, 0 ≤ x ∧ x < n := by
  intro x hx
  rw [h.l] at hx
  obtain ⟨y, hy, rfl⟩ := List.mem_map.1 hx
  have := its_lt hf hv y (List.mem_of_mem_drop hy)
  omega
end Go.Am.Ar

set_option linter.unusedVariables false
namespace Go.Am.Ar
theorem checkLoop_of {ow pr : List Int} {n : Nat} (hn : ow.length = n) : ∀ {su : List (List Int)} {k : Nat}, (∀ (i : Nat) (row : List Int), su[i]? = some row → 0 ≤ pr.getD (k + i) 0 ∧ pr.getD (k + i) 0 ≤ 16 ∧ ow.getD (k + i) 0 ≤ 1 ∧ 0 < row.length ∧ posM ow.length (-1) row = true) → checkLoop ow pr k su = 0
  | [], k, _ => rfl
  | row :: su, k, h => by
    obtain ⟨h1, h2, h3, h4, h5⟩ := h 0 row rfl
    unfold checkLoop
    rw [Nat.add_zero] at h1 h2 h3
    rw [if_neg (by omega), if_neg (by omega), if_neg (by omega), if_neg (by omega), if_neg (by simp [h5])]
    exact checkLoop_of hn fun i row hr => by rw [show k + 1 + i = k + (i + 1) by omega]; exact h (i + 1) row (by simpa using hr)
theorem check_of {ow pr : List Int} {su : List (List Int)} (V : Valid ow pr su) : checkM ow pr su = 0 := by
  have h1 := V.n0
  have h2 := V.n1
  have h3 := V.p
  have h4 := V.s
  unfold checkM
  rw [if_neg (by omega), if_neg (by omega), if_pos (by omega), if_pos (by omega)]
  refine checkLoop_of rfl fun i row hr => ?_
  have hi := getSome_lt hr
  have := V.row i hi
  rw [List.getElem?_eq_getElem hi] at hr
  cases hr
  rw [Nat.zero_add]
  exact this

structure Dual1 (ow pr : List Int) (su : List (List Int)) (ow' pr' : List Int) : Prop where
  v : Valid ow pr su
  v' : Valid ow' pr' su
  n : ow'.length = ow.length
  p : pr'.length = pr.length
  o : ∀ v, v < ow.length → 0 ≤ ow.getD v 0 ∧ ow.getD v 0 ≤ 1 ∧ ow'.getD v 0 = 1 - ow.getD v 0
  r : ∀ v, v < ow.length → 0 ≤ pr.getD v 0 ∧ pr'.getD v 0 = pr.getD v 0 + 1
theorem maxFrom_ge : ∀ {l : List Int} {m : Int}, m ≤ maxFrom m l ∧ ∀ x ∈ l, x ≤ maxFrom m l
  | [], m => ⟨Int.le_refl _, fun x h => by cases h⟩
  | y :: l, m => by
    obtain ⟨h1, h2⟩ := maxFrom_ge (l := l) (m := max m y)
    unfold maxFrom
    refine ⟨by omega, fun x hx => ?_⟩
    rcases List.mem_cons.1 hx with rfl | hx
    · omega
    · exact h2 x hx
theorem maxFrom_mem : ∀ {l : List Int} {m : Int}, maxFrom m l = m ∨ maxFrom m l ∈ l
  | [], m => .inl rfl
  | y :: l, m => by
    unfold maxFrom
    rcases maxFrom_mem (l := l) (m := max m y) with h | h
    · rcases Int.le_total m y with q | q
      · exact .inr (by rw [h, Int.max_eq_right q]; simp)
      · exact .inl (by rw [h, Int.max_eq_left q])
    · exact .inr (List.mem_cons_of_mem _ h)
theorem maxL_ge {l : List Int} : ∀ x ∈ l, x ≤ maxL l := by
  cases l with
  | nil => intro x h; cases h
  | cons y l =>
    intro x hx
    rcases List.mem_cons.1 hx with rfl | hx
    · exact maxFrom_ge.1
    · exact maxFrom_ge.2 x hx
theorem maxL_mem {l : List Int} (h : l ≠ []) : maxL l ∈ l := by
  cases l with
  | nil => exact absurd rfl h
  | cons y l =>
    show maxFrom y l ∈ _
    rcases maxFrom_mem (l := l) (m := y) with h | h
    · rw [h]; simp
    · exact List.mem_cons_of_mem _ h
theorem dual_of {ow pr : List Int} {su : List (List Int)} (V : Valid ow pr su) (ho : ∀ x ∈ ow, 0 ≤ x) (h16 : ¬ maxL pr = 16) : Dual1 ow pr su (dualO ow) (dualP pr) := by
  have hn : (dualO ow).length = ow.length := by simp [dualO]
  have hp : (dualP pr).length = pr.length := by simp [dualP]
  have hO : ∀ v, v < ow.length → 0 ≤ ow.getD v 0 ∧ ow.getD v 0 ≤ 1 ∧ (dualO ow).getD v 0 = 1 - ow.getD v 0 := by
    intro v hv
    have h1 := (V.row v (by rw [V.s]; exact hv)).2.2.1
    have h2 : 0 ≤ ow.getD v 0 := by
      rw [List.getD, List.getElem?_eq_getElem hv]; exact ho _ (List.getElem_mem hv)
    refine ⟨h2, h1, ?_⟩
    rw [List.getD, List.getD, dualO, List.getElem?_map, List.getElem?_eq_getElem hv]
    rw [List.getD, List.getElem?_eq_getElem hv] at h1 h2
    simp only [Option.map_some, Option.getD_some] at h1 h2 ⊢
    simp only [IntKind.wrap, IntKind.signed, IntKind.bits]
    simp
    omega
  have hR : ∀ v, v < ow.length → 0 ≤ pr.getD v 0 ∧ pr.getD v 0 < 16 ∧ (dualP pr).getD v 0 = pr.getD v 0 + 1 := by
    intro v hv
    have h1 := V.row v (by rw [V.s]; exact hv)
    have hvp : v < pr.length := by rw [V.p]; exact hv
    have h3 : pr.getD v 0 ≤ maxL pr := by
      rw [List.getD, List.getElem?_eq_getElem hvp]; exact maxL_ge _ (List.getElem_mem hvp)
    have h4 : maxL pr ≤ 16 := by
      have hm := maxL_mem (l := pr) (by intro e; rw [e] at hvp; simp at hvp)
      obtain ⟨i, hi⟩ := List.getElem?_of_mem hm
      have hil := getSome_lt hi
      have := (V.row i (by rw [V.s, ← V.p]; exact hil)).2.1
      rw [getD_some hi] at this
      exact this
    refine ⟨h1.1, by omega, ?_⟩
    rw [List.getD, List.getD, dualP, List.getElem?_map, List.getElem?_eq_getElem hvp]
    rw [List.getD, List.getElem?_eq_getElem hvp] at h3 h1
    simp only [Option.map_some, Option.getD_some] at h1 h3 ⊢
    exact wrap64 (by omega) (by omega)
  refine ⟨V, ⟨by rw [hn]; exact V.n0, by rw [hn]; exact V.n1, by rw [hp, hn]; exact V.p, by rw [hn]; exact V.s, fun i hi => ?_⟩, hn, hp, hO, fun v hv => ⟨(hR v hv).1, (hR v hv).2.2⟩⟩
  have hv : i < ow.length := by rw [← V.s]; exact hi
  obtain ⟨h1, h2, h3, h4, h5⟩ := V.row i hi
  have h6 := hO i hv
  have h7 := hR i hv
  exact ⟨by omega, by omega, by omega, h4, by rw [hn]; exact h5⟩

section
variable {ow pr ow' pr' : List Int} {su : List (List Int)} (D : Dual1 ow pr su ow' pr')
include D
theorem Dual1.play (st : List Int) (fr : Int) : playM ow' pr' su st fr = playM ow pr su st fr := by
  have e : playE ow' pr' su st fr = playE ow pr su st fr := by
    unfold playE
    rw [check_of D.v, check_of D.v', D.n]
  unfold playM
  rw [e, D.n]
theorem Dual1.wrong {side : Int} (h0 : 0 ≤ side) (h1 : side ≤ 1) (keep : List Int) : wrongM ow' pr' su (1 - side) keep = wrongM ow pr su side keep := by
  unfold wrongM
  rw [check_of D.v, check_of D.v', if_pos rfl, if_pos rfl, if_neg (show ¬ (1 : Int) < 1 - side by omega), if_neg (show ¬ (1 : Int) < side by omega), D.n]
theorem Dual1.pf {side : Int} {v : Nat} (hv : v < ow.length) : Pf ow' (1 - side) v = Pf ow side v := by
  obtain ⟨_, _, h⟩ := D.o v hv
  unfold Pf
  rw [h]
  by_cases e : ow.getD v 0 = side
  · simp [e]
  · have : ¬ (1 - ow.getD v 0 = 1 - side) := by omega
    simp only [this, e]
end
theorem rk_congr {P P' : Nat → Bool} {S : Nat → List Nat} {Z : Nat → Bool} {n : Nat} (hP : ∀ v, v < n → P v = P' v) (hS : ∀ v, v < n → ∀ u ∈ S v, u < n) : ∀ k v, v < n → rk P S Z k v = rk P' S Z k v
  | 0, v, _ => rfl
  | k + 1, v, hv => by
    have h1 := rk_congr (Z := Z) hP hS k v hv
    have h2 : (S v).map (rk P S Z k) = (S v).map (rk P' S Z k) := List.map_congr_left fun u hu => rk_congr hP hS k u (hS v hv u hu)
    show rkRow _ _ _ _ _ = rkRow _ _ _ _ _
    unfold rkRow
    rw [h1, h2, hP v hv]
theorem tabL_congr {n : Nat} {R R' : Nat → Int} (h : ∀ v, v < n → R v = R' v) : tabL n R = tabL n R' := List.map_congr_left fun v hv => h v (List.mem_range.1 hv)
theorem firstS_congr {R R' : Nat → Int} {k : Int} : ∀ {l : List Int}, (∀ u ∈ l, R u.toNat = R' u.toNat) → firstS R k l = firstS R' k l
  | [], _ => rfl
  | u :: l, h => by
    unfold firstS
    rw [h u (by simp), firstS_congr fun x hx => h x (by simp [hx])]
section
variable {ow pr ow' pr' : List Int} {su : List (List Int)} (D : Dual1 ow pr su ow' pr')
include D
theorem Dual1.rk {side : Int} {keep : List Int} {v : Nat} (hv : v < ow.length) : rkOf ow' su (1 - side) keep v = rkOf ow su side keep v := by
  unfold rkOf
  rw [D.n]
  exact rk_congr (fun v hv => D.pf hv) (fun v hv => (Sf_ok D.v hv).2.1) _ v hv
theorem Dual1.strat {side : Int} {keep : List Int} {v : Nat} (hv : v < ow.length) : stratOf ow' su (1 - side) (rkOf ow' su (1 - side) keep) v = stratOf ow su side (rkOf ow su side keep) v := by
  unfold stratOf
  have h1 := D.rk (side := side) (keep := keep) hv
  have h2 := D.pf (side := side) hv
  have h3 : (ow'.getD v 0 = 1 - side) ↔ (ow.getD v 0 = side) := by
    unfold Pf at h2
    exact decide_eq_decide.1 h2
  simp only [h1, h3]
  rw [firstS_congr (R := rkOf ow' su (1 - side) keep) (R' := rkOf ow su side keep) fun u hu => D.rk (by have := su_range D.v hv hu; omega)]
theorem Dual1.attr {side : Int} (h0 : 0 ≤ side) (h1 : side ≤ 1) (keep : List Int) : attrM ow' pr' su (1 - side) keep = attrM ow pr su side keep := by
  unfold attrM
  rw [D.wrong h0 h1 keep, D.n, tabL_congr fun v hv => D.rk (side := side) (keep := keep) hv, tabL_congr fun v hv => D.strat (side := side) (keep := keep) hv]
theorem Dual1.trapAt {side : Int} {keep : List Int} {v : Int} (hv : v.toNat < ow.length) : trapAt ow' su (1 - side) keep v ↔ trapAt ow su side keep v := by
  have h2 := D.pf (side := side) hv
  have h3 : (ow'.getD v.toNat 0 = 1 - side) ↔ (ow.getD v.toNat 0 = side) := by
    unfold Pf at h2
    exact decide_eq_decide.1 h2
  unfold Ar.trapAt
  rw [h3]
theorem Dual1.trap {side : Int} (h0 : 0 ≤ side) (h1 : side ≤ 1) (keep : List Int) : trapM ow' pr' su (1 - side) keep = trapM ow pr su side keep := by
  unfold trapM
  rw [D.wrong h0 h1 keep]
  by_cases c : wrongM ow pr su side keep = 0
  · rw [if_pos c, if_pos c]
    obtain ⟨_, _, hp⟩ := wrong_zero c
    have hk := (posM_rise hp).2
    have : trapL ow' su (1 - side) keep keep = trapL ow su side keep keep := by
      rw [Bool.eq_iff_iff, trapL_iff, trapL_iff]
      exact ⟨fun h v hv => (D.trapAt (by have := hk v hv; omega)).1 (h v hv), fun h v hv => (D.trapAt (by have := hk v hv; omega)).2 (h v hv)⟩
    rw [this]
  · rw [if_neg c, if_neg c]
end
/-- The greatest priority of a list of positions. -/
def mxP (pr : List Int) : Int → List Int → Int
  | m, [] => m
  | m, v :: l => mxP pr (max m (pr.getD v.toNat 0)) l
theorem winL_of {n : Int} {pr : List Int} : ∀ {l : List Int} {m : Int}, (∀ v ∈ l, 0 ≤ v ∧ v < n) → winL n pr m l = .tuple [p8 (IntKind.u8.wrap ((mxP pr m l).tmod 2)), p64 0]
  | [], m, _ => rfl
  | v :: l, m, h => by
    have := h v (by simp)
    unfold winL mxP
    rw [if_neg (by omega), if_neg (by omega)]
    exact winL_of fun x hx => h x (by simp [hx])
theorem mxP_ge {pr : List Int} : ∀ {l : List Int} {m : Int}, m ≤ mxP pr m l
  | [], m => Int.le_refl _
  | v :: l, m => by
    unfold mxP
    have := mxP_ge (pr := pr) (l := l) (m := max m (pr.getD v.toNat 0))
    omega
theorem mxP_dual {pr pr' : List Int} {n : Nat} (h : ∀ v, v < n → 0 ≤ pr.getD v 0 ∧ pr'.getD v 0 = pr.getD v 0 + 1) : ∀ {l : List Int} {m : Int}, (∀ v ∈ l, 0 ≤ v ∧ v < n) → mxP pr' (m + 1) l = mxP pr m l + 1
  | [], m, _ => rfl
  | v :: l, m, hl => by
    have h1 := hl v (by simp)
    have h2 := h v.toNat (by omega)
    unfold mxP
    rw [h2.2, show max (m + 1) (pr.getD v.toNat 0 + 1) = max m (pr.getD v.toNat 0) + 1 by omega]
    exact mxP_dual h fun x hx => hl x (by simp [hx])
theorem mxP_dual0 {pr pr' : List Int} {n : Nat} (h : ∀ v, v < n → 0 ≤ pr.getD v 0 ∧ pr'.getD v 0 = pr.getD v 0 + 1) {l : List Int} (hl : ∀ v ∈ l, 0 ≤ v ∧ v < n) (hne : l ≠ []) : mxP pr' 0 l = mxP pr 0 l + 1 := by
  cases l with
  | nil => exact absurd rfl hne
  | cons v l =>
    have h1 := hl v (by simp)
    have h2 := h v.toNat (by omega)
    unfold mxP
    rw [h2.2, show max (0 : Int) (pr.getD v.toNat 0 + 1) = max 0 (pr.getD v.toNat 0) + 1 by omega]
    exact mxP_dual h fun x hx => hl x (by simp [hx])
theorem par_u8 {m : Int} (h : 0 ≤ m) : IntKind.u8.wrap (m.tmod 2) = m % 2 := by
  rw [Int.tmod_eq_emod_of_nonneg h]
  simp only [IntKind.wrap, IntKind.signed, IntKind.bits]
  simp
  omega
theorem par_sum {m : Int} (h : 0 ≤ m) : IntKind.u8.wrap (m % 2 + (m + 1) % 2) = 1 := by
  have : m % 2 + (m + 1) % 2 = 1 := by omega
  rw [this]; rfl
theorem playE_ok {ow pr : List Int} {su : List (List Int)} {st : List Int} {fr : Int} (h : playE ow pr su st fr = 0) : Valid ow pr su ∧ st.length = ow.length ∧ movM su 0 st = true ∧ 0 ≤ fr ∧ fr < ow.length := by
  unfold playE at h
  split at h
  · rename_i h0
    split at h
    · simp at h
    · split at h
      · simp at h
      · split at h
        · split at h
          · rename_i h1 h2 h3 h4
            exact ⟨valid_of h0, by omega, h4, by omega, by omega⟩
          · simp at h
        · simp at h
  · rename_i h0; exact absurd h h0
theorem playE_play {ow pr : List Int} {su : List (List Int)} {st : List Int} {fr : Int} (h : playE ow pr su st fr = 0) :
    ∃ (f : Nat → Nat) (v m k : Nat), v < ow.length ∧ (∀ v, v < ow.length → f v < ow.length) ∧ IsPlay f v ow.length (playL st (ow.length + 1) fr []).1 (playL st (ow.length + 1) fr []).2 m k := by
  obtain ⟨V, hl, hm, h0, h1⟩ := playE_ok h
  have hst : ∀ v, v < ow.length → ∃ u, st[v]? = some u ∧ 0 ≤ u ∧ u < ow.length := fun v hv => by
    obtain ⟨u, hu⟩ := some_of (xs := st) (k := v) (by omega)
    have := movM_get hm v u hu
    rw [Nat.zero_add] at this
    exact ⟨u, hu, su_range V hv this⟩
  have hf : ∀ v, v < ow.length → (st.getD v 0).toNat < ow.length := fun v hv => by
    obtain ⟨u, h1, h2, h3⟩ := hst v hv
    rw [getD_some h1]; omega
  obtain ⟨w, rfl⟩ : ∃ w : Nat, fr = w := ⟨fr.toNat, by omega⟩
  obtain ⟨m, k, hp⟩ := play_spec (st := st) (f := fun v => (st.getD v 0).toNat) (n := ow.length) (v := w) (fun v hv => by
    obtain ⟨u, h1, h2, h3⟩ := hst v hv
    show st[v]? = some (((st.getD v 0).toNat : Nat) : Int)
    rw [getD_some h1, h1]; congr 1; omega) hf (by omega)
  exact ⟨_, w, m, k, by omega, hf, hp⟩
end Go.Am.Ar

set_option linter.unusedVariables false
set_option linter.unusedSimpArgs false
set_option maxRecDepth 10000
namespace Go.Am.Ar
open Go.Am renaming pchk → P1, pold → P2, PKNo → P3, ppack → P4, PObj.under → P5, pput → P6, ptset → P7, ptget → P8, pev → P9, ofAV → P10, ofAV1 → P11, ppad → P12, pfill → P13, prepl → P14, AO.effect → P15
open List renaming replicate → L1
open Nat renaming reduceAdd → N1, reduceSub → N2, reduceMul → N3, reduceLT → N4, reduceLeDiff → N5, reduceEqDiff → N6, reduceBEq → N7
open Int renaming reduceToNat → I1, reduceLT → I2, reduceLE → I3, reduceEq → I4, reduceAdd → I5, reduceSub → I6, reduceNeg → I7
section
variable {tab : FuncId → Option AF} (T : HasA tab)
include T
theorem dual_p {M : Mem} {K : PV → Mem → Prop} {f1 o1 f2 o2 f3 o3 f4 o4 : Bool} {ow pr : List Int} {su : List (List Int)} (B : Bnd ow pr su) (hq : K (dualM ow pr su) M) :
    SemC tab 25 [gmP f1 o1 f2 o2 f3 o3 f4 o4 ow pr su] M K := by
  refine SemC_pure T.h25 (by simp only [PP, P1, P2, P3, P4, P5, P6, P7, P8, P9, P10, P11, P12, P13, P14, L1, P15, N1, N2, N3, N4, N5, N6, N7, I1, I2, I3, I4, I5, I6, I7, reduceIte, reduceCtorEq]) ?_
  simp only [af25, PP, P1, P2, P3, P4, P5, P6, P7, P8, P9, P10, P11, P12, P13, P14, L1, P15, N1, N2, N3, N4, N5, N6, N7, I1, I2, I3, I4, I5, I6, I7, reduceIte, reduceCtorEq, dualM] at hq ⊢
  refine check_p T B ?_
  simp only [PP, P1, P2, P3, P4, P5, P6, P7, P8, P9, P10, P11, P12, P13, P14, L1, P15, N1, N2, N3, N4, N5, N6, N7, I1, I2, I3, I4, I5, I6, I7, reduceIte, reduceCtorEq]
  refine QIf.intro (fun c1 => ?_) (fun c1 => ?_)
  rotate_left
  · simp only [PP, P1, P2, P3, P4, P5, P6, P7, P8, P9, P10, P11, P12, P13, P14, L1, P15, N1, N2, N3, N4, N5, N6, N7, I1, I2, I3, I4, I5, I6, I7, reduceIte, reduceCtorEq, c1] at hq ⊢
    exact hq
  simp only [PP, P1, P2, P3, P4, P5, P6, P7, P8, P9, P10, P11, P12, P13, P14, L1, P15, N1, N2, N3, N4, N5, N6, N7, I1, I2, I3, I4, I5, I6, I7, reduceIte, reduceCtorEq, c1] at hq ⊢
  have V := valid_of c1
  cases hpr : pr with
  | nil => exact absurd V.p (by have := V.n0; simp only [hpr, List.length_nil]; omega)
  | cons x xs =>
  have hpb : (x :: xs).length < big := by rw [← hpr]; exact B.p
  refine max_p T hpb ?_
  rw [← hpr]
  have hmx : maxFrom x xs = maxL pr := by rw [hpr]; rfl
  simp only [PP, P1, P2, P3, P4, P5, P6, P7, P8, P9, P10, P11, P12, P13, P14, L1, P15, N1, N2, N3, N4, N5, N6, N7, I1, I2, I3, I4, I5, I6, I7, reduceIte, reduceCtorEq, hmx]
  refine QIf.intro (fun c2 => ?_) (fun c2 => ?_)
  · simp only [PP, P1, P2, P3, P4, P5, P6, P7, P8, P9, P10, P11, P12, P13, P14, L1, P15, N1, N2, N3, N4, N5, N6, N7, I1, I2, I3, I4, I5, I6, I7, reduceIte, reduceCtorEq, c2] at hq ⊢
    exact hq
  simp only [PP, P1, P2, P3, P4, P5, P6, P7, P8, P9, P10, P11, P12, P13, P14, L1, P15, N1, N2, N3, N4, N5, N6, N7, I1, I2, I3, I4, I5, I6, I7, reduceIte, reduceCtorEq, c2] at hq ⊢
  refine SemW_re (GStep.nilbox 1 0 1 rfl rfl rfl) ?_
  refine SemW_re (GStep.nilbox 1 1 1 rfl rfl rfl) ?_
  refine SemW_re (GStep.nilbox 1 2 1 rfl rfl rfl) ?_
  simp only [List.length_cons, List.length_nil, List.length_append, List.length_set, List.set_cons_zero, List.set_cons_succ, List.cons_append, List.nil_append, Nat.reduceAdd]
  have hs := V.s
  have hp := V.p
  have n1 := V.n1
  refine loop5 (fun (k v g : Nat) (a1 a2 : List Int) => k ≤ su.length ∧ a1 = dualO (ow.take k) ∧ a2 = dualP (pr.take k))
    (fun k v g a1 a2 => [.junk, .ptr 0 0 0, .ptr 1 0 0, .junk, .junk, .junk, .junk, .junk, .junk, .junk, .junk, .junk, .junk, .junk, .junk, .junk, .junk, .junk, .junk, slR f3 o3 f4 o4 .i64 su, p64 su.length, p64 k, .junk, .junk, .junk, .junk, .junk, .junk, .junk, .junk, .junk, .junk, .junk, .junk, .junk, .junk, .junk, .junk, .junk, .junk, .junk, .junk, .junk, .junk, .junk, .junk, .junk, .junk, .junk, .junk, .junk, .junk, .junk, .junk, .junk, .junk, .junk])
    (fun k v g a1 a2 => [.cells 0 0 [slI f1 o1 .u8 ow, slI f2 o2 .i64 pr, slR f3 o3 f4 o4 .i64 su], .cells 0 v [.ref 2 g 1 0 a1.length, .ref 3 g 1 0 a2.length, .ref 4 g 1 0 (su.take k).length], .cells g 0 (a1.map (PV.int .u8)), .cells g 0 (a2.map (PV.int .i64)), .cells g 0 ((su.take k).map (slI false true .i64))])
    (fun k _ _ _ _ => su.length - k) 0 0 0 [] [] ⟨by omega, rfl, rfl⟩ (by simp only [PWeak_nil, PWeak_junk, PWeak_same, Int.cast_ofNat_Int, List.length_append, List.length_cons, List.length_nil, Nat.zero_add]) (by simp only [List.take_zero, List.map_nil, List.length_nil]) ?_
  intro k v g a1 a2 ⟨hle, ha1, ha2⟩ ih
  refine SemW_go (by kernel_rfl) ?_
  simp only [PP, P1, P2, P3, P4, P5, P6, P7, P8, P9, P10, P11, P12, P13, P14, L1, P15, N1, N2, N3, N4, N5, N6, N7, I1, I2, I3, I4, I5, I6, I7, reduceIte, reduceCtorEq]
  refine QIf.intro (fun c => ?_) (fun c => ?_)
  · have hk' : k < su.length := by omega
    obtain ⟨row, g1⟩ := some_of hk'
    obtain ⟨o, g2⟩ := some_of (xs := ow) (k := k) (by omega)
    obtain ⟨p, g3⟩ := some_of (xs := pr) (k := k) (by omega)
    have h0 : (0 : Int) ≤ k := by omega
    have hw := wrap_succ (k := k) (by show _ < 1000000000000; omega)
    have cp : (k : Int) < pr.length := by omega
    have co : (k : Int) < ow.length := by omega
    have l1 : a1.length = k := by rw [ha1]; simp [dualO]; omega
    have l2 : a2.length = k := by rw [ha2]; simp [dualP]; omega
    have l3 : (su.take k).length = k := by simp; omega
    have b1 : a1.length + 1 ≤ 140737488355328 := by omega
    have b2 : (a2.length + 1) * 8 ≤ 140737488355328 := by omega
    have b3 : ((su.take k).length + 1) * 24 ≤ 140737488355328 := by omega
    have b4 : a1.length + 1 ≤ 9223372036854775807 := by omega
    have b5 : a2.length + 1 ≤ 9223372036854775807 := by omega
    have b6 : (su.take k).length + 1 ≤ 9223372036854775807 := by omega
    simp only [PP, P1, P2, P3, P4, P5, P6, P7, P8, P9, P10, P11, P12, P13, P14, L1, P15, N1, N2, N3, N4, N5, N6, N7, I1, I2, I3, I4, I5, I6, I7, reduceIte, reduceCtorEq, c, g1, g2, g3, h0, cp, co, b1, b2, b4, b5]
    refine clone_p T (B.r _ (List.mem_of_getElem? g1)) ?_
    simp only [PP, P1, P2, P3, P4, P5, P6, P7, P8, P9, P10, P11, P12, P13, P14, L1, P15, N1, N2, N3, N4, N5, N6, N7, I1, I2, I3, I4, I5, I6, I7, reduceIte, reduceCtorEq, hw, b3, b6]
    refine SemW_to (ih (k + 1) (v + 1 + 1 + 1) (g + 1) (a1 ++ [IntKind.u8.wrap (1 - o)]) (a2 ++ [IntKind.i64.wrap (p + 1)]) ⟨by omega, ?_, ?_⟩ (by omega)) (by simp only [PWeak_nil, PWeak_junk, PWeak_same, Int.cast_ofNat_Int, List.length_append, List.length_cons, List.length_nil, Nat.zero_add]) ?_
    · rw [take_some g2, ha1]; simp [dualO]
    · rw [take_some g3, ha2]; simp [dualP]
    · simp only [take_some g1, List.map_append, List.map_cons, List.map_nil, List.length_append, List.length_cons, List.length_nil]
  · have t1 : su.take k = su := List.take_of_length_le (by omega)
    have ha1 : a1 = dualO ow := by rw [ha1, List.take_of_length_le (by omega)]
    have ha2 : a2 = dualP pr := by rw [ha2, List.take_of_length_le (by omega)]
    subst ha1 ha2
    simp only [PP, P1, P2, P3, P4, P5, P6, P7, P8, P9, P10, P11, P12, P13, P14, L1, P15, N1, N2, N3, N4, N5, N6, N7, I1, I2, I3, I4, I5, I6, I7, reduceIte, reduceCtorEq, c, t1]
    exact hq
end
end Go.Am.Ar

set_option linter.unusedVariables false
set_option linter.unusedSimpArgs false
set_option maxRecDepth 10000
namespace Go.Am.Ar
open Go.Am renaming pchk → P1, pold → P2, PKNo → P3, ppack → P4, PObj.under → P5, pput → P6, ptset → P7, ptget → P8, pev → P9, ofAV → P10, ofAV1 → P11, ppad → P12, pfill → P13, prepl → P14, AO.effect → P15
open List renaming replicate → L1
open Nat renaming reduceAdd → N1, reduceSub → N2, reduceMul → N3, reduceLT → N4, reduceLeDiff → N5, reduceEqDiff → N6, reduceBEq → N7
open Int renaming reduceToNat → I1, reduceLT → I2, reduceLE → I3, reduceEq → I4, reduceAdd → I5, reduceSub → I6, reduceNeg → I7
section
variable {tab : FuncId → Option AF} (T : HasA tab)
include T

theorem dual_law_p {ow pr st keep : List Int} {side fr : Int} {su : List (List Int)} (hs0 : 0 ≤ side) (hs1 : side ≤ 255) (ho : ∀ x ∈ ow, 0 ≤ x) :
    SemC tab 6 [gmP false false false false false false false false ow pr su, slI false false .i64 st, p64 fr, p8 side, slI false false .i64 keep] [] fun r _ => r = .bool true := by
  refine SemC_fn T.h6 ?_
  simp only [af6, PP, P1, P2, P3, P4, P5, P6, P7, P8, P9, P10, P11, P12, P13, P14, L1, P15, N1, N2, N3, N4, N5, N6, N7, I1, I2, I3, I4, I5, I6, I7, reduceIte, reduceCtorEq]
  refine long_p T (ls := [st, keep]) (by show 2 < 1000000000000; omega) ?_
  simp only [PP, P1, P2, P3, P4, P5, P6, P7, P8, P9, P10, P11, P12, P13, P14, L1, P15, N1, N2, N3, N4, N5, N6, N7, I1, I2, I3, I4, I5, I6, I7, reduceIte, reduceCtorEq]
  cases hl : longM ow pr su [st, keep] with
  | true =>
    simp only [PP, P1, P2, P3, P4, P5, P6, P7, P8, P9, P10, P11, P12, P13, P14, L1, P15, N1, N2, N3, N4, N5, N6, N7, I1, I2, I3, I4, I5, I6, I7, reduceIte, reduceCtorEq]
    refine SemC_true T.awake ?_
    simp only [PP, P1, P2, P3, P4, P5, P6, P7, P8, P9, P10, P11, P12, P13, P14, L1, P15, N1, N2, N3, N4, N5, N6, N7, I1, I2, I3, I4, I5, I6, I7, reduceIte, reduceCtorEq]
  | false =>
    have S := longM_false hl
    have B := S.bnd
    have hkl := S.l keep (by simp)
    have hkb : keep.length < big := by show _ < 1000000000000; omega
    have hsl := S.l st (by simp)
    have hsb : st.length < big := by show _ < 1000000000000; omega
    simp only [PP, P1, P2, P3, P4, P5, P6, P7, P8, P9, P10, P11, P12, P13, P14, L1, P15, N1, N2, N3, N4, N5, N6, N7, I1, I2, I3, I4, I5, I6, I7, reduceIte, reduceCtorEq]
    refine SemC_true T.awake ?_
    simp only [PP, P1, P2, P3, P4, P5, P6, P7, P8, P9, P10, P11, P12, P13, P14, L1, P15, N1, N2, N3, N4, N5, N6, N7, I1, I2, I3, I4, I5, I6, I7, reduceIte, reduceCtorEq]
    refine dual_p T B ?_
    unfold dualM
    by_cases c1 : checkM ow pr su = 0
    · rw [if_pos c1]
      by_cases c2 : maxL pr = 16
      · rw [if_pos c2]
        simp only [PP, P1, P2, P3, P4, P5, P6, P7, P8, P9, P10, P11, P12, P13, P14, L1, P15, N1, N2, N3, N4, N5, N6, N7, I1, I2, I3, I4, I5, I6, I7, reduceIte, reduceCtorEq]
      · rw [if_neg c2]
        have V := valid_of c1
        have D := dual_of V ho c2
        have n1 := V.n1
        have so := S.o
        have BD : Bnd (dualO ow) (dualP pr) su := ⟨by rw [D.n]; exact B.o, by rw [D.p]; exact B.p, B.s, B.r⟩
        simp only [PP, P1, P2, P3, P4, P5, P6, P7, P8, P9, P10, P11, P12, P13, P14, L1, P15, N1, N2, N3, N4, N5, N6, N7, I1, I2, I3, I4, I5, I6, I7, reduceIte, reduceCtorEq]
        refine play_p T B hsb ?_
        have tail : True := trivial
        unfold playM
        by_cases c3 : playE ow pr su st fr = 0
        · rw [if_pos c3]
          obtain ⟨f, v, m, k, hv, hf, hp⟩ := playE_play c3
          have hmem := hp.mem hf hv
          obtain ⟨l1, l2⟩ := hp.len
          have km := hp.km
          have mn := hp.mn
          have hd := D.play st fr
          unfold playM at hd
          rw [if_pos c3] at hd
          generalize playL st (ow.length + 1) fr [] = pl at hp hmem l1 l2 hd ⊢
          obtain ⟨pre, lp⟩ := pl
          simp only at hp hmem l1 l2 hd ⊢
          have lpb : lp.length < big := by show _ < 1000000000000; omega
          have preb : pre.length < big := by show _ < 1000000000000; omega
          have hne : ¬ (lp.length : Int) = 0 := by omega
          have hw1 : winM ow pr su lp = .tuple [p8 (mxP pr 0 lp % 2), p64 0] := by
            unfold winM
            rw [if_pos c1, if_neg hne, winL_of hmem, par_u8 mxP_ge]
          have hw2 : winM (dualO ow) (dualP pr) su lp = .tuple [p8 ((mxP pr 0 lp + 1) % 2), p64 0] := by
            unfold winM
            rw [if_pos (check_of D.v'), if_neg hne, D.n, winL_of hmem, par_u8 mxP_ge, mxP_dual0 D.r hmem (by intro e; rw [e] at hne; simp at hne)]
          have hps := par_sum (m := mxP pr 0 lp) mxP_ge
          simp only [PP, P1, P2, P3, P4, P5, P6, P7, P8, P9, P10, P11, P12, P13, P14, L1, P15, N1, N2, N3, N4, N5, N6, N7, I1, I2, I3, I4, I5, I6, I7, reduceIte, reduceCtorEq]
          refine play_p T BD hsb ?_
          unfold playM
          rw [hd]
          simp only [PP, P1, P2, P3, P4, P5, P6, P7, P8, P9, P10, P11, P12, P13, P14, L1, P15, N1, N2, N3, N4, N5, N6, N7, I1, I2, I3, I4, I5, I6, I7, reduceIte, reduceCtorEq]
          refine equalInts_p T preb ?_
          simp only [PP, P1, P2, P3, P4, P5, P6, P7, P8, P9, P10, P11, P12, P13, P14, L1, P15, N1, N2, N3, N4, N5, N6, N7, I1, I2, I3, I4, I5, I6, I7, reduceIte, reduceCtorEq]
          refine equalInts_p T lpb ?_
          simp only [PP, P1, P2, P3, P4, P5, P6, P7, P8, P9, P10, P11, P12, P13, P14, L1, P15, N1, N2, N3, N4, N5, N6, N7, I1, I2, I3, I4, I5, I6, I7, reduceIte, reduceCtorEq]
          refine winner_p T B lpb ?_
          rw [hw1]
          simp only [PP, P1, P2, P3, P4, P5, P6, P7, P8, P9, P10, P11, P12, P13, P14, L1, P15, N1, N2, N3, N4, N5, N6, N7, I1, I2, I3, I4, I5, I6, I7, reduceIte, reduceCtorEq]
          refine winner_p T BD lpb ?_
          rw [hw2]
          simp only [PP, P1, P2, P3, P4, P5, P6, P7, P8, P9, P10, P11, P12, P13, P14, L1, P15, N1, N2, N3, N4, N5, N6, N7, I1, I2, I3, I4, I5, I6, I7, reduceIte, reduceCtorEq, hps]
          refine QIf.intro (fun c4 => ?_) (fun c4 => ?_)
          · simp only [PP, P1, P2, P3, P4, P5, P6, P7, P8, P9, P10, P11, P12, P13, P14, L1, P15, N1, N2, N3, N4, N5, N6, N7, I1, I2, I3, I4, I5, I6, I7, reduceIte, reduceCtorEq, c4]
          · have hsd : IntKind.u8.wrap (1 - side) = 1 - side := by
              simp only [IntKind.wrap, IntKind.signed, IntKind.bits]; simp; omega
            obtain ⟨aa, ab, ae, ha, al1, al2⟩ := attrM_res ow pr su side keep
            obtain ⟨tb, te, ht⟩ := trapM_res ow pr su side keep
            have ha2 := D.attr hs0 (by omega) keep
            have ht2 := D.trap hs0 (by omega) keep
            rw [ha] at ha2
            rw [ht] at ht2
            have la : aa.length < big := by show _ < 1000000000000; omega
            have lb : ab.length < big := by show _ < 1000000000000; omega
            have ho' : ∀ x ∈ dualO ow, 0 ≤ x := fun x hx => by
              obtain ⟨i, hi⟩ := List.getElem?_of_mem hx
              have hil := getSome_lt hi
              rw [D.n] at hil
              have := (D.o i hil)
              rw [getD_some hi] at this
              omega
            simp only [PP, P1, P2, P3, P4, P5, P6, P7, P8, P9, P10, P11, P12, P13, P14, L1, P15, N1, N2, N3, N4, N5, N6, N7, I1, I2, I3, I4, I5, I6, I7, reduceIte, reduceCtorEq, c4]
            refine attract_p T B hkb hs0 ho ?_
            rw [ha]
            simp only [PP, P1, P2, P3, P4, P5, P6, P7, P8, P9, P10, P11, P12, P13, P14, L1, P15, N1, N2, N3, N4, N5, N6, N7, I1, I2, I3, I4, I5, I6, I7, reduceIte, reduceCtorEq, hsd]
            refine attract_p T BD hkb (by omega) ho' ?_
            rw [ha2]
            simp only [PP, P1, P2, P3, P4, P5, P6, P7, P8, P9, P10, P11, P12, P13, P14, L1, P15, N1, N2, N3, N4, N5, N6, N7, I1, I2, I3, I4, I5, I6, I7, reduceIte, reduceCtorEq]
            refine trap_p T B hkb ?_
            rw [ht]
            simp only [PP, P1, P2, P3, P4, P5, P6, P7, P8, P9, P10, P11, P12, P13, P14, L1, P15, N1, N2, N3, N4, N5, N6, N7, I1, I2, I3, I4, I5, I6, I7, reduceIte, reduceCtorEq, hsd]
            refine trap_p T BD hkb ?_
            rw [ht2]
            simp only [PP, P1, P2, P3, P4, P5, P6, P7, P8, P9, P10, P11, P12, P13, P14, L1, P15, N1, N2, N3, N4, N5, N6, N7, I1, I2, I3, I4, I5, I6, I7, reduceIte, reduceCtorEq]
            refine equalInts_p T la ?_
            simp only [PP, P1, P2, P3, P4, P5, P6, P7, P8, P9, P10, P11, P12, P13, P14, L1, P15, N1, N2, N3, N4, N5, N6, N7, I1, I2, I3, I4, I5, I6, I7, reduceIte, reduceCtorEq]
            refine equalInts_p T lb ?_
            simp only [PP, P1, P2, P3, P4, P5, P6, P7, P8, P9, P10, P11, P12, P13, P14, L1, P15, N1, N2, N3, N4, N5, N6, N7, I1, I2, I3, I4, I5, I6, I7, reduceIte, reduceCtorEq]
        · rw [if_neg c3]
          simp only [PP, P1, P2, P3, P4, P5, P6, P7, P8, P9, P10, P11, P12, P13, P14, L1, P15, N1, N2, N3, N4, N5, N6, N7, I1, I2, I3, I4, I5, I6, I7, reduceIte, reduceCtorEq]
          refine play_p T BD hsb ?_
          rw [D.play]
          unfold playM
          rw [if_neg c3]
          simp only [PP, P1, P2, P3, P4, P5, P6, P7, P8, P9, P10, P11, P12, P13, P14, L1, P15, N1, N2, N3, N4, N5, N6, N7, I1, I2, I3, I4, I5, I6, I7, reduceIte, reduceCtorEq]
          have l0 : ([] : List Int).length < big := by show 0 < 1000000000000; omega
          refine equalInts_p T (xs := []) (ys := []) l0 ?_
          simp only [PP, P1, P2, P3, P4, P5, P6, P7, P8, P9, P10, P11, P12, P13, P14, L1, P15, N1, N2, N3, N4, N5, N6, N7, I1, I2, I3, I4, I5, I6, I7, reduceIte, reduceCtorEq]
          refine equalInts_p T (xs := []) (ys := []) l0 ?_
          simp only [PP, P1, P2, P3, P4, P5, P6, P7, P8, P9, P10, P11, P12, P13, P14, L1, P15, N1, N2, N3, N4, N5, N6, N7, I1, I2, I3, I4, I5, I6, I7, reduceIte, reduceCtorEq, c3]
          refine QIf.intro (fun c4 => ?_) (fun c4 => ?_)
          · simp only [PP, P1, P2, P3, P4, P5, P6, P7, P8, P9, P10, P11, P12, P13, P14, L1, P15, N1, N2, N3, N4, N5, N6, N7, I1, I2, I3, I4, I5, I6, I7, reduceIte, reduceCtorEq, c4]
          · have hsd : IntKind.u8.wrap (1 - side) = 1 - side := by
              simp only [IntKind.wrap, IntKind.signed, IntKind.bits]; simp; omega
            obtain ⟨aa, ab, ae, ha, al1, al2⟩ := attrM_res ow pr su side keep
            obtain ⟨tb, te, ht⟩ := trapM_res ow pr su side keep
            have ha2 := D.attr hs0 (by omega) keep
            have ht2 := D.trap hs0 (by omega) keep
            rw [ha] at ha2
            rw [ht] at ht2
            have la : aa.length < big := by show _ < 1000000000000; omega
            have lb : ab.length < big := by show _ < 1000000000000; omega
            have ho' : ∀ x ∈ dualO ow, 0 ≤ x := fun x hx => by
              obtain ⟨i, hi⟩ := List.getElem?_of_mem hx
              have hil := getSome_lt hi
              rw [D.n] at hil
              have := (D.o i hil)
              rw [getD_some hi] at this
              omega
            simp only [PP, P1, P2, P3, P4, P5, P6, P7, P8, P9, P10, P11, P12, P13, P14, L1, P15, N1, N2, N3, N4, N5, N6, N7, I1, I2, I3, I4, I5, I6, I7, reduceIte, reduceCtorEq, c4]
            refine attract_p T B hkb hs0 ho ?_
            rw [ha]
            simp only [PP, P1, P2, P3, P4, P5, P6, P7, P8, P9, P10, P11, P12, P13, P14, L1, P15, N1, N2, N3, N4, N5, N6, N7, I1, I2, I3, I4, I5, I6, I7, reduceIte, reduceCtorEq, hsd]
            refine attract_p T BD hkb (by omega) ho' ?_
            rw [ha2]
            simp only [PP, P1, P2, P3, P4, P5, P6, P7, P8, P9, P10, P11, P12, P13, P14, L1, P15, N1, N2, N3, N4, N5, N6, N7, I1, I2, I3, I4, I5, I6, I7, reduceIte, reduceCtorEq]
            refine trap_p T B hkb ?_
            rw [ht]
            simp only [PP, P1, P2, P3, P4, P5, P6, P7, P8, P9, P10, P11, P12, P13, P14, L1, P15, N1, N2, N3, N4, N5, N6, N7, I1, I2, I3, I4, I5, I6, I7, reduceIte, reduceCtorEq, hsd]
            refine trap_p T BD hkb ?_
            rw [ht2]
            simp only [PP, P1, P2, P3, P4, P5, P6, P7, P8, P9, P10, P11, P12, P13, P14, L1, P15, N1, N2, N3, N4, N5, N6, N7, I1, I2, I3, I4, I5, I6, I7, reduceIte, reduceCtorEq]
            refine equalInts_p T la ?_
            simp only [PP, P1, P2, P3, P4, P5, P6, P7, P8, P9, P10, P11, P12, P13, P14, L1, P15, N1, N2, N3, N4, N5, N6, N7, I1, I2, I3, I4, I5, I6, I7, reduceIte, reduceCtorEq]
            refine equalInts_p T lb ?_
            simp only [PP, P1, P2, P3, P4, P5, P6, P7, P8, P9, P10, P11, P12, P13, P14, L1, P15, N1, N2, N3, N4, N5, N6, N7, I1, I2, I3, I4, I5, I6, I7, reduceIte, reduceCtorEq]
    · rw [if_neg c1]
      simp only [PP, P1, P2, P3, P4, P5, P6, P7, P8, P9, P10, P11, P12, P13, P14, L1, P15, N1, N2, N3, N4, N5, N6, N7, I1, I2, I3, I4, I5, I6, I7, reduceIte, reduceCtorEq, c1]
end
end Go.Am.Ar

set_option linter.unusedVariables false
set_option linter.unusedSimpArgs false
namespace Go.Am.Ar

/-- The type of games. -/
abbrev gameTy : Ty := .pair (.slice (.int .u8)) (.pair (.slice (.int .i64)) (.pair (.slice (.slice (.int .i64))) .unit))

/-- What is known of the numbers of a game that a law gets. -/
structure Nums (ow pr : List Int) (su : List (List Int)) : Prop where
  o : ∀ x ∈ ow, 0 ≤ x ∧ x ≤ 255
  p : ∀ x ∈ pr, -9223372036854775808 ≤ x ∧ x ≤ 9223372036854775807
  s : ∀ r ∈ su, ∀ x ∈ r, -9223372036854775808 ≤ x ∧ x ≤ 9223372036854775807
  lo : ow.length ≤ 9223372036854775807
  lp : pr.length ≤ 9223372036854775807
  ls : su.length ≤ 9223372036854775807
  lr : ∀ r ∈ su, r.length ≤ 9223372036854775807

theorem arg_game {v : AV} {h : H} (hs : ShV gameTy v h) : ∃ (ow pr : List Int) (su : List (List Int)), RepV (wH h) (gmP false false false false false false false false ow pr su) v ∧ Nums ow pr su := by
  obtain ⟨avs, hs, rfl⟩ := hs
  obtain ⟨c1, c2, rfl, h1, c3, c4, rfl, h2, c5, c6, rfl, h3, h4⟩ := hs
  have h4 : c6 = [] := h4
  subst h4
  obtain ⟨vo, ow, rfl, p1, q1, r1⟩ := sh_intsP h1
  obtain ⟨vp, pr, rfl, p2, q2, r2⟩ := sh_intsP h2
  obtain ⟨vs, su, rfl, p3, q3, r3⟩ := sh_rowsP h3
  refine ⟨ow, pr, su, ?_, ⟨r1, r2, fun r hr => (r3 r hr).2, q1, q2, q3, fun r hr => (r3 r hr).1⟩⟩
  have := RepL.cons p1 (.cons p2 (.cons p3 (.nil (wH h))))
  exact .agg this.len this.get
theorem arg_ints {k : IntKind} {v : AV} {h : H} (hs : ShV (.slice (.int k)) v h) : ∃ (xs : List Int), RepV (wH h) (slI false false k xs) v ∧ xs.length ≤ 9223372036854775807 ∧ ∀ x ∈ xs, k.min ≤ x ∧ x ≤ k.max := by
  obtain ⟨avs, hs, rfl⟩ := hs
  obtain ⟨v, xs, rfl, p, q, r⟩ := sh_intsP hs
  exact ⟨xs, p, q, r⟩
theorem arg_int {k : IntKind} {v : AV} {h : H} (hs : ShV (.int k) v h) : ∃ (x : Int), v = .int k x ∧ RepV (wH h) (.int k x) v ∧ k.min ≤ x ∧ x ≤ k.max := by
  obtain ⟨avs, hs, rfl⟩ := hs
  obtain ⟨x, rfl, p⟩ := hs
  exact ⟨x, rfl, .int k x, p⟩

theorem run_of_C {tab : FuncId → Option AF} {g : FuncId} {args : List AV} {h : H} (hc : C (lim tab) g args h fun v _ => v = .bool true) : ∃ n h', (run tab n).call g args h = some (.bool true, h') := by
  unfold C at hc
  obtain ⟨v, h', he, rfl⟩ := hc
  obtain ⟨n, hn⟩ := (lim_call_iff tab).1 he
  exact ⟨n, h', hn⟩
theorem shVs2 {A B : Ty} {args : List AV} {h : H} (hs : ShVs [A, B] args h) : ∃ a b, args = [a, b] ∧ ShV A a h ∧ ShV B b h := by
  match args, hs with
  | [a, b], ⟨h1, h2, _⟩ => exact ⟨a, b, rfl, h1, h2⟩
theorem shVs3 {A B D : Ty} {args : List AV} {h : H} (hs : ShVs [A, B, D] args h) : ∃ a b d, args = [a, b, d] ∧ ShV A a h ∧ ShV B b h ∧ ShV D d h := by
  match args, hs with
  | [a, b, d], ⟨h1, h2, h3, _⟩ => exact ⟨a, b, d, rfl, h1, h2, h3⟩
theorem shVs4 {A B D E : Ty} {args : List AV} {h : H} (hs : ShVs [A, B, D, E] args h) : ∃ a b d e, args = [a, b, d, e] ∧ ShV A a h ∧ ShV B b h ∧ ShV D d h ∧ ShV E e h := by
  match args, hs with
  | [a, b, d, e], ⟨h1, h2, h3, h4, _⟩ => exact ⟨a, b, d, e, rfl, h1, h2, h3, h4⟩
theorem shVs5 {A B D E F : Ty} {args : List AV} {h : H} (hs : ShVs [A, B, D, E, F] args h) : ∃ a b d e f, args = [a, b, d, e, f] ∧ ShV A a h ∧ ShV B b h ∧ ShV D d h ∧ ShV E e h ∧ ShV F f h := by
  match args, hs with
  | [a, b, d, e, f], ⟨h1, h2, h3, h4, h5, _⟩ => exact ⟨a, b, d, e, f, rfl, h1, h2, h3, h4, h5⟩
end Go.Am.Ar

set_option linter.unusedVariables false
namespace Go.Am.Ar
theorem dualLaw_all {tab : FuncId → Option AF} (T : HasA tab) (args : List AV) (h : H) (hs : ShVs [gameTy, .slice (.int .i64), .int .i64, .int .u8, .slice (.int .i64)] args h) :
    ∃ n h', (run tab n).call 6 args h = some (.bool true, h') := by
  obtain ⟨a, b, c, d, e, rfl, ha, hb, hc, hd, he⟩ := shVs5 hs
  obtain ⟨ow, pr, su, r1, N⟩ := arg_game ha
  obtain ⟨st, r2, _, _⟩ := arg_ints hb
  obtain ⟨fr, rfl, r3, _, _⟩ := arg_int hc
  obtain ⟨side, rfl, r4, s0, s1⟩ := arg_int hd
  obtain ⟨keep, r5, _, _⟩ := arg_ints he
  exact run_of_C (law_of_sem (.cons r1 (.cons r2 (.cons r3 (.cons r4 (.cons r5 (.nil _)))))) (dual_law_p T s0 s1 (fun x hx => (N.o x hx).1)))
end Go.Am.Ar
