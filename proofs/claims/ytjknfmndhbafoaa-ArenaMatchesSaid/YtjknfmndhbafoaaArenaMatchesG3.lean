/- Contracts: traps, and what goes with it. -/
import Derived.Test.YtjknfmndhbafoaaArenaMatchesG2
import Derived.Test.YtjknfmndhbafoaaArenaMatchesG0
import Derived.Test.YtjknfmndhbafoaaPmL
set_option linter.unusedVariables false
set_option linter.unusedSimpArgs false
set_option maxRecDepth 10000
namespace Go.Am.Ar
open Go.Am renaming pchk → P1, pold → P2, PKNo → P3, ppack → P4, PObj.under → P5, pput → P6, ptset → P7, ptget → P8, pev → P9, ofAV → P10, ofAV1 → P11, ppad → P12, pfill → P13, prepl → P14, AO.effect → P15
open List renaming replicate → L1
open Nat renaming reduceAdd → N1, reduceSub → N2, reduceMul → N3, reduceLT → N4, reduceLeDiff → N5, reduceEqDiff → N6, reduceBEq → N7
open Int renaming reduceToNat → I1, reduceLT → I2, reduceLE → I3, reduceEq → I4, reduceAdd → I5, reduceSub → I6, reduceNeg → I7
def trapAt (ow : List Int) (su : List (List Int)) (side : Int) (keep : List Int) (v : Int) : Prop :=
  (∃ u ∈ su.getD v.toNat [], u ∈ keep) ∧ (ow.getD v.toNat 0 = side → ∀ u ∈ su.getD v.toNat [], u ∈ keep)
instance (ow : List Int) (su : List (List Int)) (side : Int) (keep : List Int) (v : Int) : Decidable (trapAt ow su side keep v) := by unfold trapAt; infer_instance
def trapL (ow : List Int) (su : List (List Int)) (side : Int) (keep : List Int) : List Int → Bool
  | [] => true
  | v :: l => if trapAt ow su side keep v then trapL ow su side keep l else false
theorem trapL_iff {ow : List Int} {su : List (List Int)} {side : Int} {keep : List Int} : ∀ {l : List Int}, trapL ow su side keep l = true ↔ ∀ v ∈ l, trapAt ow su side keep v
  | [] => by simp [trapL]
  | v :: l => by
    unfold trapL
    split
    · rename_i h; rw [trapL_iff]; simp [h]
    · rename_i h; simp [h]
def trapM (ow pr : List Int) (su : List (List Int)) (side : Int) (keep : List Int) : PV :=
  if wrongM ow pr su side keep = 0 then .tuple [.bool (trapL ow su side keep keep), p64 0] else .tuple [.bool false, p64 (wrongM ow pr su side keep)]
theorem natI_of {l : List Int} (h : ∀ x ∈ l, 0 ≤ x) : natI (l.map Int.toNat) = l := by
  induction l with
  | nil => rfl
  | cons x l ih =>
    have := h x (by simp)
    have e := ih fun y hy => h y (by simp [hy])
    show ((x.toNat : Nat) : Int) :: natI (l.map Int.toNat) = x :: l
    rw [e]
    congr 1
    omega
theorem toNat_mem {l : List Int} (h : ∀ x ∈ l, 0 ≤ x) {x : Int} (hx : 0 ≤ x) : x.toNat ∈ l.map Int.toNat ↔ x ∈ l := by
  rw [List.mem_map]
  exact ⟨fun ⟨y, h1, h2⟩ => by have := h y h1; rw [show x = y by omega]; exact h1, fun h => ⟨x, h, rfl⟩⟩
theorem ex_nat {a b : List Int} (ha : ∀ x ∈ a, 0 ≤ x) (hb : ∀ x ∈ b, 0 ≤ x) : (∃ x, x ∈ a.map Int.toNat ∧ x ∈ b.map Int.toNat) ↔ ∃ u ∈ a, u ∈ b := by
  constructor
  · rintro ⟨x, h1, h2⟩
    obtain ⟨y, q1, rfl⟩ := List.mem_map.1 h1
    exact ⟨y, q1, (toNat_mem hb (ha y q1)).1 h2⟩
  · rintro ⟨u, h1, h2⟩
    exact ⟨u.toNat, List.mem_map.2 ⟨u, h1, rfl⟩, List.mem_map.2 ⟨u, h2, rfl⟩⟩
theorem all_nat {a b : List Int} (ha : ∀ x ∈ a, 0 ≤ x) (hb : ∀ x ∈ b, 0 ≤ x) : (∀ x ∈ a.map Int.toNat, x ∈ b.map Int.toNat) ↔ ∀ u ∈ a, u ∈ b := by
  constructor
  · intro h u hu
    exact (toNat_mem hb (ha u hu)).1 (h _ (List.mem_map.2 ⟨u, hu, rfl⟩))
  · intro h x hx
    obtain ⟨y, q1, rfl⟩ := List.mem_map.1 hx
    exact List.mem_map.2 ⟨y, h y q1, rfl⟩
section
variable {tab : FuncId → Option AF} (T : HasA tab)
include T
theorem trap_p {M : Mem} {K : PV → Mem → Prop} {f1 o1 f2 o2 f3 o3 f4 o4 f5 o5 : Bool} {ow pr keep : List Int} {side : Int} {su : List (List Int)} (B : Bnd ow pr su) (hb : keep.length < big) (hq : K (trapM ow pr su side keep) M) :
    SemC tab 15 [gmP f1 o1 f2 o2 f3 o3 f4 o4 ow pr su, p8 side, slI f5 o5 .i64 keep] M K := by
  refine SemC_pure T.h15 (by simp only [PP, P1, P2, P3, P4, P5, P6, P7, P8, P9, P10, P11, P12, P13, P14, L1, P15, N1, N2, N3, N4, N5, N6, N7, I1, I2, I3, I4, I5, I6, I7, reduceIte, reduceCtorEq]) ?_
  simp only [af15, PP, P1, P2, P3, P4, P5, P6, P7, P8, P9, P10, P11, P12, P13, P14, L1, P15, N1, N2, N3, N4, N5, N6, N7, I1, I2, I3, I4, I5, I6, I7, reduceIte, reduceCtorEq, trapM] at hq ⊢
  refine acheck_p T B hb ?_
  simp only [PP, P1, P2, P3, P4, P5, P6, P7, P8, P9, P10, P11, P12, P13, P14, L1, P15, N1, N2, N3, N4, N5, N6, N7, I1, I2, I3, I4, I5, I6, I7, reduceIte, reduceCtorEq]
  refine QIf.intro (fun c1 => ?_) (fun c1 => ?_)
  rotate_left
  · simp only [PP, P1, P2, P3, P4, P5, P6, P7, P8, P9, P10, P11, P12, P13, P14, L1, P15, N1, N2, N3, N4, N5, N6, N7, I1, I2, I3, I4, I5, I6, I7, reduceIte, reduceCtorEq, c1] at hq ⊢
    exact hq
  simp only [PP, P1, P2, P3, P4, P5, P6, P7, P8, P9, P10, P11, P12, P13, P14, L1, P15, N1, N2, N3, N4, N5, N6, N7, I1, I2, I3, I4, I5, I6, I7, reduceIte, reduceCtorEq, c1] at hq ⊢
  obtain ⟨V, hside, hpm⟩ := wrong_zero c1
  have hs := V.s
  have n1 := V.n1
  have kr : ∀ x ∈ keep, 0 ≤ x ∧ x < ow.length := fun x hx => by have := (posM_rise hpm).2 x hx; omega
  have hkn : ∀ x ∈ keep.map Int.toNat, x < 4096 := fun x hx => by
    obtain ⟨y, hy, rfl⟩ := List.mem_map.1 hx
    have := kr y hy; omega
  refine of_p T (natI_of fun x hx => (kr x hx).1) (by rw [List.length_map]; exact hb) hkn ?_
  have hkl := ofL_len hkn
  simp only [PP, P1, P2, P3, P4, P5, P6, P7, P8, P9, P10, P11, P12, P13, P14, L1, P15, N1, N2, N3, N4, N5, N6, N7, I1, I2, I3, I4, I5, I6, I7, reduceIte, reduceCtorEq]
  refine loop1 (fun (k : Nat) => k ≤ keep.length ∧ K (.tuple [.bool (trapL ow su side keep (keep.drop k)), p64 0]) M) (fun k => [.junk, p8 side, .junk, .ptr 0 0 0, .junk, .junk, .junk, .junk, .junk, slW false true (ofL (keep.map Int.toNat)), .junk, .junk, .junk, .junk, .junk, .junk, .junk, .junk, .junk, .junk, .junk, .junk, slI f5 o5 .i64 keep, p64 keep.length, p64 k, .junk, .junk, .junk, .junk, .junk, .junk, .junk, .junk, .junk, .junk, .junk, .junk, .junk, .junk, .junk, .junk, .junk, .junk, .junk, .junk, .junk, .junk, .junk, .junk, .junk, .junk, .junk, .junk, .junk]) (fun _ => [.cells 0 0 [slI f1 o1 .u8 ow, slI f2 o2 .i64 pr, slR f3 o3 f4 o4 .i64 su]]) (fun k => keep.length - k) 0 ⟨by omega, hq⟩ (by simp only [PWeak_nil, PWeak_junk, PWeak_same, Int.cast_ofNat_Int, List.length_append, List.length_cons, List.length_nil, Nat.zero_add]) rfl ?_
  intro k ⟨hle, hq⟩ ih
  refine SemW_go (by kernel_rfl) ?_
  simp only [PP, P1, P2, P3, P4, P5, P6, P7, P8, P9, P10, P11, P12, P13, P14, L1, P15, N1, N2, N3, N4, N5, N6, N7, I1, I2, I3, I4, I5, I6, I7, reduceIte, reduceCtorEq]
  refine QIf.intro (fun c => ?_) (fun c => ?_)
  · have hk : k < keep.length := by omega
    have hkb : keep.length < 1000000000000 := hb
    have hw := wrap_succ (k := k) (by show _ < 1000000000000; omega)
    have k0 : (0 : Int) ≤ k := by omega
    obtain ⟨v, g1⟩ := some_of hk
    obtain ⟨v0, v1⟩ := kr v (List.mem_of_getElem? g1)
    obtain ⟨row, g2⟩ := some_of (xs := su) (k := v.toNat) (by omega)
    obtain ⟨o, g3⟩ := some_of (xs := ow) (k := v.toNat) (by omega)
    have e2 : su.getD v.toNat [] = row := by simp [List.getD, g2]
    have e3 : ow.getD v.toNat 0 = o := by simp [List.getD, g3]
    have vs : v < su.length := by omega
    have rr : ∀ x ∈ row, 0 ≤ x ∧ x < ow.length := fun x hx => su_range V (v := v.toNat) (by omega) (by rw [e2]; exact hx)
    have hrn : ∀ x ∈ row.map Int.toNat, x < 4096 := fun x hx => by
      obtain ⟨y, hy, rfl⟩ := List.mem_map.1 hx
      have := rr y hy; omega
    have hrl := ofL_len hrn
    rw [drop_some g1, trapL] at hq
    have hta : trapAt ow su side keep v ↔ (∃ u ∈ row, u ∈ keep) ∧ (o = side → ∀ u ∈ row, u ∈ keep) := by unfold trapAt; rw [e2, e3]
    simp only [PP, P1, P2, P3, P4, P5, P6, P7, P8, P9, P10, P11, P12, P13, P14, L1, P15, N1, N2, N3, N4, N5, N6, N7, I1, I2, I3, I4, I5, I6, I7, reduceIte, reduceCtorEq, c, g1, k0, g2, v0, vs]
    refine of_p T (natI_of fun x hx => (rr x hx).1) (by rw [List.length_map]; exact B.r _ (List.mem_of_getElem? g2)) hrn ?_
    simp only [PP, P1, P2, P3, P4, P5, P6, P7, P8, P9, P10, P11, P12, P13, P14, L1, P15, N1, N2, N3, N4, N5, N6, N7, I1, I2, I3, I4, I5, I6, I7, reduceIte, reduceCtorEq]
    refine intersects_p T (by show _ < 1000000000000; omega) (by show _ < 1000000000000; omega) ?_
    have i1 := (inter_iff hrn hkn).trans (ex_nat (fun x hx => (rr x hx).1) (fun x hx => (kr x hx).1))
    have i2 := (subset_iff hrn hkn).trans (all_nat (fun x hx => (rr x hx).1) (fun x hx => (kr x hx).1))
    simp only [i1] 
    by_cases h1 : ∃ u ∈ row, u ∈ keep
    · by_cases h2 : o = side
      · simp only [PP, P1, P2, P3, P4, P5, P6, P7, P8, P9, P10, P11, P12, P13, P14, L1, P15, N1, N2, N3, N4, N5, N6, N7, I1, I2, I3, I4, I5, I6, I7, reduceIte, reduceCtorEq, h1, h2, g3, v0, v1]
        refine subset_p T (by show _ < 1000000000000; omega) (by show _ < 1000000000000; omega) ?_
        simp only [i2]
        by_cases h3 : ∀ u ∈ row, u ∈ keep
        · rw [if_pos (hta.2 ⟨h1, fun _ => h3⟩)] at hq
          simp only [PP, P1, P2, P3, P4, P5, P6, P7, P8, P9, P10, P11, P12, P13, P14, L1, P15, N1, N2, N3, N4, N5, N6, N7, I1, I2, I3, I4, I5, I6, I7, reduceIte, reduceCtorEq, eq_true h3, hw]
          exact SemW_weak (ih (k + 1) ⟨by omega, hq⟩ (by omega)) (by simp only [PWeak_nil, PWeak_junk, PWeak_same, Int.cast_ofNat_Int, List.length_append, List.length_cons, List.length_nil, Nat.zero_add])
        · rw [if_neg (fun h => h3 ((hta.1 h).2 h2))] at hq
          simp only [PP, P1, P2, P3, P4, P5, P6, P7, P8, P9, P10, P11, P12, P13, P14, L1, P15, N1, N2, N3, N4, N5, N6, N7, I1, I2, I3, I4, I5, I6, I7, reduceIte, reduceCtorEq, eq_false h3]
          exact hq
      · rw [if_pos (hta.2 ⟨h1, fun h => absurd h h2⟩)] at hq
        simp only [PP, P1, P2, P3, P4, P5, P6, P7, P8, P9, P10, P11, P12, P13, P14, L1, P15, N1, N2, N3, N4, N5, N6, N7, I1, I2, I3, I4, I5, I6, I7, reduceIte, reduceCtorEq, h1, h2, g3, v0, v1, hw]
        exact SemW_weak (ih (k + 1) ⟨by omega, hq⟩ (by omega)) (by simp only [PWeak_nil, PWeak_junk, PWeak_same, Int.cast_ofNat_Int, List.length_append, List.length_cons, List.length_nil, Nat.zero_add])
    · rw [if_neg (fun h => h1 (hta.1 h).1)] at hq
      simp only [PP, P1, P2, P3, P4, P5, P6, P7, P8, P9, P10, P11, P12, P13, P14, L1, P15, N1, N2, N3, N4, N5, N6, N7, I1, I2, I3, I4, I5, I6, I7, reduceIte, reduceCtorEq, h1]
      exact hq
  · rw [List.drop_eq_nil_of_le (by omega)] at hq
    simp only [PP, P1, P2, P3, P4, P5, P6, P7, P8, P9, P10, P11, P12, P13, P14, L1, P15, N1, N2, N3, N4, N5, N6, N7, I1, I2, I3, I4, I5, I6, I7, reduceIte, reduceCtorEq, c]
    exact hq

theorem refTrap_p {M : Mem} {K : PV → Mem → Prop} {f1 o1 f2 o2 f3 o3 f4 o4 f5 o5 : Bool} {ow pr keep : List Int} {side : Int} {su : List (List Int)} (B : Bnd ow pr su) (hb : keep.length < big) (hq : K (trapM ow pr su side keep) M) :
    SemC tab 16 [gmP f1 o1 f2 o2 f3 o3 f4 o4 ow pr su, p8 side, slI f5 o5 .i64 keep] M K := by
  refine SemC_pure T.h16 (by simp only [PP, P1, P2, P3, P4, P5, P6, P7, P8, P9, P10, P11, P12, P13, P14, L1, P15, N1, N2, N3, N4, N5, N6, N7, I1, I2, I3, I4, I5, I6, I7, reduceIte, reduceCtorEq]) ?_
  simp only [af16, PP, P1, P2, P3, P4, P5, P6, P7, P8, P9, P10, P11, P12, P13, P14, L1, P15, N1, N2, N3, N4, N5, N6, N7, I1, I2, I3, I4, I5, I6, I7, reduceIte, reduceCtorEq, trapM] at hq ⊢
  refine wrong_p T B hb ?_
  simp only [PP, P1, P2, P3, P4, P5, P6, P7, P8, P9, P10, P11, P12, P13, P14, L1, P15, N1, N2, N3, N4, N5, N6, N7, I1, I2, I3, I4, I5, I6, I7, reduceIte, reduceCtorEq]
  refine QIf.intro (fun c1 => ?_) (fun c1 => ?_)
  rotate_left
  · simp only [PP, P1, P2, P3, P4, P5, P6, P7, P8, P9, P10, P11, P12, P13, P14, L1, P15, N1, N2, N3, N4, N5, N6, N7, I1, I2, I3, I4, I5, I6, I7, reduceIte, reduceCtorEq, c1] at hq ⊢
    exact hq
  simp only [PP, P1, P2, P3, P4, P5, P6, P7, P8, P9, P10, P11, P12, P13, P14, L1, P15, N1, N2, N3, N4, N5, N6, N7, I1, I2, I3, I4, I5, I6, I7, reduceIte, reduceCtorEq, c1] at hq ⊢
  obtain ⟨V, hside, hpm⟩ := wrong_zero c1
  have hs := V.s
  have n1 := V.n1
  have kr : ∀ x ∈ keep, 0 ≤ x ∧ x < ow.length := fun x hx => by have := (posM_rise hpm).2 x hx; omega
  refine loop1 (fun (k : Nat) => k ≤ keep.length ∧ K (.tuple [.bool (trapL ow su side keep (keep.drop k)), p64 0]) M) (fun k => [.junk, p8 side, slI f5 o5 .i64 keep, .ptr 0 0 0, .junk, .junk, .junk, .junk, .junk, p64 k, .junk, .junk, .junk, .junk, .junk, .junk, .junk, .junk, .junk, .junk, .junk, .junk, .junk, .junk, .junk, .junk, .junk, .junk, .junk, .junk, .junk, .junk, .junk, .junk, .junk, .junk, .junk, .junk, .junk, .junk, .junk, .junk, .junk, .junk, .junk, .junk, .junk, .junk, .junk, .junk, .junk, .junk, .junk, .junk, .junk, .junk, .junk, .junk, .junk, .junk, .junk, .junk, .junk, .junk, .junk, .junk, .junk, .junk, .junk, .junk]) (fun _ => [.cells 0 0 [slI f1 o1 .u8 ow, slI f2 o2 .i64 pr, slR f3 o3 f4 o4 .i64 su]]) (fun k => keep.length - k) 0 ⟨by omega, hq⟩ (by simp only [PWeak_nil, PWeak_junk, PWeak_same, Int.cast_ofNat_Int, List.length_append, List.length_cons, List.length_nil, Nat.zero_add]) rfl ?_
  intro k ⟨hle, hq⟩ ih
  refine SemW_go (by kernel_rfl) ?_
  simp only [PP, P1, P2, P3, P4, P5, P6, P7, P8, P9, P10, P11, P12, P13, P14, L1, P15, N1, N2, N3, N4, N5, N6, N7, I1, I2, I3, I4, I5, I6, I7, reduceIte, reduceCtorEq]
  refine QIf.intro (fun c => ?_) (fun c => ?_)
  · have hk : k < keep.length := by omega
    have hkb : keep.length < 1000000000000 := hb
    have hw := wrap_succ (k := k) (by show _ < 1000000000000; omega)
    have k0 : (0 : Int) ≤ k := by omega
    obtain ⟨v, g1⟩ := some_of hk
    obtain ⟨v0, v1⟩ := kr v (List.mem_of_getElem? g1)
    obtain ⟨row, g2⟩ := some_of (xs := su) (k := v.toNat) (by omega)
    obtain ⟨o, g3⟩ := some_of (xs := ow) (k := v.toNat) (by omega)
    have e2 : su.getD v.toNat [] = row := by simp [List.getD, g2]
    have e3 : ow.getD v.toNat 0 = o := by simp [List.getD, g3]
    have vs : v < su.length := by omega
    have hrl : row.length < 1000000000000 := B.r _ (List.mem_of_getElem? g2)
    rw [drop_some g1, trapL] at hq
    have hta : trapAt ow su side keep v ↔ (∃ u ∈ row, u ∈ keep) ∧ (o = side → ∀ u ∈ row, u ∈ keep) := by unfold trapAt; rw [e2, e3]
    simp only [PP, P1, P2, P3, P4, P5, P6, P7, P8, P9, P10, P11, P12, P13, P14, L1, P15, N1, N2, N3, N4, N5, N6, N7, I1, I2, I3, I4, I5, I6, I7, reduceIte, reduceCtorEq, c, g1, k0]
    refine loop3 (fun (i a b : Nat) => i ≤ row.length ∧ a ≤ i ∧ b ≤ i ∧ (0 < a ↔ ∃ u ∈ row.take i, u ∈ keep) ∧ (0 < b ↔ ∃ u ∈ row.take i, ¬ u ∈ keep))
      (fun i a b => [.junk, p8 side, slI f5 o5 .i64 keep, .ptr 0 0 0, .junk, .junk, .junk, .junk, .junk, p64 k, p64 v, p64 a, p64 b, p64 i, .junk, .junk, .junk, .junk, .junk, .junk, .junk, .junk, .junk, .junk, .junk, .junk, .junk, .junk, .junk, .junk, .junk, .junk, .junk, .junk, .junk, .junk, .junk, .junk, .junk, .junk, .junk, .junk, .junk, .junk, .junk, .junk, .junk, .junk, .junk, .junk, .junk, .junk, .junk, .junk, .junk, .junk, .junk, .junk, .junk, .junk, .junk, .junk, .junk, .junk, .junk, .junk, .junk, .junk, .junk, .junk]) (fun _ _ _ => [.cells 0 0 [slI f1 o1 .u8 ow, slI f2 o2 .i64 pr, slR f3 o3 f4 o4 .i64 su]]) (fun i _ _ => row.length - i) 0 0 0 ⟨by omega, by omega, by omega, by simp, by simp⟩ (by simp only [PWeak_nil, PWeak_junk, PWeak_same, Int.cast_ofNat_Int, List.length_append, List.length_cons, List.length_nil, Nat.zero_add]) rfl ?_
    intro i a b ⟨hi, hai, hbi, ha, hb'⟩ ih2
    refine SemW_go (by kernel_rfl) ?_
    simp only [PP, P1, P2, P3, P4, P5, P6, P7, P8, P9, P10, P11, P12, P13, P14, L1, P15, N1, N2, N3, N4, N5, N6, N7, I1, I2, I3, I4, I5, I6, I7, reduceIte, reduceCtorEq, g2, v0, vs]
    refine QIf.intro (fun d => ?_) (fun d => ?_)
    · have hil : i < row.length := by omega
      have hwi := wrap_succ (k := i) (by show _ < 1000000000000; omega)
      have hwa := wrap_succ (k := a) (by show _ < 1000000000000; omega)
      have hwb := wrap_succ (k := b) (by show _ < 1000000000000; omega)
      have i0 : (0 : Int) ≤ i := by omega
      obtain ⟨u, g4⟩ := some_of hil
      simp only [PP, P1, P2, P3, P4, P5, P6, P7, P8, P9, P10, P11, P12, P13, P14, L1, P15, N1, N2, N3, N4, N5, N6, N7, I1, I2, I3, I4, I5, I6, I7, reduceIte, reduceCtorEq, d, g2, v0, vs, i0, g4]
      refine hasInt_p T hb ?_
      by_cases hu : u ∈ keep
      · simp only [PP, P1, P2, P3, P4, P5, P6, P7, P8, P9, P10, P11, P12, P13, P14, L1, P15, N1, N2, N3, N4, N5, N6, N7, I1, I2, I3, I4, I5, I6, I7, reduceIte, reduceCtorEq, hu, hwa, hwi]
        refine SemW_weak (ih2 (i + 1) (a + 1) b ⟨by omega, by omega, by omega, ?_, ?_⟩ (by omega)) (by simp only [PWeak_nil, PWeak_junk, PWeak_same, Int.cast_ofNat_Int, List.length_append, List.length_cons, List.length_nil, Nat.zero_add])
        · rw [take_some g4]
          exact ⟨fun _ => ⟨u, by simp, hu⟩, fun _ => by omega⟩
        · rw [take_some g4, hb']
          constructor
          · rintro ⟨x, h1, h2⟩; exact ⟨x, by simp [h1], h2⟩
          · rintro ⟨x, h1, h2⟩
            rcases List.mem_append.1 h1 with h | h
            · exact ⟨x, h, h2⟩
            · rw [List.mem_singleton] at h; subst h; exact absurd hu h2
      · simp only [PP, P1, P2, P3, P4, P5, P6, P7, P8, P9, P10, P11, P12, P13, P14, L1, P15, N1, N2, N3, N4, N5, N6, N7, I1, I2, I3, I4, I5, I6, I7, reduceIte, reduceCtorEq, hu, hwb, hwi]
        refine SemW_weak (ih2 (i + 1) a (b + 1) ⟨by omega, by omega, by omega, ?_, ?_⟩ (by omega)) (by simp only [PWeak_nil, PWeak_junk, PWeak_same, Int.cast_ofNat_Int, List.length_append, List.length_cons, List.length_nil, Nat.zero_add])
        · rw [take_some g4, ha]
          constructor
          · rintro ⟨x, h1, h2⟩; exact ⟨x, by simp [h1], h2⟩
          · rintro ⟨x, h1, h2⟩
            rcases List.mem_append.1 h1 with h | h
            · exact ⟨x, h, h2⟩
            · rw [List.mem_singleton] at h; subst h; exact absurd h2 hu
        · rw [take_some g4]
          exact ⟨fun _ => ⟨u, by simp, hu⟩, fun _ => by omega⟩
    · rw [List.take_of_length_le (by omega)] at ha hb'
      simp only [PP, P1, P2, P3, P4, P5, P6, P7, P8, P9, P10, P11, P12, P13, P14, L1, P15, N1, N2, N3, N4, N5, N6, N7, I1, I2, I3, I4, I5, I6, I7, reduceIte, reduceCtorEq, d, g3, v0, v1]
      by_cases h1 : ∃ u ∈ row, u ∈ keep
      · have a0 : ¬ (a : Int) = 0 := by have := ha.2 h1; omega
        by_cases h2 : o = side
        · by_cases h3 : ∀ u ∈ row, u ∈ keep
          · have b0 : ¬ (0 : Int) < b := fun h => by
              obtain ⟨x, q1, q2⟩ := hb'.1 (by omega)
              exact q2 (h3 x q1)
            rw [if_pos (hta.2 ⟨h1, fun _ => h3⟩)] at hq
            simp only [PP, P1, P2, P3, P4, P5, P6, P7, P8, P9, P10, P11, P12, P13, P14, L1, P15, N1, N2, N3, N4, N5, N6, N7, I1, I2, I3, I4, I5, I6, I7, reduceIte, reduceCtorEq, h2, a0, b0, hw]
            exact SemW_weak (ih (k + 1) ⟨by omega, hq⟩ (by omega)) (by simp only [PWeak_nil, PWeak_junk, PWeak_same, Int.cast_ofNat_Int, List.length_append, List.length_cons, List.length_nil, Nat.zero_add])
          · have b0 : (0 : Int) < b := by
              have : 0 < b := hb'.2 (Classical.byContradiction fun hn => h3 fun u hu => Classical.byContradiction fun q => hn ⟨u, hu, q⟩)
              omega
            rw [if_neg (fun h => h3 ((hta.1 h).2 h2))] at hq
            simp only [PP, P1, P2, P3, P4, P5, P6, P7, P8, P9, P10, P11, P12, P13, P14, L1, P15, N1, N2, N3, N4, N5, N6, N7, I1, I2, I3, I4, I5, I6, I7, reduceIte, reduceCtorEq, h2, b0]
            exact hq
        · rw [if_pos (hta.2 ⟨h1, fun h => absurd h h2⟩)] at hq
          simp only [PP, P1, P2, P3, P4, P5, P6, P7, P8, P9, P10, P11, P12, P13, P14, L1, P15, N1, N2, N3, N4, N5, N6, N7, I1, I2, I3, I4, I5, I6, I7, reduceIte, reduceCtorEq, h2, a0, hw]
          exact SemW_weak (ih (k + 1) ⟨by omega, hq⟩ (by omega)) (by simp only [PWeak_nil, PWeak_junk, PWeak_same, Int.cast_ofNat_Int, List.length_append, List.length_cons, List.length_nil, Nat.zero_add])
      · have a0 : (a : Int) = 0 := by
          have : ¬ 0 < a := fun h => h1 (ha.1 h)
          omega
        rw [if_neg (fun h => h1 (hta.1 h).1)] at hq
        by_cases h2 : o = side
        · simp only [PP, P1, P2, P3, P4, P5, P6, P7, P8, P9, P10, P11, P12, P13, P14, L1, P15, N1, N2, N3, N4, N5, N6, N7, I1, I2, I3, I4, I5, I6, I7, reduceIte, reduceCtorEq, h2, a0]
          refine QIf.intro (fun e => ?_) (fun e => ?_)
          · simp only [PP, P1, P2, P3, P4, P5, P6, P7, P8, P9, P10, P11, P12, P13, P14, L1, P15, N1, N2, N3, N4, N5, N6, N7, I1, I2, I3, I4, I5, I6, I7, reduceIte, reduceCtorEq, e, a0]; exact hq
          · simp only [PP, P1, P2, P3, P4, P5, P6, P7, P8, P9, P10, P11, P12, P13, P14, L1, P15, N1, N2, N3, N4, N5, N6, N7, I1, I2, I3, I4, I5, I6, I7, reduceIte, reduceCtorEq, e, a0]; exact hq
        · simp only [PP, P1, P2, P3, P4, P5, P6, P7, P8, P9, P10, P11, P12, P13, P14, L1, P15, N1, N2, N3, N4, N5, N6, N7, I1, I2, I3, I4, I5, I6, I7, reduceIte, reduceCtorEq, h2, a0]
          exact hq
  · rw [List.drop_eq_nil_of_le (by omega)] at hq
    simp only [PP, P1, P2, P3, P4, P5, P6, P7, P8, P9, P10, P11, P12, P13, P14, L1, P15, N1, N2, N3, N4, N5, N6, N7, I1, I2, I3, I4, I5, I6, I7, reduceIte, reduceCtorEq, c]
    exact hq
end
end Go.Am.Ar

set_option linter.unusedVariables false
set_option linter.unusedSimpArgs false
set_option maxRecDepth 10000
namespace Go.Am.Ar

section
variable {tab : FuncId → Option AF} (T : HasA tab)
include T

theorem overInts_o {w : PWd} {h h1 : H} (hw : ∀ b o, w.imm b = some o → b < h.next) {f : Bool} {xs : List Int} {v : AV} (hr : RepV w (slI f true .i64 xs) v) (hm : xs.length < big) (hi : Ovr w h h1) {Q : AV → H → Prop} (hq : ∀ h2, Ovr w h h2 → Kp w h1 h2 → Q (.tuple []) h2) :
    C (lim tab) 20 [v] h1 Q := by
  rw [C_fn T.h20]
  simp only [af20, W_skip, W_ret, W_regionD, WD_nil, WD_none, KPutD_eq, chkOk_nil, true_and, AO.effect, W_exit, W_region, W_seq, W_block, W_cond, PCondW_true, PCondW_false, PCondW_dec, PGuardW_tt, PGuardW_ff, PGuardW_tf, PGuardW_ft, PGuardW_tuple, PGuardW_dec_t, PGuardW_dec_f, pickV_true, pickV_false, pickV_dec, KSeq_eq, KBlock_eq, WL_eq, WO_nil, WO_none, WO_some, KPut_eq, KCall_eq, KRes_eq, KFalse, WS_call, WS_move, WS_pick, WS_alloc, WS_box, WS_build, WS_buildSlice, WS_load, WS_loadAgg, WS_store, WS_nilCheck, WS_bin, WS_eqB, WS_isNil, WS_eqCells, WS_un, WS_convInt, WS_mkFunc, WS_makeMap, WS_makeSlice, WS_slice, WS_fieldAddr, WS_field, WS_fieldN, WS_indexAddr, WS_indexAddrA, WS_index, WS_extract, WS_len, WS_append, WS_max, PPtr_ptr, PInt_int, PBool_bool, PSome_some, PAgg_agg, PTuple_tuple, PSlice_slice, PSlice_nil, PLen_nil, PLen_slice, PCall_func, put, tset, tget, ev, bnd, scrub, padTo, aresAll, ares, packRes, abin_add, abin_sub, abin_mul, abin_eql, abin_neq, abin_lss, abin_leq, abin_gtr, abin_geq, aun_not, maxV_two, List.length_cons, List.length_nil, List.replicate, List.cons_append, List.nil_append, List.append_nil, List.map_cons, List.map_nil, Nat.reduceAdd, Nat.reduceSub, ite_true, ite_false, if_true, if_false, Bool.false_eq_true, reduceIte, decide_true, decide_false, Bool.not_true, Bool.not_false, beq_self_eq_true, List.length_map, ne_eq, not_true_eq_false, not_false_eq_true]
  rw [W_scrub]
  simp only [scrub, tset]
  rcases ov_sl hr with ⟨rfl, hx⟩ | ⟨fl, b, off, ver, bcs, rfl, e1, e2, e3, e4⟩
  · rw [W_round]
    have hlt : ¬ (0 : Int) < 0 := by omega
    simp only [W_skip, W_ret, W_regionD, WD_nil, WD_none, KPutD_eq, chkOk_nil, true_and, AO.effect, W_exit, W_region, W_seq, W_block, W_cond, PCondW_true, PCondW_false, PCondW_dec, PGuardW_tt, PGuardW_ff, PGuardW_tf, PGuardW_ft, PGuardW_tuple, PGuardW_dec_t, PGuardW_dec_f, pickV_true, pickV_false, pickV_dec, KSeq_eq, KBlock_eq, WL_eq, WO_nil, WO_none, WO_some, KPut_eq, KCall_eq, KRes_eq, KFalse, WS_call, WS_move, WS_pick, WS_alloc, WS_box, WS_build, WS_buildSlice, WS_load, WS_loadAgg, WS_store, WS_nilCheck, WS_bin, WS_eqB, WS_isNil, WS_eqCells, WS_un, WS_convInt, WS_mkFunc, WS_makeMap, WS_makeSlice, WS_slice, WS_fieldAddr, WS_field, WS_fieldN, WS_indexAddr, WS_indexAddrA, WS_index, WS_extract, WS_len, WS_append, WS_max, PPtr_ptr, PInt_int, PBool_bool, PSome_some, PAgg_agg, PTuple_tuple, PSlice_slice, PSlice_nil, PLen_nil, PLen_slice, PCall_func, put, tset, tget, ev, bnd, scrub, padTo, aresAll, ares, packRes, abin_add, abin_sub, abin_mul, abin_eql, abin_neq, abin_lss, abin_leq, abin_gtr, abin_geq, aun_not, maxV_two, List.length_cons, List.length_nil, List.replicate, List.cons_append, List.nil_append, List.append_nil, List.map_cons, List.map_nil, Nat.reduceAdd, Nat.reduceSub, ite_true, ite_false, if_true, if_false, Bool.false_eq_true, reduceIte, decide_true, decide_false, Bool.not_true, Bool.not_false, beq_self_eq_true, List.length_map, ne_eq, not_true_eq_false, not_false_eq_true, hlt]
    exact hq h1 hi (.refl w h1)
  · refine (?_ : ∀ (m k : Nat) (h' : H), k + m = xs.length → Ovr w h h' → Kp w h1 h' → W (lim tab) (.loop ?sc ?x) [.slice fl 1 b off xs.length, .junk, i64 k, .junk, .junk, .junk, .junk, .junk, .junk, .junk, .junk, .junk] h' ?q1 ?q2 ?q3) xs.length 0 h1 (by simp) hi (.refl w h1)
    intro m
    induction m with
    | zero =>
      intro k h' hk hv hkp
      rw [W_round]
      have hlt : ¬ (k : Int) < xs.length := by omega
      simp only [W_skip, W_ret, W_regionD, WD_nil, WD_none, KPutD_eq, chkOk_nil, true_and, AO.effect, W_exit, W_region, W_seq, W_block, W_cond, PCondW_true, PCondW_false, PCondW_dec, PGuardW_tt, PGuardW_ff, PGuardW_tf, PGuardW_ft, PGuardW_tuple, PGuardW_dec_t, PGuardW_dec_f, pickV_true, pickV_false, pickV_dec, KSeq_eq, KBlock_eq, WL_eq, WO_nil, WO_none, WO_some, KPut_eq, KCall_eq, KRes_eq, KFalse, WS_call, WS_move, WS_pick, WS_alloc, WS_box, WS_build, WS_buildSlice, WS_load, WS_loadAgg, WS_store, WS_nilCheck, WS_bin, WS_eqB, WS_isNil, WS_eqCells, WS_un, WS_convInt, WS_mkFunc, WS_makeMap, WS_makeSlice, WS_slice, WS_fieldAddr, WS_field, WS_fieldN, WS_indexAddr, WS_indexAddrA, WS_index, WS_extract, WS_len, WS_append, WS_max, PPtr_ptr, PInt_int, PBool_bool, PSome_some, PAgg_agg, PTuple_tuple, PSlice_slice, PSlice_nil, PLen_nil, PLen_slice, PCall_func, put, tset, tget, ev, bnd, scrub, padTo, aresAll, ares, packRes, abin_add, abin_sub, abin_mul, abin_eql, abin_neq, abin_lss, abin_leq, abin_gtr, abin_geq, aun_not, maxV_two, List.length_cons, List.length_nil, List.replicate, List.cons_append, List.nil_append, List.append_nil, List.map_cons, List.map_nil, Nat.reduceAdd, Nat.reduceSub, ite_true, ite_false, if_true, if_false, Bool.false_eq_true, reduceIte, decide_true, decide_false, Bool.not_true, Bool.not_false, beq_self_eq_true, List.length_map, ne_eq, not_true_eq_false, not_false_eq_true, hlt]
      exact hq h' hv hkp
    | succ m ih =>
      intro k h' hk hv hkp
      rw [W_round]
      have hlt : (k : Int) < xs.length := by omega
      have h0 : (0 : Int) ≤ k := by omega
      have hwr := wrap_succ (k := k) (by omega)
      obtain ⟨y, z, hy, hz, hrz⟩ := e4 k (by simp; omega)
      obtain ⟨kz, nz, rfl⟩ := ov_int hy hrz
      obtain ⟨h2, hp, hv2, hkp2⟩ := hv.put hw e1 e2 (getSome_lt hz) (i64 (-77)) rfl ⟨_, _, hz⟩
      simp only [W_skip, W_ret, W_regionD, WD_nil, WD_none, KPutD_eq, chkOk_nil, true_and, AO.effect, W_exit, W_region, W_seq, W_block, W_cond, PCondW_true, PCondW_false, PCondW_dec, PGuardW_tt, PGuardW_ff, PGuardW_tf, PGuardW_ft, PGuardW_tuple, PGuardW_dec_t, PGuardW_dec_f, pickV_true, pickV_false, pickV_dec, KSeq_eq, KBlock_eq, WL_eq, WO_nil, WO_none, WO_some, KPut_eq, KCall_eq, KRes_eq, KFalse, WS_call, WS_move, WS_pick, WS_alloc, WS_box, WS_build, WS_buildSlice, WS_load, WS_loadAgg, WS_store, WS_nilCheck, WS_bin, WS_eqB, WS_isNil, WS_eqCells, WS_un, WS_convInt, WS_mkFunc, WS_makeMap, WS_makeSlice, WS_slice, WS_fieldAddr, WS_field, WS_fieldN, WS_indexAddr, WS_indexAddrA, WS_index, WS_extract, WS_len, WS_append, WS_max, PPtr_ptr, PInt_int, PBool_bool, PSome_some, PAgg_agg, PTuple_tuple, PSlice_slice, PSlice_nil, PLen_nil, PLen_slice, PCall_func, put, tset, tget, ev, bnd, scrub, padTo, aresAll, ares, packRes, abin_add, abin_sub, abin_mul, abin_eql, abin_neq, abin_lss, abin_leq, abin_gtr, abin_geq, aun_not, maxV_two, List.length_cons, List.length_nil, List.replicate, List.cons_append, List.nil_append, List.append_nil, List.map_cons, List.map_nil, Nat.reduceAdd, Nat.reduceSub, ite_true, ite_false, if_true, if_false, Bool.false_eq_true, reduceIte, decide_true, decide_false, Bool.not_true, Bool.not_false, beq_self_eq_true, List.length_map, ne_eq, not_true_eq_false, not_false_eq_true, pidx_slice, hlt, h0, true_and, and_self, Int.toNat_natCast, Nat.mul_one, AV.cells, hp, hwr]
      rw [W_scrub]
      simp only [scrub, tset]
      exact ih (k + 1) h2 (by omega) hv2 (hkp.trans hkp2)

theorem overInts_ok {f : Bool} {xs : List Int} (hm : xs.length < big) : OverOk tab 20 [slI f true .i64 xs] := by
  intro w h h1 args' hw ha hv
  match args', ha with
  | [v], ha => exact overInts_o T hw ha.hd hm hv fun h2 p q => ⟨p, q⟩
  | [], ha => exact absurd ha.len (by simp)
  | _ :: _ :: _, ha => exact absurd ha.len (by simp)
end
end Go.Am.Ar

set_option linter.unusedVariables false
set_option linter.unusedSimpArgs false
set_option maxRecDepth 10000
namespace Go.Am.Ar
open Go.Am renaming pchk → P1, pold → P2, PKNo → P3, ppack → P4, PObj.under → P5, pput → P6, ptset → P7, ptget → P8, pev → P9, ofAV → P10, ofAV1 → P11, ppad → P12, pfill → P13, prepl → P14, AO.effect → P15
open List renaming replicate → L1
open Nat renaming reduceAdd → N1, reduceSub → N2, reduceMul → N3, reduceLT → N4, reduceLeDiff → N5, reduceEqDiff → N6, reduceBEq → N7
open Int renaming reduceToNat → I1, reduceLT → I2, reduceLE → I3, reduceEq → I4, reduceAdd → I5, reduceSub → I6, reduceNeg → I7
theorem attrM_res (ow pr : List Int) (su : List (List Int)) (side : Int) (keep : List Int) : ∃ a b e, attrM ow pr su side keep = .tuple [slI false true .i64 a, slI false true .i64 b, p64 e] ∧ a.length ≤ ow.length ∧ b.length ≤ ow.length := by
  unfold attrM
  split
  · exact ⟨_, _, _, rfl, by rw [tabL_len]; omega, by rw [tabL_len]; omega⟩
  · exact ⟨[], [], _, rfl, by simp, by simp⟩
theorem trapM_res (ow pr : List Int) (su : List (List Int)) (side : Int) (keep : List Int) : ∃ b e, trapM ow pr su side keep = .tuple [.bool b, p64 e] := by
  unfold trapM
  split
  · exact ⟨_, _, rfl⟩
  · exact ⟨_, _, rfl⟩
section
variable {tab : FuncId → Option AF} (T : HasA tab)
include T

theorem matches_top {ow pr keep : List Int} {side : Int} {su : List (List Int)} (hs0 : 0 ≤ side) (ho : ∀ x ∈ ow, 0 ≤ x) : Top tab (af3).body (ppad [gmP false false false false false false false false ow pr su, p8 side, slI false false .i64 keep] (af3).ntmps) [] (PKLaw (af3).results) (PKLaw (af3).results) := by
  simp only [af3]
  refine Top_seq (Top_run ?_)
  simp only [PP, P1, P2, P3, P4, P5, P6, P7, P8, P9, P10, P11, P12, P13, P14, L1, P15, N1, N2, N3, N4, N5, N6, N7, I1, I2, I3, I4, I5, I6, I7, reduceIte, reduceCtorEq]
  refine Top_seq (Top_run ?_)
  simp only [PP, P1, P2, P3, P4, P5, P6, P7, P8, P9, P10, P11, P12, P13, P14, L1, P15, N1, N2, N3, N4, N5, N6, N7, I1, I2, I3, I4, I5, I6, I7, reduceIte, reduceCtorEq]
  refine long_p T (ls := [keep]) (by show 1 < 1000000000000; omega) ?_
  simp only [PP, P1, P2, P3, P4, P5, P6, P7, P8, P9, P10, P11, P12, P13, P14, L1, P15, N1, N2, N3, N4, N5, N6, N7, I1, I2, I3, I4, I5, I6, I7, reduceIte, reduceCtorEq]
  cases hl : longM ow pr su [keep] with
  | true =>
    simp only [PP, P1, P2, P3, P4, P5, P6, P7, P8, P9, P10, P11, P12, P13, P14, L1, P15, N1, N2, N3, N4, N5, N6, N7, I1, I2, I3, I4, I5, I6, I7, reduceIte, reduceCtorEq]
    refine SemC_true T.awake ?_
    simp only [PP, P1, P2, P3, P4, P5, P6, P7, P8, P9, P10, P11, P12, P13, P14, L1, P15, N1, N2, N3, N4, N5, N6, N7, I1, I2, I3, I4, I5, I6, I7, reduceIte, reduceCtorEq]
    unfold PKLaw
    simp only [PP, P1, P2, P3, P4, P5, P6, P7, P8, P9, P10, P11, P12, P13, P14, L1, P15, N1, N2, N3, N4, N5, N6, N7, I1, I2, I3, I4, I5, I6, I7, reduceIte, reduceCtorEq]
  | false =>
    have S := longM_false hl
    have B := S.bnd
    have hkl := S.l keep (by simp)
    have hkb : keep.length < big := by show _ < 1000000000000; omega
    have s1 := S.o
    simp only [PP, P1, P2, P3, P4, P5, P6, P7, P8, P9, P10, P11, P12, P13, P14, L1, P15, N1, N2, N3, N4, N5, N6, N7, I1, I2, I3, I4, I5, I6, I7, reduceIte, reduceCtorEq]
    refine Top_seq (Top_run ?_)
    simp only [PP, P1, P2, P3, P4, P5, P6, P7, P8, P9, P10, P11, P12, P13, P14, L1, P15, N1, N2, N3, N4, N5, N6, N7, I1, I2, I3, I4, I5, I6, I7, reduceIte, reduceCtorEq]
    refine copyGame_p T B ?_
    simp only [PP, P1, P2, P3, P4, P5, P6, P7, P8, P9, P10, P11, P12, P13, P14, L1, P15, N1, N2, N3, N4, N5, N6, N7, I1, I2, I3, I4, I5, I6, I7, reduceIte, reduceCtorEq]
    refine copyInts_p T hkb ?_
    simp only [PP, P1, P2, P3, P4, P5, P6, P7, P8, P9, P10, P11, P12, P13, P14, L1, P15, N1, N2, N3, N4, N5, N6, N7, I1, I2, I3, I4, I5, I6, I7, reduceIte, reduceCtorEq]
    refine Top_weak (b := [.junk, p8 side, slI false false .i64 keep, .ptr 0 0 0, .junk, .junk, .junk, .ptr 1 0 0, slI false true .i64 keep, .junk, .junk, .junk, .junk, .junk, .junk, .junk, .junk, .junk, .junk, .junk, .junk, .junk, .junk, .junk, .junk, .junk, .junk, .junk, .junk, .junk, .junk, .junk, .junk, .junk, .junk, .junk, .junk, .junk, .junk, .junk, .junk, .junk, .junk, .junk, .junk, .junk, .junk, .junk, .junk, .junk, .junk, .junk, .junk, .junk, .junk, .junk, .junk, .junk, .junk, .junk, .junk, .junk, .junk, .junk, .junk, .junk, .junk, .junk, .junk, .junk, .junk, .junk, .junk, .junk, .junk, .junk, .junk, .junk, .junk, .junk, .junk, .junk, .junk, .junk, .junk, .junk, .junk, .junk, .junk, .junk, .junk, .junk, .junk, .junk, .junk, .junk, .junk, .junk, .junk, .junk, .junk, .junk, .junk, .junk, .junk]) ?_ (by simp only [PWeak_nil, PWeak_junk, PWeak_same, Int.cast_ofNat_Int, List.length_append, List.length_cons, List.length_nil, Nat.zero_add]) rfl
    refine Top_age (b := [.junk, p8 side, slI false false .i64 keep, .ptr 0 0 0, .junk, .junk, .junk, .ptr 1 0 0, slI false false .i64 keep, .junk, .junk, .junk, .junk, .junk, .junk, .junk, .junk, .junk, .junk, .junk, .junk, .junk, .junk, .junk, .junk, .junk, .junk, .junk, .junk, .junk, .junk, .junk, .junk, .junk, .junk, .junk, .junk, .junk, .junk, .junk, .junk, .junk, .junk, .junk, .junk, .junk, .junk, .junk, .junk, .junk, .junk, .junk, .junk, .junk, .junk, .junk, .junk, .junk, .junk, .junk, .junk, .junk, .junk, .junk, .junk, .junk, .junk, .junk, .junk, .junk, .junk, .junk, .junk, .junk, .junk, .junk, .junk, .junk, .junk, .junk, .junk, .junk, .junk, .junk, .junk, .junk, .junk, .junk, .junk, .junk, .junk, .junk, .junk, .junk, .junk, .junk, .junk, .junk, .junk, .junk, .junk, .junk, .junk, .junk, .junk]) (N := [.cells 0 0 [slI false false .u8 ow, slI false false .i64 pr, slR false false false false .i64 su], .cells 0 1 [slI false false .u8 ow, slI false false .i64 pr, slR false false false false .i64 su]]) ?_ ?_ ?_
    · simp only [ageL, PV.age, ageL_ints, ageL_slI, ageL_bools, List.map_cons, List.map_nil, PObj.mapC]
    · simp only [ageL, PV.age, ageL_ints, ageL_slI, ageL_bools, List.map_cons, List.map_nil, PObj.mapC]
    obtain ⟨aa, ab, ae, ha, al1, al2⟩ := attrM_res ow pr su side keep
    obtain ⟨tb, te, ht⟩ := trapM_res ow pr su side keep
    have la : aa.length < big := by show _ < 1000000000000; omega
    have lb : ab.length < big := by show _ < 1000000000000; omega
    refine Top_seq (Top_run ?_)
    simp only [PP, P1, P2, P3, P4, P5, P6, P7, P8, P9, P10, P11, P12, P13, P14, L1, P15, N1, N2, N3, N4, N5, N6, N7, I1, I2, I3, I4, I5, I6, I7, reduceIte, reduceCtorEq]
    refine attract_p T B hkb hs0 ho ?_
    rw [ha]
    simp only [PP, P1, P2, P3, P4, P5, P6, P7, P8, P9, P10, P11, P12, P13, P14, L1, P15, N1, N2, N3, N4, N5, N6, N7, I1, I2, I3, I4, I5, I6, I7, reduceIte, reduceCtorEq]
    refine Top_seq (Top_run ?_)
    simp only [PP, P1, P2, P3, P4, P5, P6, P7, P8, P9, P10, P11, P12, P13, P14, L1, P15, N1, N2, N3, N4, N5, N6, N7, I1, I2, I3, I4, I5, I6, I7, reduceIte, reduceCtorEq]
    refine refAttract_p T B hkb ?_
    rw [ha]
    simp only [PP, P1, P2, P3, P4, P5, P6, P7, P8, P9, P10, P11, P12, P13, P14, L1, P15, N1, N2, N3, N4, N5, N6, N7, I1, I2, I3, I4, I5, I6, I7, reduceIte, reduceCtorEq]
    refine Top_seq (Top_run ?_)
    simp only [PP, P1, P2, P3, P4, P5, P6, P7, P8, P9, P10, P11, P12, P13, P14, L1, P15, N1, N2, N3, N4, N5, N6, N7, I1, I2, I3, I4, I5, I6, I7, reduceIte, reduceCtorEq]
    refine trap_p T B hkb ?_
    rw [ht]
    simp only [PP, P1, P2, P3, P4, P5, P6, P7, P8, P9, P10, P11, P12, P13, P14, L1, P15, N1, N2, N3, N4, N5, N6, N7, I1, I2, I3, I4, I5, I6, I7, reduceIte, reduceCtorEq]
    refine Top_seq (Top_run ?_)
    simp only [PP, P1, P2, P3, P4, P5, P6, P7, P8, P9, P10, P11, P12, P13, P14, L1, P15, N1, N2, N3, N4, N5, N6, N7, I1, I2, I3, I4, I5, I6, I7, reduceIte, reduceCtorEq]
    refine refTrap_p T B hkb ?_
    rw [ht]
    simp only [PP, P1, P2, P3, P4, P5, P6, P7, P8, P9, P10, P11, P12, P13, P14, L1, P15, N1, N2, N3, N4, N5, N6, N7, I1, I2, I3, I4, I5, I6, I7, reduceIte, reduceCtorEq]
    refine Top_seq (Top_run ?_)
    simp only [PP, P1, P2, P3, P4, P5, P6, P7, P8, P9, P10, P11, P12, P13, P14, L1, P15, N1, N2, N3, N4, N5, N6, N7, I1, I2, I3, I4, I5, I6, I7, reduceIte, reduceCtorEq]
    refine check_p T B ?_
    simp only [PP, P1, P2, P3, P4, P5, P6, P7, P8, P9, P10, P11, P12, P13, P14, L1, P15, N1, N2, N3, N4, N5, N6, N7, I1, I2, I3, I4, I5, I6, I7, reduceIte, reduceCtorEq]
    refine refCheck_p T B ?_
    simp only [PP, P1, P2, P3, P4, P5, P6, P7, P8, P9, P10, P11, P12, P13, P14, L1, P15, N1, N2, N3, N4, N5, N6, N7, I1, I2, I3, I4, I5, I6, I7, reduceIte, reduceCtorEq]
    refine equalInts_p T la ?_
    simp only [PP, P1, P2, P3, P4, P5, P6, P7, P8, P9, P10, P11, P12, P13, P14, L1, P15, N1, N2, N3, N4, N5, N6, N7, I1, I2, I3, I4, I5, I6, I7, reduceIte, reduceCtorEq]
    refine equalInts_p T lb ?_
    simp only [PP, P1, P2, P3, P4, P5, P6, P7, P8, P9, P10, P11, P12, P13, P14, L1, P15, N1, N2, N3, N4, N5, N6, N7, I1, I2, I3, I4, I5, I6, I7, reduceIte, reduceCtorEq]
    refine Top_weak (b := [.junk, .junk, slI false false .i64 keep, .ptr 0 0 0, .junk, .junk, .junk, .ptr 1 0 0, slI false false .i64 keep, slI false true .i64 aa, slI false true .i64 ab, .junk, .junk, .junk, .junk, .junk, .junk, .junk, .junk, .junk, .junk, .junk, .junk, .junk, .junk, .junk, .junk, .junk, .junk, .junk, .junk, .junk, .junk, .junk, .junk, .junk, .junk, .junk, .junk, .junk, .junk, .junk, .junk, .junk, .junk, .junk, .junk, .junk, .junk, .junk, .junk, .junk, .junk, .junk, .junk, .junk, .junk, .junk, .junk, .junk, .junk, .junk, .junk, .junk, .junk, .junk, .junk, .junk, .junk, .junk, .junk, .junk, .junk, .junk, .junk, .junk, .junk, .junk, .junk, .junk, .junk, .junk, .junk, .junk, .junk, .junk, .junk, .junk, .junk, .junk, .junk, .junk, .junk, .junk, .junk, .junk, .junk, .junk, .junk, .junk, .junk, .junk, .junk, .junk, .junk]) ?_ (by simp only [PWeak_nil, PWeak_junk, PWeak_same, Int.cast_ofNat_Int, List.length_append, List.length_cons, List.length_nil, Nat.zero_add]) rfl
    refine OvrTop_start ?_
    refine OvrTop_over1 (v := slI false true .i64 aa) rfl rfl (overInts_ok T la) ?_
    simp only [pput, ptset]
    refine OvrTop_over1 (v := slI false true .i64 ab) rfl rfl (overInts_ok T lb) ?_
    simp only [pput, ptset]
    refine OvrTop_end rfl rfl ?_
    simp only [swpL, PV.swp, swpL_ints, swpL_slI, swpL_bools, pput, ptset, List.map_cons, List.map_nil, PObj.mapC]
    refine Top_run ?_
    simp only [PP, P1, P2, P3, P4, P5, P6, P7, P8, P9, P10, P11, P12, P13, P14, L1, P15, N1, N2, N3, N4, N5, N6, N7, I1, I2, I3, I4, I5, I6, I7, reduceIte, reduceCtorEq]
    refine equalGame_p T B ?_
    simp only [PP, P1, P2, P3, P4, P5, P6, P7, P8, P9, P10, P11, P12, P13, P14, L1, P15, N1, N2, N3, N4, N5, N6, N7, I1, I2, I3, I4, I5, I6, I7, reduceIte, reduceCtorEq]
    refine equalInts_p T hkb ?_
    simp only [PP, P1, P2, P3, P4, P5, P6, P7, P8, P9, P10, P11, P12, P13, P14, L1, P15, N1, N2, N3, N4, N5, N6, N7, I1, I2, I3, I4, I5, I6, I7, reduceIte, reduceCtorEq]
    refine SemC_true T.awake ?_
    simp only [PP, P1, P2, P3, P4, P5, P6, P7, P8, P9, P10, P11, P12, P13, P14, L1, P15, N1, N2, N3, N4, N5, N6, N7, I1, I2, I3, I4, I5, I6, I7, reduceIte, reduceCtorEq]
    unfold PKLaw
    simp only [PP, P1, P2, P3, P4, P5, P6, P7, P8, P9, P10, P11, P12, P13, P14, L1, P15, N1, N2, N3, N4, N5, N6, N7, I1, I2, I3, I4, I5, I6, I7, reduceIte, reduceCtorEq]
end
end Go.Am.Ar

set_option linter.unusedVariables false
set_option linter.unusedSimpArgs false
namespace Go.Am.Ar

/-- The type of games. -/
abbrev gameTy : Ty := .pair (.slice (.int .u8)) (.pair (.slice (.int .i64)) (.pair (.slice (.slice (.int .i64))) .unit))

/-- What is known of the numbers of a game that a law gets. -/
structure Nums (ow pr : List Int) (su : List (List Int)) : Prop where
  o : ∀ x ∈ ow, 0 ≤ x ∧ x ≤ 255
  p : ∀ x ∈ pr, -9223372036854775808 ≤ x ∧ x ≤ 9223372036854775807
  s : ∀ r ∈ su, ∀ x ∈ r, -9223372036854775808 ≤ x ∧ x ≤ 9223372036854775807
  lo : ow.length ≤ 9223372036854775807
  lp : pr.length ≤ 9223372036854775807
  ls : su.length ≤ 9223372036854775807
  lr : ∀ r ∈ su, r.length ≤ 9223372036854775807

theorem arg_game {v : AV} {h : H} (hs : ShV gameTy v h) : ∃ (ow pr : List Int) (su : List (List Int)), RepV (wH h) (gmP false false false false false false false false ow pr su) v ∧ Nums ow pr su := by
  obtain ⟨avs, hs, rfl⟩ := hs
  obtain ⟨c1, c2, rfl, h1, c3, c4, rfl, h2, c5, c6, rfl, h3, h4⟩ := hs
  have h4 : c6 = [] := h4
  subst h4
  obtain ⟨vo, ow, rfl, p1, q1, r1⟩ := sh_intsP h1
  obtain ⟨vp, pr, rfl, p2, q2, r2⟩ := sh_intsP h2
  obtain ⟨vs, su, rfl, p3, q3, r3⟩ := sh_rowsP h3
  refine ⟨ow, pr, su, ?_, ⟨r1, r2, fun r hr => (r3 r hr).2, q1, q2, q3, fun r hr => (r3 r hr).1⟩⟩
  have := RepL.cons p1 (.cons p2 (.cons p3 (.nil (wH h))))
  exact .agg this.len this.get
theorem arg_ints {k : IntKind} {v : AV} {h : H} (hs : ShV (.slice (.int k)) v h) : ∃ (xs : List Int), RepV (wH h) (slI false false k xs) v ∧ xs.length ≤ 9223372036854775807 ∧ ∀ x ∈ xs, k.min ≤ x ∧ x ≤ k.max := by
  obtain ⟨avs, hs, rfl⟩ := hs
  obtain ⟨v, xs, rfl, p, q, r⟩ := sh_intsP hs
  exact ⟨xs, p, q, r⟩
theorem arg_int {k : IntKind} {v : AV} {h : H} (hs : ShV (.int k) v h) : ∃ (x : Int), v = .int k x ∧ RepV (wH h) (.int k x) v ∧ k.min ≤ x ∧ x ≤ k.max := by
  obtain ⟨avs, hs, rfl⟩ := hs
  obtain ⟨x, rfl, p⟩ := hs
  exact ⟨x, rfl, .int k x, p⟩

theorem run_of_C {tab : FuncId → Option AF} {g : FuncId} {args : List AV} {h : H} (hc : C (lim tab) g args h fun v _ => v = .bool true) : ∃ n h', (run tab n).call g args h = some (.bool true, h') := by
  unfold C at hc
  obtain ⟨v, h', he, rfl⟩ := hc
  obtain ⟨n, hn⟩ := (lim_call_iff tab).1 he
  exact ⟨n, h', hn⟩
theorem shVs2 {A B : Ty} {args : List AV} {h : H} (hs : ShVs [A, B] args h) : ∃ a b, args = [a, b] ∧ ShV A a h ∧ ShV B b h := by
  match args, hs with
  | [a, b], ⟨h1, h2, _⟩ => exact ⟨a, b, rfl, h1, h2⟩
theorem shVs3 {A B D : Ty} {args : List AV} {h : H} (hs : ShVs [A, B, D] args h) : ∃ a b d, args = [a, b, d] ∧ ShV A a h ∧ ShV B b h ∧ ShV D d h := by
  match args, hs with
  | [a, b, d], ⟨h1, h2, h3, _⟩ => exact ⟨a, b, d, rfl, h1, h2, h3⟩
theorem shVs4 {A B D E : Ty} {args : List AV} {h : H} (hs : ShVs [A, B, D, E] args h) : ∃ a b d e, args = [a, b, d, e] ∧ ShV A a h ∧ ShV B b h ∧ ShV D d h ∧ ShV E e h := by
  match args, hs with
  | [a, b, d, e], ⟨h1, h2, h3, h4, _⟩ => exact ⟨a, b, d, e, rfl, h1, h2, h3, h4⟩
theorem shVs5 {A B D E F : Ty} {args : List AV} {h : H} (hs : ShVs [A, B, D, E, F] args h) : ∃ a b d e f, args = [a, b, d, e, f] ∧ ShV A a h ∧ ShV B b h ∧ ShV D d h ∧ ShV E e h ∧ ShV F f h := by
  match args, hs with
  | [a, b, d, e, f], ⟨h1, h2, h3, h4, h5, _⟩ => exact ⟨a, b, d, e, f, rfl, h1, h2, h3, h4, h5⟩
end Go.Am.Ar

set_option linter.unusedVariables false
namespace Go.Am.Ar
theorem matches_all {tab : FuncId → Option AF} (T : HasA tab) (args : List AV) (h : H) (hs : ShVs [gameTy, .int .u8, .slice (.int .i64)] args h) :
    ∃ n h', (run tab n).call 3 args h = some (.bool true, h') := by
  obtain ⟨a, b, c, rfl, ha, hb, hc⟩ := shVs3 hs
  obtain ⟨ow, pr, su, r1, N⟩ := arg_game ha
  obtain ⟨side, rfl, r2, s0, s1⟩ := arg_int hb
  obtain ⟨keep, r3, _, _⟩ := arg_ints hc
  exact run_of_C (law_of_top T.h3 (.cons r1 (.cons r2 (.cons r3 (.nil _)))) (matches_top T s0 fun x hx => (N.o x hx).1))
end Go.Am.Ar
