/- Contracts of the small functions that games are checked with, and what goes with it. -/
import Derived.Test.YtjknfmndhbafoaaArenaAttractorsCode
import Derived.Test.YtjknfmndhbafoaaPmR
import Derived.Test.YtjknfmndhbafoaaPmC
set_option linter.unusedVariables false
set_option linter.unusedSimpArgs false
set_option maxRecDepth 10000
namespace Go.Am.Ar
open Go.Am renaming pchk → P1, pold → P2, PKNo → P3, ppack → P4, PObj.under → P5, pput → P6, ptset → P7, ptget → P8, pev → P9, ofAV → P10, ofAV1 → P11, ppad → P12, pfill → P13, prepl → P14, AO.effect → P15
open List renaming replicate → L1
open Nat renaming reduceAdd → N1, reduceSub → N2, reduceMul → N3, reduceLT → N4, reduceLeDiff → N5, reduceEqDiff → N6, reduceBEq → N7
open Int renaming reduceToNat → I1, reduceLT → I2, reduceLE → I3, reduceEq → I4, reduceAdd → I5, reduceSub → I6, reduceNeg → I7

abbrev big : Nat := 1000000000000
theorem wrap_succ {k : Nat} (h : k < big) : IntKind.i64.wrap ((k : Int) + 1) = ((k + 1 : Nat) : Int) := by
  have h : k < 1000000000000 := h
  rw [wrap64 (by omega) (by omega)]; omega
theorem drop_get' {α : Type} {xs : List α} {k : Nat} (h : k < xs.length) : xs.drop k = xs[k] :: xs.drop (k + 1) := List.drop_eq_getElem_cons h

theorem some_of {α : Type} {xs : List α} {k : Nat} (h : k < xs.length) : ∃ x, xs[k]? = some x := ⟨xs[k], List.getElem?_eq_getElem h⟩
theorem drop_some {α : Type} {xs : List α} {k : Nat} {x : α} (h : xs[k]? = some x) : xs.drop k = x :: xs.drop (k + 1) := by
  have hk := getSome_lt h
  rw [List.drop_eq_getElem_cons hk]
  rw [List.getElem?_eq_getElem hk] at h
  cases h; rfl
theorem take_some {α : Type} {xs : List α} {k : Nat} {x : α} (h : xs[k]? = some x) : xs.take (k + 1) = xs.take k ++ [x] := by simp [List.take_add_one, h]
theorem getD_some {xs : List Int} {k : Nat} {x : Int} (h : xs[k]? = some x) : xs.getD k 0 = x := by simp [List.getD, h]
def posM (n : Int) : Int → List Int → Bool
  | _, [] => true
  | last, v :: l => if v ≤ last then false else if n ≤ v then false else posM n v l

section
variable {tab : FuncId → Option AF} (T : HasA tab)
include T

theorem positions_p {M : Mem} {K : PV → Mem → Prop} {f o : Bool} {xs : List Int} {n : Int} (hm : xs.length < big) (hk : K (.bool (posM n (-1) xs)) M) :
    SemC tab 44 [slI f o .i64 xs, p64 n] M K := by
  refine SemC_pure T.h44 (by simp only [PP, P1, P2, P3, P4, P5, P6, P7, P8, P9, P10, P11, P12, P13, P14, L1, P15, N1, N2, N3, N4, N5, N6, N7, I1, I2, I3, I4, I5, I6, I7, reduceIte, reduceCtorEq]) ?_
  simp only [af44, PP, P1, P2, P3, P4, P5, P6, P7, P8, P9, P10, P11, P12, P13, P14, L1, P15, N1, N2, N3, N4, N5, N6, N7, I1, I2, I3, I4, I5, I6, I7, reduceIte, reduceCtorEq]
  refine loop2 (fun (k : Nat) (last : Int) => k ≤ xs.length ∧ K (.bool (posM n last (xs.drop k))) M) (fun k last => [.junk, p64 n, .junk, .junk, .junk, p64 last, .junk, .junk, slI f o .i64 xs, p64 xs.length, p64 k, .junk, .junk, .junk, .junk, .junk, .junk, .junk, .junk, .junk, .junk, .junk, .junk, .junk]) (fun _ _ => []) (fun k _ => xs.length - k) 0 (-1) ⟨by omega, hk⟩ (by simp only [PWeak_nil, PWeak_junk, PWeak_same, Int.cast_ofNat_Int, List.length_append, List.length_cons, List.length_nil, Nat.zero_add]) rfl ?_
  intro k last ⟨hk, hq⟩ ih
  refine SemW_go (by kernel_rfl) ?_
  simp only [PP, P1, P2, P3, P4, P5, P6, P7, P8, P9, P10, P11, P12, P13, P14, L1, P15, N1, N2, N3, N4, N5, N6, N7, I1, I2, I3, I4, I5, I6, I7, reduceIte, reduceCtorEq]
  refine QIf.intro (fun c => ?_) (fun c => ?_)
  · have hk' : k < xs.length := by omega
    rw [drop_get' hk'] at hq
    have hw := wrap_succ (k := k) (by omega)
    have hg : xs[k]? = some xs[k] := List.getElem?_eq_getElem hk'
    have h0 : (0 : Int) ≤ k := by omega
    simp only [PP, P1, P2, P3, P4, P5, P6, P7, P8, P9, P10, P11, P12, P13, P14, L1, P15, N1, N2, N3, N4, N5, N6, N7, I1, I2, I3, I4, I5, I6, I7, reduceIte, reduceCtorEq, posM, c, hg, hw, h0] at hq ⊢
    refine QIf.intro (fun h1 => ?_) (fun h1 => ?_)
    · simp only [PP, P1, P2, P3, P4, P5, P6, P7, P8, P9, P10, P11, P12, P13, P14, L1, P15, N1, N2, N3, N4, N5, N6, N7, I1, I2, I3, I4, I5, I6, I7, reduceIte, reduceCtorEq, h1] at hq ⊢
      exact hq
    · simp only [PP, P1, P2, P3, P4, P5, P6, P7, P8, P9, P10, P11, P12, P13, P14, L1, P15, N1, N2, N3, N4, N5, N6, N7, I1, I2, I3, I4, I5, I6, I7, reduceIte, reduceCtorEq, h1] at hq ⊢
      refine QIf.intro (fun h2 => ?_) (fun h2 => ?_)
      · simp only [PP, P1, P2, P3, P4, P5, P6, P7, P8, P9, P10, P11, P12, P13, P14, L1, P15, N1, N2, N3, N4, N5, N6, N7, I1, I2, I3, I4, I5, I6, I7, reduceIte, reduceCtorEq, h2] at hq ⊢
        exact hq
      · simp only [PP, P1, P2, P3, P4, P5, P6, P7, P8, P9, P10, P11, P12, P13, P14, L1, P15, N1, N2, N3, N4, N5, N6, N7, I1, I2, I3, I4, I5, I6, I7, reduceIte, reduceCtorEq, h2, hw] at hq ⊢
        exact SemW_weak (ih (k + 1) _ ⟨by omega, hq⟩ (by omega)) (by simp only [PWeak_nil, PWeak_junk, PWeak_same, Int.cast_ofNat_Int, List.length_append, List.length_cons, List.length_nil, Nat.zero_add])
  · simp only [PP, P1, P2, P3, P4, P5, P6, P7, P8, P9, P10, P11, P12, P13, P14, L1, P15, N1, N2, N3, N4, N5, N6, N7, I1, I2, I3, I4, I5, I6, I7, reduceIte, reduceCtorEq, c]
    rw [List.drop_eq_nil_of_le (by omega)] at hq
    exact hq

/-- A game. -/
abbrev gmP (f1 o1 f2 o2 f3 o3 f4 o4 : Bool) (ow pr : List Int) (su : List (List Int)) : PV := .agg [slI f1 o1 .u8 ow, slI f2 o2 .i64 pr, slR f3 o3 f4 o4 .i64 su]

structure Bnd (ow pr : List Int) (su : List (List Int)) : Prop where
  o : ow.length < big
  p : pr.length < big
  s : su.length < big
  r : ∀ row ∈ su, row.length < big

def checkLoop (ow pr : List Int) : Nat → List (List Int) → Int
  | _, [] => 0
  | k, row :: rest => if 1 < ow.getD k 0 then 6 else if pr.getD k 0 < 0 then 1 else if 16 < pr.getD k 0 then 1 else if (row.length : Int) = 0 then 13 else if posM ow.length (-1) row = false then 8 else checkLoop ow pr (k + 1) rest
/-- The first error of a game, or 0. -/
def checkM (ow pr : List Int) (su : List (List Int)) : Int :=
  if (ow.length : Int) = 0 then 3 else if 4096 < (ow.length : Int) then 10 else if (pr.length : Int) = ow.length then (if (su.length : Int) = ow.length then checkLoop ow pr 0 su else 2) else 2

omit T in
theorem checkM_len {ow pr : List Int} {su : List (List Int)} (h : checkM ow pr su = 0) : 0 < ow.length ∧ ow.length ≤ 4096 ∧ pr.length = ow.length ∧ su.length = ow.length ∧ checkLoop ow pr 0 su = 0 := by
  unfold checkM at h
  split at h
  · simp at h
  · split at h
    · simp at h
    · split at h
      · split at h
        · exact ⟨by omega, by omega, by omega, by omega, h⟩
        · simp at h
      · simp at h

theorem check_p {M : Mem} {K : PV → Mem → Prop} {f1 o1 f2 o2 f3 o3 f4 o4 : Bool} {ow pr : List Int} {su : List (List Int)} (B : Bnd ow pr su) (hq : K (p64 (checkM ow pr su)) M) :
    SemC tab 17 [gmP f1 o1 f2 o2 f3 o3 f4 o4 ow pr su] M K := by
  refine SemC_pure T.h17 (by simp only [PP, P1, P2, P3, P4, P5, P6, P7, P8, P9, P10, P11, P12, P13, P14, L1, P15, N1, N2, N3, N4, N5, N6, N7, I1, I2, I3, I4, I5, I6, I7, reduceIte, reduceCtorEq]) ?_
  simp only [af17, PP, P1, P2, P3, P4, P5, P6, P7, P8, P9, P10, P11, P12, P13, P14, L1, P15, N1, N2, N3, N4, N5, N6, N7, I1, I2, I3, I4, I5, I6, I7, reduceIte, reduceCtorEq, checkM] at hq ⊢
  refine QIf.intro (fun c1 => ?_) (fun c1 => ?_)
  · simp only [PP, P1, P2, P3, P4, P5, P6, P7, P8, P9, P10, P11, P12, P13, P14, L1, P15, N1, N2, N3, N4, N5, N6, N7, I1, I2, I3, I4, I5, I6, I7, reduceIte, reduceCtorEq, c1] at hq ⊢
    exact hq
  simp only [PP, P1, P2, P3, P4, P5, P6, P7, P8, P9, P10, P11, P12, P13, P14, L1, P15, N1, N2, N3, N4, N5, N6, N7, I1, I2, I3, I4, I5, I6, I7, reduceIte, reduceCtorEq, c1] at hq ⊢
  refine QIf.intro (fun c2 => ?_) (fun c2 => ?_)
  · simp only [PP, P1, P2, P3, P4, P5, P6, P7, P8, P9, P10, P11, P12, P13, P14, L1, P15, N1, N2, N3, N4, N5, N6, N7, I1, I2, I3, I4, I5, I6, I7, reduceIte, reduceCtorEq, c2] at hq ⊢
    exact hq
  simp only [PP, P1, P2, P3, P4, P5, P6, P7, P8, P9, P10, P11, P12, P13, P14, L1, P15, N1, N2, N3, N4, N5, N6, N7, I1, I2, I3, I4, I5, I6, I7, reduceIte, reduceCtorEq, c2] at hq ⊢
  refine QIf.intro (fun c3 => ?_) (fun c3 => ?_)
  rotate_left
  · simp only [PP, P1, P2, P3, P4, P5, P6, P7, P8, P9, P10, P11, P12, P13, P14, L1, P15, N1, N2, N3, N4, N5, N6, N7, I1, I2, I3, I4, I5, I6, I7, reduceIte, reduceCtorEq, c3] at hq ⊢
    exact hq
  simp only [PP, P1, P2, P3, P4, P5, P6, P7, P8, P9, P10, P11, P12, P13, P14, L1, P15, N1, N2, N3, N4, N5, N6, N7, I1, I2, I3, I4, I5, I6, I7, reduceIte, reduceCtorEq, c3] at hq ⊢
  refine QIf.intro (fun c4 => ?_) (fun c4 => ?_)
  rotate_left
  · simp only [PP, P1, P2, P3, P4, P5, P6, P7, P8, P9, P10, P11, P12, P13, P14, L1, P15, N1, N2, N3, N4, N5, N6, N7, I1, I2, I3, I4, I5, I6, I7, reduceIte, reduceCtorEq, c4] at hq ⊢
    exact hq
  simp only [PP, P1, P2, P3, P4, P5, P6, P7, P8, P9, P10, P11, P12, P13, P14, L1, P15, N1, N2, N3, N4, N5, N6, N7, I1, I2, I3, I4, I5, I6, I7, reduceIte, reduceCtorEq, c4] at hq ⊢
  have d4 : su.length = ow.length := by omega
  refine loop1 (fun (k : Nat) => k ≤ su.length ∧ K (p64 (checkLoop ow pr k (su.drop k))) M) (fun k => [.junk, .ptr 0 0 0, .junk, p64 ow.length, .junk, .junk, .junk, .junk, .junk, .junk, .junk, .junk, .junk, .junk, .junk, .junk, .junk, .junk, .junk, .junk, .junk, .junk, .junk, .junk, .junk, .junk, .junk, .junk, .junk, slR f3 o3 f4 o4 .i64 su, p64 ow.length, p64 k, .junk, .junk, .junk, .junk, .junk, .junk, .junk, .junk, .junk, .junk, .junk, .junk, .junk, .junk, .junk, .junk, .junk, .junk, .junk, .junk, .junk, .junk, .junk, .junk, .junk, .junk, .junk, .junk, .junk, .junk, .junk, .junk, .junk, .junk, .junk, .junk]) (fun _ => [.cells 0 0 [slI f1 o1 .u8 ow, slI f2 o2 .i64 pr, slR f3 o3 f4 o4 .i64 su]]) (fun k => su.length - k) 0 ⟨by omega, hq⟩ (by simp only [PWeak_nil, PWeak_junk, PWeak_same, Int.cast_ofNat_Int, d4]) rfl ?_
  intro k ⟨hle, hq⟩ ih
  refine SemW_go (by kernel_rfl) ?_
  simp only [PP, P1, P2, P3, P4, P5, P6, P7, P8, P9, P10, P11, P12, P13, P14, L1, P15, N1, N2, N3, N4, N5, N6, N7, I1, I2, I3, I4, I5, I6, I7, reduceIte, reduceCtorEq]
  refine QIf.intro (fun c => ?_) (fun c => ?_)
  · have hk' : k < su.length := by omega
    have g1 : su[k]? = some su[k] := List.getElem?_eq_getElem hk'
    have g2 : ow[k]? = some ow[k] := List.getElem?_eq_getElem (by omega)
    have g3 : pr[k]? = some pr[k] := List.getElem?_eq_getElem (by omega)
    have h0 : (0 : Int) ≤ k := by omega
    have hw := wrap_succ (k := k) (by have := B.s; omega)
    have e2 : ow.getD k 0 = ow[k] := by simp [List.getD, g2]
    have e3 : pr.getD k 0 = pr[k] := by simp [List.getD, g3]
    rw [drop_get' hk'] at hq
    have hks : (k : Int) < su.length := by omega
    have hkp : (k : Int) < pr.length := by omega
    simp only [PP, P1, P2, P3, P4, P5, P6, P7, P8, P9, P10, P11, P12, P13, P14, L1, P15, N1, N2, N3, N4, N5, N6, N7, I1, I2, I3, I4, I5, I6, I7, reduceIte, reduceCtorEq, checkLoop, c, g1, g2, g3, h0, e2, e3, hks, hkp] at hq ⊢
    refine QIf.intro (fun h1 => ?_) (fun h1 => ?_)
    · simp only [PP, P1, P2, P3, P4, P5, P6, P7, P8, P9, P10, P11, P12, P13, P14, L1, P15, N1, N2, N3, N4, N5, N6, N7, I1, I2, I3, I4, I5, I6, I7, reduceIte, reduceCtorEq, h1] at hq ⊢
      exact hq
    simp only [PP, P1, P2, P3, P4, P5, P6, P7, P8, P9, P10, P11, P12, P13, P14, L1, P15, N1, N2, N3, N4, N5, N6, N7, I1, I2, I3, I4, I5, I6, I7, reduceIte, reduceCtorEq, h1, g3, hkp, h0] at hq ⊢
    refine QIf.intro (fun h2 => ?_) (fun h2 => ?_)
    · simp only [PP, P1, P2, P3, P4, P5, P6, P7, P8, P9, P10, P11, P12, P13, P14, L1, P15, N1, N2, N3, N4, N5, N6, N7, I1, I2, I3, I4, I5, I6, I7, reduceIte, reduceCtorEq, h2] at hq ⊢
      exact hq
    simp only [PP, P1, P2, P3, P4, P5, P6, P7, P8, P9, P10, P11, P12, P13, P14, L1, P15, N1, N2, N3, N4, N5, N6, N7, I1, I2, I3, I4, I5, I6, I7, reduceIte, reduceCtorEq, h2, g3, hkp, h0] at hq ⊢
    refine QIf.intro (fun h3 => ?_) (fun h3 => ?_)
    · simp only [PP, P1, P2, P3, P4, P5, P6, P7, P8, P9, P10, P11, P12, P13, P14, L1, P15, N1, N2, N3, N4, N5, N6, N7, I1, I2, I3, I4, I5, I6, I7, reduceIte, reduceCtorEq, h3] at hq ⊢
      exact hq
    simp only [PP, P1, P2, P3, P4, P5, P6, P7, P8, P9, P10, P11, P12, P13, P14, L1, P15, N1, N2, N3, N4, N5, N6, N7, I1, I2, I3, I4, I5, I6, I7, reduceIte, reduceCtorEq, h3] at hq ⊢
    refine QIf.intro (fun h4 => ?_) (fun h4 => ?_)
    · simp only [PP, P1, P2, P3, P4, P5, P6, P7, P8, P9, P10, P11, P12, P13, P14, L1, P15, N1, N2, N3, N4, N5, N6, N7, I1, I2, I3, I4, I5, I6, I7, reduceIte, reduceCtorEq, h4] at hq ⊢
      exact hq
    simp only [PP, P1, P2, P3, P4, P5, P6, P7, P8, P9, P10, P11, P12, P13, P14, L1, P15, N1, N2, N3, N4, N5, N6, N7, I1, I2, I3, I4, I5, I6, I7, reduceIte, reduceCtorEq, h4] at hq ⊢
    refine positions_p T (B.r _ (List.getElem_mem hk')) ?_
    simp only [PP, P1, P2, P3, P4, P5, P6, P7, P8, P9, P10, P11, P12, P13, P14, L1, P15, N1, N2, N3, N4, N5, N6, N7, I1, I2, I3, I4, I5, I6, I7, reduceIte, reduceCtorEq]
    by_cases h5 : posM ow.length (-1) su[k] = true
    · simp only [PP, P1, P2, P3, P4, P5, P6, P7, P8, P9, P10, P11, P12, P13, P14, L1, P15, N1, N2, N3, N4, N5, N6, N7, I1, I2, I3, I4, I5, I6, I7, reduceIte, reduceCtorEq, h5, hw] at hq ⊢
      exact SemW_weak (ih (k + 1) ⟨by omega, hq⟩ (by omega)) (by simp only [PWeak_nil, PWeak_junk, PWeak_same, Int.cast_ofNat_Int, List.length_append, List.length_cons, List.length_nil, Nat.zero_add])
    · simp only [PP, P1, P2, P3, P4, P5, P6, P7, P8, P9, P10, P11, P12, P13, P14, L1, P15, N1, N2, N3, N4, N5, N6, N7, I1, I2, I3, I4, I5, I6, I7, reduceIte, reduceCtorEq, h5] at hq ⊢
      exact hq
  · simp only [PP, P1, P2, P3, P4, P5, P6, P7, P8, P9, P10, P11, P12, P13, P14, L1, P15, N1, N2, N3, N4, N5, N6, N7, I1, I2, I3, I4, I5, I6, I7, reduceIte, reduceCtorEq, c]
    rw [List.drop_eq_nil_of_le (by omega)] at hq
    exact hq
end
end Go.Am.Ar

set_option linter.unusedVariables false
set_option linter.unusedSimpArgs false
set_option maxRecDepth 10000
namespace Go.Am.Ar
open Go.Am renaming pchk → P1, pold → P2, PKNo → P3, ppack → P4, PObj.under → P5, pput → P6, ptset → P7, ptget → P8, pev → P9, ofAV → P10, ofAV1 → P11, ppad → P12, pfill → P13, prepl → P14, AO.effect → P15
open List renaming replicate → L1
open Nat renaming reduceAdd → N1, reduceSub → N2, reduceMul → N3, reduceLT → N4, reduceLeDiff → N5, reduceEqDiff → N6, reduceBEq → N7
open Int renaming reduceToNat → I1, reduceLT → I2, reduceLE → I3, reduceEq → I4, reduceAdd → I5, reduceSub → I6, reduceNeg → I7
section
variable {tab : FuncId → Option AF} (T : HasA tab)
include T

theorem equalInts_p {M : Mem} {K : PV → Mem → Prop} {f o f' o' : Bool} {xs ys : List Int} (hm : xs.length < big) (hk : K (.bool (decide (xs = ys))) M) :
    SemC tab 19 [slI f o .i64 xs, slI f' o' .i64 ys] M K := by
  refine SemC_pure T.h19 (by simp only [PP, P1, P2, P3, P4, P5, P6, P7, P8, P9, P10, P11, P12, P13, P14, L1, P15, N1, N2, N3, N4, N5, N6, N7, I1, I2, I3, I4, I5, I6, I7, reduceIte, reduceCtorEq]) ?_
  simp only [af19, PP, P1, P2, P3, P4, P5, P6, P7, P8, P9, P10, P11, P12, P13, P14, L1, P15, N1, N2, N3, N4, N5, N6, N7, I1, I2, I3, I4, I5, I6, I7, reduceIte, reduceCtorEq]
  refine QIf.intro (fun c1 => ?_) (fun c1 => ?_)
  · simp only [PP, P1, P2, P3, P4, P5, P6, P7, P8, P9, P10, P11, P12, P13, P14, L1, P15, N1, N2, N3, N4, N5, N6, N7, I1, I2, I3, I4, I5, I6, I7, reduceIte, reduceCtorEq, c1]
    have hl : xs.length = ys.length := by omega
    refine loop1 (fun (k : Nat) => k ≤ xs.length ∧ K (.bool (decide (xs.drop k = ys.drop k))) M) (fun k => [slI f o .i64 xs, slI f' o' .i64 ys, .junk, .junk, .junk, p64 k, .junk, .junk, .junk, .junk, .junk, .junk, .junk, .junk, .junk, .junk, .junk, .junk, .junk, .junk, .junk, .junk, .junk, .junk, .junk, .junk]) (fun _ => []) (fun k => xs.length - k) 0 ⟨by omega, hk⟩ (by simp only [PWeak_nil, PWeak_junk, PWeak_same, Int.cast_ofNat_Int, List.length_append, List.length_cons, List.length_nil, Nat.zero_add]) rfl ?_
    intro k ⟨hle, hq⟩ ih
    refine SemW_go (by kernel_rfl) ?_
    simp only [PP, P1, P2, P3, P4, P5, P6, P7, P8, P9, P10, P11, P12, P13, P14, L1, P15, N1, N2, N3, N4, N5, N6, N7, I1, I2, I3, I4, I5, I6, I7, reduceIte, reduceCtorEq]
    refine QIf.intro (fun c => ?_) (fun c => ?_)
    · have hk' : k < xs.length := by omega
      have hk2 : k < ys.length := by omega
      rw [drop_get' hk', drop_get' hk2] at hq
      have hw := wrap_succ (k := k) (by omega)
      have g1 : xs[k]? = some xs[k] := List.getElem?_eq_getElem hk'
      have g2 : ys[k]? = some ys[k] := List.getElem?_eq_getElem hk2
      have h0 : (0 : Int) ≤ k := by omega
      have cy : (k : Int) < ys.length := by omega
      simp only [PP, P1, P2, P3, P4, P5, P6, P7, P8, P9, P10, P11, P12, P13, P14, L1, P15, N1, N2, N3, N4, N5, N6, N7, I1, I2, I3, I4, I5, I6, I7, reduceIte, reduceCtorEq, c, g1, g2, hw, h0, cy] at hq ⊢
      refine QIf.intro (fun h1 => ?_) (fun h1 => ?_)
      · simp only [PP, P1, P2, P3, P4, P5, P6, P7, P8, P9, P10, P11, P12, P13, P14, L1, P15, N1, N2, N3, N4, N5, N6, N7, I1, I2, I3, I4, I5, I6, I7, reduceIte, reduceCtorEq, h1, hw, List.cons.injEq] at hq ⊢
        exact SemW_weak (ih (k + 1) ⟨by omega, hq⟩ (by omega)) (by simp only [PWeak_nil, PWeak_junk, PWeak_same, Int.cast_ofNat_Int, List.length_append, List.length_cons, List.length_nil, Nat.zero_add])
      · simp only [PP, P1, P2, P3, P4, P5, P6, P7, P8, P9, P10, P11, P12, P13, P14, L1, P15, N1, N2, N3, N4, N5, N6, N7, I1, I2, I3, I4, I5, I6, I7, reduceIte, reduceCtorEq, h1, List.cons.injEq] at hq ⊢
        exact hq
    · simp only [PP, P1, P2, P3, P4, P5, P6, P7, P8, P9, P10, P11, P12, P13, P14, L1, P15, N1, N2, N3, N4, N5, N6, N7, I1, I2, I3, I4, I5, I6, I7, reduceIte, reduceCtorEq, c]
      rw [List.drop_eq_nil_of_le (by omega), List.drop_eq_nil_of_le (by omega)] at hq
      simp only [PP, P1, P2, P3, P4, P5, P6, P7, P8, P9, P10, P11, P12, P13, P14, L1, P15, N1, N2, N3, N4, N5, N6, N7, I1, I2, I3, I4, I5, I6, I7, reduceIte, reduceCtorEq] at hq
      exact hq
  · simp only [PP, P1, P2, P3, P4, P5, P6, P7, P8, P9, P10, P11, P12, P13, P14, L1, P15, N1, N2, N3, N4, N5, N6, N7, I1, I2, I3, I4, I5, I6, I7, reduceIte, reduceCtorEq, c1]
    have hne : ¬ xs = ys := by rintro rfl; exact c1 rfl
    simp only [PP, P1, P2, P3, P4, P5, P6, P7, P8, P9, P10, P11, P12, P13, P14, L1, P15, N1, N2, N3, N4, N5, N6, N7, I1, I2, I3, I4, I5, I6, I7, reduceIte, reduceCtorEq, hne] at hk
    exact hk

theorem equalBytes_p {M : Mem} {K : PV → Mem → Prop} {f o f' o' : Bool} {xs ys : List Int} (hm : xs.length < big) (hk : K (.bool (decide (xs = ys))) M) :
    SemC tab 46 [slI f o .u8 xs, slI f' o' .u8 ys] M K := by
  refine SemC_pure T.h46 (by simp only [PP, P1, P2, P3, P4, P5, P6, P7, P8, P9, P10, P11, P12, P13, P14, L1, P15, N1, N2, N3, N4, N5, N6, N7, I1, I2, I3, I4, I5, I6, I7, reduceIte, reduceCtorEq]) ?_
  simp only [af46, PP, P1, P2, P3, P4, P5, P6, P7, P8, P9, P10, P11, P12, P13, P14, L1, P15, N1, N2, N3, N4, N5, N6, N7, I1, I2, I3, I4, I5, I6, I7, reduceIte, reduceCtorEq]
  refine QIf.intro (fun c1 => ?_) (fun c1 => ?_)
  · simp only [PP, P1, P2, P3, P4, P5, P6, P7, P8, P9, P10, P11, P12, P13, P14, L1, P15, N1, N2, N3, N4, N5, N6, N7, I1, I2, I3, I4, I5, I6, I7, reduceIte, reduceCtorEq, c1]
    have hl : xs.length = ys.length := by omega
    refine loop1 (fun (k : Nat) => k ≤ xs.length ∧ K (.bool (decide (xs.drop k = ys.drop k))) M) (fun k => [slI f o .u8 xs, slI f' o' .u8 ys, .junk, .junk, .junk, p64 k, .junk, .junk, .junk, .junk, .junk, .junk, .junk, .junk, .junk, .junk, .junk, .junk, .junk, .junk, .junk, .junk, .junk, .junk, .junk, .junk]) (fun _ => []) (fun k => xs.length - k) 0 ⟨by omega, hk⟩ (by simp only [PWeak_nil, PWeak_junk, PWeak_same, Int.cast_ofNat_Int, List.length_append, List.length_cons, List.length_nil, Nat.zero_add]) rfl ?_
    intro k ⟨hle, hq⟩ ih
    refine SemW_go (by kernel_rfl) ?_
    simp only [PP, P1, P2, P3, P4, P5, P6, P7, P8, P9, P10, P11, P12, P13, P14, L1, P15, N1, N2, N3, N4, N5, N6, N7, I1, I2, I3, I4, I5, I6, I7, reduceIte, reduceCtorEq]
    refine QIf.intro (fun c => ?_) (fun c => ?_)
    · have hk' : k < xs.length := by omega
      have hk2 : k < ys.length := by omega
      rw [drop_get' hk', drop_get' hk2] at hq
      have hw := wrap_succ (k := k) (by omega)
      have g1 : xs[k]? = some xs[k] := List.getElem?_eq_getElem hk'
      have g2 : ys[k]? = some ys[k] := List.getElem?_eq_getElem hk2
      have h0 : (0 : Int) ≤ k := by omega
      have cy : (k : Int) < ys.length := by omega
      simp only [PP, P1, P2, P3, P4, P5, P6, P7, P8, P9, P10, P11, P12, P13, P14, L1, P15, N1, N2, N3, N4, N5, N6, N7, I1, I2, I3, I4, I5, I6, I7, reduceIte, reduceCtorEq, c, g1, g2, hw, h0, cy] at hq ⊢
      refine QIf.intro (fun h1 => ?_) (fun h1 => ?_)
      · simp only [PP, P1, P2, P3, P4, P5, P6, P7, P8, P9, P10, P11, P12, P13, P14, L1, P15, N1, N2, N3, N4, N5, N6, N7, I1, I2, I3, I4, I5, I6, I7, reduceIte, reduceCtorEq, h1, hw, List.cons.injEq] at hq ⊢
        exact SemW_weak (ih (k + 1) ⟨by omega, hq⟩ (by omega)) (by simp only [PWeak_nil, PWeak_junk, PWeak_same, Int.cast_ofNat_Int, List.length_append, List.length_cons, List.length_nil, Nat.zero_add])
      · simp only [PP, P1, P2, P3, P4, P5, P6, P7, P8, P9, P10, P11, P12, P13, P14, L1, P15, N1, N2, N3, N4, N5, N6, N7, I1, I2, I3, I4, I5, I6, I7, reduceIte, reduceCtorEq, h1, List.cons.injEq] at hq ⊢
        exact hq
    · simp only [PP, P1, P2, P3, P4, P5, P6, P7, P8, P9, P10, P11, P12, P13, P14, L1, P15, N1, N2, N3, N4, N5, N6, N7, I1, I2, I3, I4, I5, I6, I7, reduceIte, reduceCtorEq, c]
      rw [List.drop_eq_nil_of_le (by omega), List.drop_eq_nil_of_le (by omega)] at hq
      simp only [PP, P1, P2, P3, P4, P5, P6, P7, P8, P9, P10, P11, P12, P13, P14, L1, P15, N1, N2, N3, N4, N5, N6, N7, I1, I2, I3, I4, I5, I6, I7, reduceIte, reduceCtorEq] at hq
      exact hq
  · simp only [PP, P1, P2, P3, P4, P5, P6, P7, P8, P9, P10, P11, P12, P13, P14, L1, P15, N1, N2, N3, N4, N5, N6, N7, I1, I2, I3, I4, I5, I6, I7, reduceIte, reduceCtorEq, c1]
    have hne : ¬ xs = ys := by rintro rfl; exact c1 rfl
    simp only [PP, P1, P2, P3, P4, P5, P6, P7, P8, P9, P10, P11, P12, P13, P14, L1, P15, N1, N2, N3, N4, N5, N6, N7, I1, I2, I3, I4, I5, I6, I7, reduceIte, reduceCtorEq, hne] at hk
    exact hk

theorem hasInt_p {M : Mem} {K : PV → Mem → Prop} {f o : Bool} {xs : List Int} {v : Int} (hm : xs.length < big) (hk : K (.bool (decide (v ∈ xs))) M) :
    SemC tab 24 [slI f o .i64 xs, p64 v] M K := by
  refine SemC_pure T.h24 (by simp only [PP, P1, P2, P3, P4, P5, P6, P7, P8, P9, P10, P11, P12, P13, P14, L1, P15, N1, N2, N3, N4, N5, N6, N7, I1, I2, I3, I4, I5, I6, I7, reduceIte, reduceCtorEq]) ?_
  simp only [af24, PP, P1, P2, P3, P4, P5, P6, P7, P8, P9, P10, P11, P12, P13, P14, L1, P15, N1, N2, N3, N4, N5, N6, N7, I1, I2, I3, I4, I5, I6, I7, reduceIte, reduceCtorEq]
  refine loop1 (fun (k : Nat) => k ≤ xs.length ∧ K (.bool (decide (v ∈ xs.drop k))) M) (fun k => [slI f o .i64 xs, p64 v, .junk, .junk, .junk, p64 k, .junk, .junk, .junk, .junk, .junk, .junk, .junk, .junk, .junk, .junk, .junk, .junk]) (fun _ => []) (fun k => xs.length - k) 0 ⟨by omega, hk⟩ (by simp only [PWeak_nil, PWeak_junk, PWeak_same, Int.cast_ofNat_Int, List.length_append, List.length_cons, List.length_nil, Nat.zero_add]) rfl ?_
  intro k ⟨hle, hq⟩ ih
  refine SemW_go (by kernel_rfl) ?_
  simp only [PP, P1, P2, P3, P4, P5, P6, P7, P8, P9, P10, P11, P12, P13, P14, L1, P15, N1, N2, N3, N4, N5, N6, N7, I1, I2, I3, I4, I5, I6, I7, reduceIte, reduceCtorEq]
  refine QIf.intro (fun c => ?_) (fun c => ?_)
  · have hk' : k < xs.length := by omega
    rw [drop_get' hk'] at hq
    have hw := wrap_succ (k := k) (by omega)
    have g1 : xs[k]? = some xs[k] := List.getElem?_eq_getElem hk'
    have h0 : (0 : Int) ≤ k := by omega
    simp only [PP, P1, P2, P3, P4, P5, P6, P7, P8, P9, P10, P11, P12, P13, P14, L1, P15, N1, N2, N3, N4, N5, N6, N7, I1, I2, I3, I4, I5, I6, I7, reduceIte, reduceCtorEq, c, g1, hw, h0, List.mem_cons] at hq ⊢
    refine QIf.intro (fun h1 => ?_) (fun h1 => ?_)
    · simp only [PP, P1, P2, P3, P4, P5, P6, P7, P8, P9, P10, P11, P12, P13, P14, L1, P15, N1, N2, N3, N4, N5, N6, N7, I1, I2, I3, I4, I5, I6, I7, reduceIte, reduceCtorEq, h1] at hq ⊢
      exact hq
    · have h1' : ¬ v = xs[k] := fun e => h1 e.symm
      simp only [PP, P1, P2, P3, P4, P5, P6, P7, P8, P9, P10, P11, P12, P13, P14, L1, P15, N1, N2, N3, N4, N5, N6, N7, I1, I2, I3, I4, I5, I6, I7, reduceIte, reduceCtorEq, h1, h1', hw] at hq ⊢
      exact SemW_weak (ih (k + 1) ⟨by omega, hq⟩ (by omega)) (by simp only [PWeak_nil, PWeak_junk, PWeak_same, Int.cast_ofNat_Int, List.length_append, List.length_cons, List.length_nil, Nat.zero_add])
  · simp only [PP, P1, P2, P3, P4, P5, P6, P7, P8, P9, P10, P11, P12, P13, P14, L1, P15, N1, N2, N3, N4, N5, N6, N7, I1, I2, I3, I4, I5, I6, I7, reduceIte, reduceCtorEq, c]
    rw [List.drop_eq_nil_of_le (by omega)] at hq
    simp only [PP, P1, P2, P3, P4, P5, P6, P7, P8, P9, P10, P11, P12, P13, P14, L1, P15, N1, N2, N3, N4, N5, N6, N7, I1, I2, I3, I4, I5, I6, I7, reduceIte, reduceCtorEq, List.not_mem_nil] at hq
    exact hq

theorem copyInts_p {M : Mem} {K : PV → Mem → Prop} {f o : Bool} {xs : List Int} (hm : xs.length < big) (hk : K (slI false true .i64 xs) M) :
    SemC tab 12 [slI f o .i64 xs] M K := by
  refine SemC_pure T.h12 (by simp only [PP, P1, P2, P3, P4, P5, P6, P7, P8, P9, P10, P11, P12, P13, P14, L1, P15, N1, N2, N3, N4, N5, N6, N7, I1, I2, I3, I4, I5, I6, I7, reduceIte, reduceCtorEq]) ?_
  have hb : xs.length < 1000000000000 := hm
  have b1 : xs.length * 8 ≤ 140737488355328 := by omega
  have b2 : xs.length ≤ 9223372036854775807 := by omega
  simp only [af12, PP, P1, P2, P3, P4, P5, P6, P7, P8, P9, P10, P11, P12, P13, P14, L1, P15, N1, N2, N3, N4, N5, N6, N7, I1, I2, I3, I4, I5, I6, I7, reduceIte, reduceCtorEq, b1, b2]
  exact hk
theorem copyBytes_p {M : Mem} {K : PV → Mem → Prop} {f o : Bool} {xs : List Int} (hm : xs.length < big) (hk : K (slI false true .u8 xs) M) :
    SemC tab 33 [slI f o .u8 xs] M K := by
  refine SemC_pure T.h33 (by simp only [PP, P1, P2, P3, P4, P5, P6, P7, P8, P9, P10, P11, P12, P13, P14, L1, P15, N1, N2, N3, N4, N5, N6, N7, I1, I2, I3, I4, I5, I6, I7, reduceIte, reduceCtorEq]) ?_
  have hb : xs.length < 1000000000000 := hm
  have b1 : xs.length ≤ 140737488355328 := by omega
  have b2 : xs.length ≤ 9223372036854775807 := by omega
  simp only [af33, PP, P1, P2, P3, P4, P5, P6, P7, P8, P9, P10, P11, P12, P13, P14, L1, P15, N1, N2, N3, N4, N5, N6, N7, I1, I2, I3, I4, I5, I6, I7, reduceIte, reduceCtorEq, b1, b2]
  exact hk

theorem equalRows_p {M : Mem} {K : PV → Mem → Prop} {f o f' o' g1 g2 g3 g4 : Bool} {xs ys : List (List Int)} (hm : xs.length < big) (hr : ∀ r ∈ xs, r.length < big) (hk : K (.bool (decide (xs = ys))) M) :
    SemC tab 47 [slR f o g1 g2 .i64 xs, slR f' o' g3 g4 .i64 ys] M K := by
  refine SemC_pure T.h47 (by simp only [PP, P1, P2, P3, P4, P5, P6, P7, P8, P9, P10, P11, P12, P13, P14, L1, P15, N1, N2, N3, N4, N5, N6, N7, I1, I2, I3, I4, I5, I6, I7, reduceIte, reduceCtorEq]) ?_
  simp only [af47, PP, P1, P2, P3, P4, P5, P6, P7, P8, P9, P10, P11, P12, P13, P14, L1, P15, N1, N2, N3, N4, N5, N6, N7, I1, I2, I3, I4, I5, I6, I7, reduceIte, reduceCtorEq]
  refine QIf.intro (fun c1 => ?_) (fun c1 => ?_)
  · simp only [PP, P1, P2, P3, P4, P5, P6, P7, P8, P9, P10, P11, P12, P13, P14, L1, P15, N1, N2, N3, N4, N5, N6, N7, I1, I2, I3, I4, I5, I6, I7, reduceIte, reduceCtorEq, c1]
    have hl : xs.length = ys.length := by omega
    refine loop1 (fun (k : Nat) => k ≤ xs.length ∧ K (.bool (decide (xs.drop k = ys.drop k))) M) (fun k => [slR f o g1 g2 .i64 xs, slR f' o' g3 g4 .i64 ys, .junk, .junk, .junk, p64 k, .junk, .junk, .junk, .junk, .junk, .junk, .junk, .junk, .junk, .junk, .junk, .junk, .junk, .junk, .junk, .junk, .junk, .junk, .junk, .junk, .junk]) (fun _ => []) (fun k => xs.length - k) 0 ⟨by omega, hk⟩ (by simp only [PWeak_nil, PWeak_junk, PWeak_same, Int.cast_ofNat_Int, List.length_append, List.length_cons, List.length_nil, Nat.zero_add]) rfl ?_
    intro k ⟨hle, hq⟩ ih
    refine SemW_go (by kernel_rfl) ?_
    simp only [PP, P1, P2, P3, P4, P5, P6, P7, P8, P9, P10, P11, P12, P13, P14, L1, P15, N1, N2, N3, N4, N5, N6, N7, I1, I2, I3, I4, I5, I6, I7, reduceIte, reduceCtorEq]
    refine QIf.intro (fun c => ?_) (fun c => ?_)
    · have hk' : k < xs.length := by omega
      have hk2 : k < ys.length := by omega
      rw [drop_get' hk', drop_get' hk2] at hq
      have hw := wrap_succ (k := k) (by omega)
      have q1 : xs[k]? = some xs[k] := List.getElem?_eq_getElem hk'
      have q2 : ys[k]? = some ys[k] := List.getElem?_eq_getElem hk2
      have h0 : (0 : Int) ≤ k := by omega
      have cy : (k : Int) < ys.length := by omega
      simp only [PP, P1, P2, P3, P4, P5, P6, P7, P8, P9, P10, P11, P12, P13, P14, L1, P15, N1, N2, N3, N4, N5, N6, N7, I1, I2, I3, I4, I5, I6, I7, reduceIte, reduceCtorEq, c, q1, q2, hw, h0, cy] at hq ⊢
      refine equalInts_p T (hr _ (List.getElem_mem hk')) ?_
      by_cases h1 : xs[k] = ys[k]
      · simp only [PP, P1, P2, P3, P4, P5, P6, P7, P8, P9, P10, P11, P12, P13, P14, L1, P15, N1, N2, N3, N4, N5, N6, N7, I1, I2, I3, I4, I5, I6, I7, reduceIte, reduceCtorEq, h1, hw, List.cons.injEq] at hq ⊢
        exact SemW_weak (ih (k + 1) ⟨by omega, hq⟩ (by omega)) (by simp only [PWeak_nil, PWeak_junk, PWeak_same, Int.cast_ofNat_Int, List.length_append, List.length_cons, List.length_nil, Nat.zero_add])
      · simp only [PP, P1, P2, P3, P4, P5, P6, P7, P8, P9, P10, P11, P12, P13, P14, L1, P15, N1, N2, N3, N4, N5, N6, N7, I1, I2, I3, I4, I5, I6, I7, reduceIte, reduceCtorEq, h1, List.cons.injEq] at hq ⊢
        exact hq
    · simp only [PP, P1, P2, P3, P4, P5, P6, P7, P8, P9, P10, P11, P12, P13, P14, L1, P15, N1, N2, N3, N4, N5, N6, N7, I1, I2, I3, I4, I5, I6, I7, reduceIte, reduceCtorEq, c]
      rw [List.drop_eq_nil_of_le (by omega), List.drop_eq_nil_of_le (by omega)] at hq
      simp only [PP, P1, P2, P3, P4, P5, P6, P7, P8, P9, P10, P11, P12, P13, P14, L1, P15, N1, N2, N3, N4, N5, N6, N7, I1, I2, I3, I4, I5, I6, I7, reduceIte, reduceCtorEq] at hq
      exact hq
  · simp only [PP, P1, P2, P3, P4, P5, P6, P7, P8, P9, P10, P11, P12, P13, P14, L1, P15, N1, N2, N3, N4, N5, N6, N7, I1, I2, I3, I4, I5, I6, I7, reduceIte, reduceCtorEq, c1]
    have hne : ¬ xs = ys := by rintro rfl; exact c1 rfl
    simp only [PP, P1, P2, P3, P4, P5, P6, P7, P8, P9, P10, P11, P12, P13, P14, L1, P15, N1, N2, N3, N4, N5, N6, N7, I1, I2, I3, I4, I5, I6, I7, reduceIte, reduceCtorEq, hne] at hk
    exact hk

theorem copyRows_p {M : Mem} {K : PV → Mem → Prop} {f o g1 g2 : Bool} {su : List (List Int)} (hm : su.length < big) (hr : ∀ r ∈ su, r.length < big) (hk : K (slR false true false true .i64 su) M) :
    SemC tab 34 [slR f o g1 g2 .i64 su] M K := by
  refine SemC_pure T.h34 (by simp only [PP, P1, P2, P3, P4, P5, P6, P7, P8, P9, P10, P11, P12, P13, P14, L1, P15, N1, N2, N3, N4, N5, N6, N7, I1, I2, I3, I4, I5, I6, I7, reduceIte, reduceCtorEq]) ?_
  simp only [af34, PP, P1, P2, P3, P4, P5, P6, P7, P8, P9, P10, P11, P12, P13, P14, L1, P15, N1, N2, N3, N4, N5, N6, N7, I1, I2, I3, I4, I5, I6, I7, reduceIte, reduceCtorEq]
  refine SemW_re (GStep.nil 3 1 rfl rfl rfl) ?_
  refine loop3 (fun (k g : Nat) (acc : List (List Int)) => k ≤ su.length ∧ acc = su.take k) (fun k g acc => [slR f o g1 g2 .i64 su, .junk, .junk, .ref 0 g 1 0 acc.length, p64 k, .junk, .junk, .junk, .junk, .junk, .junk, .junk, .junk, .junk, .junk, .junk, .junk, .junk, .junk, .junk]) (fun k g acc => [.cells g 0 (acc.map (slI false true .i64))]) (fun k _ _ => su.length - k) 0 0 [] ⟨by omega, by simp⟩ (by simp only [ptset, PP, P1, P2, P3, P4, P5, P6, P7, P8, P9, P10, P11, P12, P13, P14, L1, P15, N1, N2, N3, N4, N5, N6, N7, I1, I2, I3, I4, I5, I6, I7, reduceIte, reduceCtorEq, PWeak_nil, PWeak_junk, PWeak_same]) rfl ?_
  intro k g acc ⟨hle, hacc⟩ ih
  refine SemW_go (by kernel_rfl) ?_
  simp only [PP, P1, P2, P3, P4, P5, P6, P7, P8, P9, P10, P11, P12, P13, P14, L1, P15, N1, N2, N3, N4, N5, N6, N7, I1, I2, I3, I4, I5, I6, I7, reduceIte, reduceCtorEq]
  refine QIf.intro (fun c => ?_) (fun c => ?_)
  · have hk' : k < su.length := by omega
    have hw := wrap_succ (k := k) (by omega)
    have q1 : su[k]? = some su[k] := List.getElem?_eq_getElem hk'
    have h0 : (0 : Int) ≤ k := by omega
    simp only [PP, P1, P2, P3, P4, P5, P6, P7, P8, P9, P10, P11, P12, P13, P14, L1, P15, N1, N2, N3, N4, N5, N6, N7, I1, I2, I3, I4, I5, I6, I7, reduceIte, reduceCtorEq, c, q1, h0]
    refine copyInts_p T (hr _ (List.getElem_mem hk')) ?_
    have hl : acc.length = k := by rw [hacc]; simp; omega
    have hb : su.length < 1000000000000 := hm
    have b1 : (acc.length + 1) * 24 ≤ 140737488355328 := by omega
    have b2 : acc.length + 1 ≤ 9223372036854775807 := by omega
    simp only [PP, P1, P2, P3, P4, P5, P6, P7, P8, P9, P10, P11, P12, P13, P14, L1, P15, N1, N2, N3, N4, N5, N6, N7, I1, I2, I3, I4, I5, I6, I7, reduceIte, reduceCtorEq, b1, b2, hw]
    refine SemW_to (ih (k + 1) (g + 1) (acc ++ [su[k]]) ⟨by omega, ?_⟩ (by omega)) (by simp only [PWeak_nil, PWeak_junk, PWeak_same, Int.cast_ofNat_Int, List.length_append, List.length_cons, List.length_nil, Nat.zero_add]) (by simp only [List.map_append, List.map_cons, List.map_nil])
    rw [hacc, List.take_add_one]; simp [hk']
  · have : acc = su := by rw [hacc]; exact List.take_of_length_le (by omega)
    subst this
    simp only [PP, P1, P2, P3, P4, P5, P6, P7, P8, P9, P10, P11, P12, P13, P14, L1, P15, N1, N2, N3, N4, N5, N6, N7, I1, I2, I3, I4, I5, I6, I7, reduceIte, reduceCtorEq, c]
    exact hk
end
end Go.Am.Ar

set_option linter.unusedVariables false
set_option linter.unusedSimpArgs false
set_option maxRecDepth 10000
namespace Go.Am.Ar
open Go.Am renaming pchk → P1, pold → P2, PKNo → P3, ppack → P4, PObj.under → P5, pput → P6, ptset → P7, ptget → P8, pev → P9, ofAV → P10, ofAV1 → P11, ppad → P12, pfill → P13, prepl → P14, AO.effect → P15
open List renaming replicate → L1
open Nat renaming reduceAdd → N1, reduceSub → N2, reduceMul → N3, reduceLT → N4, reduceLeDiff → N5, reduceEqDiff → N6, reduceBEq → N7
open Int renaming reduceToNat → I1, reduceLT → I2, reduceLE → I3, reduceEq → I4, reduceAdd → I5, reduceSub → I6, reduceNeg → I7
section
variable {tab : FuncId → Option AF} (T : HasA tab)
include T

theorem copyGame_p {M : Mem} {K : PV → Mem → Prop} {f1 o1 f2 o2 f3 o3 f4 o4 : Bool} {ow pr : List Int} {su : List (List Int)} (B : Bnd ow pr su) (hk : K (gmP false true false true false true false true ow pr su) M) :
    SemC tab 11 [gmP f1 o1 f2 o2 f3 o3 f4 o4 ow pr su] M K := by
  refine SemC_pure T.h11 (by simp only [PP, P1, P2, P3, P4, P5, P6, P7, P8, P9, P10, P11, P12, P13, P14, L1, P15, N1, N2, N3, N4, N5, N6, N7, I1, I2, I3, I4, I5, I6, I7, reduceIte, reduceCtorEq]) ?_
  simp only [af11, PP, P1, P2, P3, P4, P5, P6, P7, P8, P9, P10, P11, P12, P13, P14, L1, P15, N1, N2, N3, N4, N5, N6, N7, I1, I2, I3, I4, I5, I6, I7, reduceIte, reduceCtorEq]
  refine copyBytes_p T B.o ?_
  simp only [PP, P1, P2, P3, P4, P5, P6, P7, P8, P9, P10, P11, P12, P13, P14, L1, P15, N1, N2, N3, N4, N5, N6, N7, I1, I2, I3, I4, I5, I6, I7, reduceIte, reduceCtorEq]
  refine copyInts_p T B.p ?_
  simp only [PP, P1, P2, P3, P4, P5, P6, P7, P8, P9, P10, P11, P12, P13, P14, L1, P15, N1, N2, N3, N4, N5, N6, N7, I1, I2, I3, I4, I5, I6, I7, reduceIte, reduceCtorEq]
  refine copyRows_p T B.s B.r ?_
  simp only [PP, P1, P2, P3, P4, P5, P6, P7, P8, P9, P10, P11, P12, P13, P14, L1, P15, N1, N2, N3, N4, N5, N6, N7, I1, I2, I3, I4, I5, I6, I7, reduceIte, reduceCtorEq]
  exact hk

theorem equalGame_p {M : Mem} {K : PV → Mem → Prop} {f1 o1 f2 o2 f3 o3 f4 o4 e1 p1 e2 p2 e3 p3 e4 p4 : Bool} {ow pr ow' pr' : List Int} {su su' : List (List Int)} (B : Bnd ow pr su) (hk : K (.bool (decide (ow = ow' ∧ pr = pr' ∧ su = su'))) M) :
    SemC tab 21 [gmP f1 o1 f2 o2 f3 o3 f4 o4 ow pr su, gmP e1 p1 e2 p2 e3 p3 e4 p4 ow' pr' su'] M K := by
  refine SemC_pure T.h21 (by simp only [PP, P1, P2, P3, P4, P5, P6, P7, P8, P9, P10, P11, P12, P13, P14, L1, P15, N1, N2, N3, N4, N5, N6, N7, I1, I2, I3, I4, I5, I6, I7, reduceIte, reduceCtorEq]) ?_
  simp only [af21, PP, P1, P2, P3, P4, P5, P6, P7, P8, P9, P10, P11, P12, P13, P14, L1, P15, N1, N2, N3, N4, N5, N6, N7, I1, I2, I3, I4, I5, I6, I7, reduceIte, reduceCtorEq]
  refine equalBytes_p T B.o ?_
  by_cases h1 : ow = ow'
  · simp only [PP, P1, P2, P3, P4, P5, P6, P7, P8, P9, P10, P11, P12, P13, P14, L1, P15, N1, N2, N3, N4, N5, N6, N7, I1, I2, I3, I4, I5, I6, I7, reduceIte, reduceCtorEq, h1] at hk ⊢
    refine equalInts_p T B.p ?_
    by_cases h2 : pr = pr'
    · simp only [PP, P1, P2, P3, P4, P5, P6, P7, P8, P9, P10, P11, P12, P13, P14, L1, P15, N1, N2, N3, N4, N5, N6, N7, I1, I2, I3, I4, I5, I6, I7, reduceIte, reduceCtorEq, h2] at hk ⊢
      refine equalRows_p T B.s B.r ?_
      simp only [PP, P1, P2, P3, P4, P5, P6, P7, P8, P9, P10, P11, P12, P13, P14, L1, P15, N1, N2, N3, N4, N5, N6, N7, I1, I2, I3, I4, I5, I6, I7, reduceIte, reduceCtorEq]
      exact hk
    · simp only [PP, P1, P2, P3, P4, P5, P6, P7, P8, P9, P10, P11, P12, P13, P14, L1, P15, N1, N2, N3, N4, N5, N6, N7, I1, I2, I3, I4, I5, I6, I7, reduceIte, reduceCtorEq, h2] at hk ⊢
      exact hk
  · simp only [PP, P1, P2, P3, P4, P5, P6, P7, P8, P9, P10, P11, P12, P13, P14, L1, P15, N1, N2, N3, N4, N5, N6, N7, I1, I2, I3, I4, I5, I6, I7, reduceIte, reduceCtorEq, h1] at hk ⊢
    exact hk
end
end Go.Am.Ar

set_option linter.unusedVariables false
set_option linter.unusedSimpArgs false
set_option maxRecDepth 10000
namespace Go.Am.Ar
open Go.Am renaming pchk → P1, pold → P2, PKNo → P3, ppack → P4, PObj.under → P5, pput → P6, ptset → P7, ptget → P8, pev → P9, ofAV → P10, ofAV1 → P11, ppad → P12, pfill → P13, prepl → P14, AO.effect → P15
open List renaming replicate → L1
open Nat renaming reduceAdd → N1, reduceSub → N2, reduceMul → N3, reduceLT → N4, reduceLeDiff → N5, reduceEqDiff → N6, reduceBEq → N7
open Int renaming reduceToNat → I1, reduceLT → I2, reduceLE → I3, reduceEq → I4, reduceAdd → I5, reduceSub → I6, reduceNeg → I7

def wrongM (ow pr : List Int) (su : List (List Int)) (side : Int) (keep : List Int) : Int :=
  if checkM ow pr su = 0 then (if 1 < side then 6 else if posM ow.length (-1) keep = true then 0 else 8) else checkM ow pr su
def anyLong : List (List Int) → Bool
  | [] => false
  | r :: l => if 40 < (r.length : Int) then true else anyLong l
def longM (ow pr : List Int) (su ls : List (List Int)) : Bool :=
  if 30 < (ow.length : Int) then true else if 40 < (pr.length : Int) then true else if 40 < (su.length : Int) then true else if anyLong su = true then true else anyLong ls
theorem anyLong_false : ∀ {l : List (List Int)}, anyLong l = false → ∀ r ∈ l, r.length ≤ 40
  | [], h, r, hr => by cases hr
  | x :: l, h, r, hr => by
    unfold anyLong at h
    split at h
    · cases h
    · rcases List.mem_cons.1 hr with rfl | hr
      · omega
      · exact anyLong_false h r hr
structure Short (ow pr : List Int) (su ls : List (List Int)) : Prop where
  o : ow.length ≤ 30
  p : pr.length ≤ 40
  s : su.length ≤ 40
  r : ∀ row ∈ su, row.length ≤ 40
  l : ∀ row ∈ ls, row.length ≤ 40
theorem longM_false {ow pr : List Int} {su ls : List (List Int)} (h : longM ow pr su ls = false) : Short ow pr su ls := by
  unfold longM at h
  split at h
  · cases h
  · split at h
    · cases h
    · split at h
      · cases h
      · split at h
        · cases h
        · rename_i h4
          exact ⟨by omega, by omega, by omega, anyLong_false (by simpa using h4), anyLong_false h⟩
theorem Short.bnd {ow pr : List Int} {su ls : List (List Int)} (h : Short ow pr su ls) : Bnd ow pr su := by
  obtain ⟨h1, h2, h3, h4, h5⟩ := h
  exact ⟨by show _ < 1000000000000; omega, by show _ < 1000000000000; omega, by show _ < 1000000000000; omega, fun r hr => by show _ < 1000000000000; have := h4 r hr; omega⟩

def maxFrom : Int → List Int → Int
  | m, [] => m
  | m, x :: l => maxFrom (max m x) l

section
variable {tab : FuncId → Option AF} (T : HasA tab)
include T

theorem rises_p {M : Mem} {K : PV → Mem → Prop} {f o : Bool} {xs : List Int} {n : Int} (hm : xs.length < big) (hk : K (.bool (posM n (-1) xs)) M) :
    SemC tab 45 [slI f o .i64 xs, p64 n] M K := by
  refine SemC_pure T.h45 (by simp only [PP, P1, P2, P3, P4, P5, P6, P7, P8, P9, P10, P11, P12, P13, P14, L1, P15, N1, N2, N3, N4, N5, N6, N7, I1, I2, I3, I4, I5, I6, I7, reduceIte, reduceCtorEq]) ?_
  simp only [af45, PP, P1, P2, P3, P4, P5, P6, P7, P8, P9, P10, P11, P12, P13, P14, L1, P15, N1, N2, N3, N4, N5, N6, N7, I1, I2, I3, I4, I5, I6, I7, reduceIte, reduceCtorEq]
  refine loop2 (fun (k : Nat) (last : Int) => k ≤ xs.length ∧ -1 ≤ last ∧ ((k = 0 ∧ last = -1) ∨ (0 < k ∧ xs[k - 1]? = some last)) ∧ K (.bool (posM n last (xs.drop k))) M) (fun k last => [slI f o .i64 xs, p64 n, .junk, .junk, .junk, p64 k, .junk, .junk, .junk, .junk, .junk, .junk, .junk, .junk, .junk, .junk, .junk, .junk, .junk, .junk, .junk, .junk, .junk, .junk, .junk, .junk, .junk, .junk, .junk, .junk, .junk, .junk, .junk, .junk, .junk, .junk, .junk, .junk, .junk, .junk, .junk]) (fun _ _ => []) (fun k _ => xs.length - k) 0 (-1) ⟨by omega, by omega, .inl ⟨rfl, rfl⟩, hk⟩ (by simp only [PWeak_nil, PWeak_junk, PWeak_same, Int.cast_ofNat_Int, List.length_append, List.length_cons, List.length_nil, Nat.zero_add]) rfl ?_
  intro k last ⟨hle, hl1, hi, hq⟩ ih
  refine SemW_go (by kernel_rfl) ?_
  simp only [PP, P1, P2, P3, P4, P5, P6, P7, P8, P9, P10, P11, P12, P13, P14, L1, P15, N1, N2, N3, N4, N5, N6, N7, I1, I2, I3, I4, I5, I6, I7, reduceIte, reduceCtorEq]
  refine QIf.intro (fun c => ?_) (fun c => ?_)
  · have hk' : k < xs.length := by omega
    rw [drop_get' hk'] at hq
    have hw := wrap_succ (k := k) (by omega)
    have g1 : xs[k]? = some xs[k] := List.getElem?_eq_getElem hk'
    have h0 : (0 : Int) ≤ k := by omega
    simp only [PP, P1, P2, P3, P4, P5, P6, P7, P8, P9, P10, P11, P12, P13, P14, L1, P15, N1, N2, N3, N4, N5, N6, N7, I1, I2, I3, I4, I5, I6, I7, reduceIte, reduceCtorEq, c, g1, hw, h0, posM] at hq ⊢
    refine QIf.intro (fun h1 => ?_) (fun h1 => ?_)
    · have : xs[k] ≤ last := by omega
      simp only [PP, P1, P2, P3, P4, P5, P6, P7, P8, P9, P10, P11, P12, P13, P14, L1, P15, N1, N2, N3, N4, N5, N6, N7, I1, I2, I3, I4, I5, I6, I7, reduceIte, reduceCtorEq, h1, this] at hq ⊢
      exact hq
    simp only [PP, P1, P2, P3, P4, P5, P6, P7, P8, P9, P10, P11, P12, P13, P14, L1, P15, N1, N2, N3, N4, N5, N6, N7, I1, I2, I3, I4, I5, I6, I7, reduceIte, reduceCtorEq, h1, g1, c, h0] at hq ⊢
    refine QIf.intro (fun h2 => ?_) (fun h2 => ?_)
    · by_cases h3 : xs[k] ≤ last
      · simp only [PP, P1, P2, P3, P4, P5, P6, P7, P8, P9, P10, P11, P12, P13, P14, L1, P15, N1, N2, N3, N4, N5, N6, N7, I1, I2, I3, I4, I5, I6, I7, reduceIte, reduceCtorEq, h2, h3] at hq ⊢
        exact hq
      · simp only [PP, P1, P2, P3, P4, P5, P6, P7, P8, P9, P10, P11, P12, P13, P14, L1, P15, N1, N2, N3, N4, N5, N6, N7, I1, I2, I3, I4, I5, I6, I7, reduceIte, reduceCtorEq, h2, h3] at hq ⊢
        exact hq
    simp only [PP, P1, P2, P3, P4, P5, P6, P7, P8, P9, P10, P11, P12, P13, P14, L1, P15, N1, N2, N3, N4, N5, N6, N7, I1, I2, I3, I4, I5, I6, I7, reduceIte, reduceCtorEq, h2, g1, c, h0] at hq ⊢
    rcases hi with ⟨rfl, rfl⟩ | ⟨hk0, hlast⟩
    · have h3 : ¬ xs[0] ≤ -1 := by omega
      have hw1 : IntKind.i64.wrap 1 = 1 := by decide
      simp only [PP, P1, P2, P3, P4, P5, P6, P7, P8, P9, P10, P11, P12, P13, P14, L1, P15, N1, N2, N3, N4, N5, N6, N7, I1, I2, I3, I4, I5, I6, I7, reduceIte, reduceCtorEq, h3, hw1, Int.lt_irrefl, Nat.lt_irrefl] at hq ⊢
      exact SemW_weak (ih 1 xs[0] ⟨by omega, by omega, .inr ⟨by omega, by simp⟩, hq⟩ (by omega)) (by simp only [PWeak_nil, PWeak_junk, PWeak_same, Int.cast_ofNat_Int, List.length_append, List.length_cons, List.length_nil, Nat.zero_add])
    · have h4 : (0 : Int) < k := by omega
      have hw2 : IntKind.i64.wrap ((k : Int) - 1) = ((k - 1 : Nat) : Int) := by
        have : k < 1000000000000 := by have : xs.length < 1000000000000 := hm; omega
        rw [wrap64 (by omega) (by omega)]; omega
      have c2 : ((k - 1 : Nat) : Int) < xs.length := by omega
      have c3 : (0 : Int) ≤ ((k - 1 : Nat) : Int) := by omega
      simp only [PP, P1, P2, P3, P4, P5, P6, P7, P8, P9, P10, P11, P12, P13, P14, L1, P15, N1, N2, N3, N4, N5, N6, N7, I1, I2, I3, I4, I5, I6, I7, reduceIte, reduceCtorEq, h4, g1, c, h0, hw2, c2, c3, hlast] at hq ⊢
      by_cases h3 : xs[k] ≤ last
      · simp only [PP, P1, P2, P3, P4, P5, P6, P7, P8, P9, P10, P11, P12, P13, P14, L1, P15, N1, N2, N3, N4, N5, N6, N7, I1, I2, I3, I4, I5, I6, I7, reduceIte, reduceCtorEq, h3] at hq ⊢
        exact hq
      · simp only [PP, P1, P2, P3, P4, P5, P6, P7, P8, P9, P10, P11, P12, P13, P14, L1, P15, N1, N2, N3, N4, N5, N6, N7, I1, I2, I3, I4, I5, I6, I7, reduceIte, reduceCtorEq, h3, hw] at hq ⊢
        exact SemW_weak (ih (k + 1) xs[k] ⟨by omega, by omega, .inr ⟨by omega, by simp [hk']⟩, hq⟩ (by omega)) (by simp only [PWeak_nil, PWeak_junk, PWeak_same, Int.cast_ofNat_Int, List.length_append, List.length_cons, List.length_nil, Nat.zero_add])
  · simp only [PP, P1, P2, P3, P4, P5, P6, P7, P8, P9, P10, P11, P12, P13, P14, L1, P15, N1, N2, N3, N4, N5, N6, N7, I1, I2, I3, I4, I5, I6, I7, reduceIte, reduceCtorEq, c]
    rw [List.drop_eq_nil_of_le (by omega)] at hq
    exact hq

theorem refCheck_p {M : Mem} {K : PV → Mem → Prop} {f1 o1 f2 o2 f3 o3 f4 o4 : Bool} {ow pr : List Int} {su : List (List Int)} (B : Bnd ow pr su) (hq : K (p64 (checkM ow pr su)) M) :
    SemC tab 18 [gmP f1 o1 f2 o2 f3 o3 f4 o4 ow pr su] M K := by
  refine SemC_pure T.h18 (by simp only [PP, P1, P2, P3, P4, P5, P6, P7, P8, P9, P10, P11, P12, P13, P14, L1, P15, N1, N2, N3, N4, N5, N6, N7, I1, I2, I3, I4, I5, I6, I7, reduceIte, reduceCtorEq]) ?_
  simp only [af18, PP, P1, P2, P3, P4, P5, P6, P7, P8, P9, P10, P11, P12, P13, P14, L1, P15, N1, N2, N3, N4, N5, N6, N7, I1, I2, I3, I4, I5, I6, I7, reduceIte, reduceCtorEq, checkM] at hq ⊢
  refine QIf.intro (fun c1 => ?_) (fun c1 => ?_)
  · simp only [PP, P1, P2, P3, P4, P5, P6, P7, P8, P9, P10, P11, P12, P13, P14, L1, P15, N1, N2, N3, N4, N5, N6, N7, I1, I2, I3, I4, I5, I6, I7, reduceIte, reduceCtorEq, c1] at hq ⊢
    exact hq
  simp only [PP, P1, P2, P3, P4, P5, P6, P7, P8, P9, P10, P11, P12, P13, P14, L1, P15, N1, N2, N3, N4, N5, N6, N7, I1, I2, I3, I4, I5, I6, I7, reduceIte, reduceCtorEq, c1] at hq ⊢
  refine QIf.intro (fun c2 => ?_) (fun c2 => ?_)
  · simp only [PP, P1, P2, P3, P4, P5, P6, P7, P8, P9, P10, P11, P12, P13, P14, L1, P15, N1, N2, N3, N4, N5, N6, N7, I1, I2, I3, I4, I5, I6, I7, reduceIte, reduceCtorEq, c2] at hq ⊢
    exact hq
  simp only [PP, P1, P2, P3, P4, P5, P6, P7, P8, P9, P10, P11, P12, P13, P14, L1, P15, N1, N2, N3, N4, N5, N6, N7, I1, I2, I3, I4, I5, I6, I7, reduceIte, reduceCtorEq, c2] at hq ⊢
  refine QIf.intro (fun c3 => ?_) (fun c3 => ?_)
  rotate_left
  · simp only [PP, P1, P2, P3, P4, P5, P6, P7, P8, P9, P10, P11, P12, P13, P14, L1, P15, N1, N2, N3, N4, N5, N6, N7, I1, I2, I3, I4, I5, I6, I7, reduceIte, reduceCtorEq, c3] at hq ⊢
    exact hq
  simp only [PP, P1, P2, P3, P4, P5, P6, P7, P8, P9, P10, P11, P12, P13, P14, L1, P15, N1, N2, N3, N4, N5, N6, N7, I1, I2, I3, I4, I5, I6, I7, reduceIte, reduceCtorEq, c3] at hq ⊢
  refine QIf.intro (fun c4 => ?_) (fun c4 => ?_)
  rotate_left
  · simp only [PP, P1, P2, P3, P4, P5, P6, P7, P8, P9, P10, P11, P12, P13, P14, L1, P15, N1, N2, N3, N4, N5, N6, N7, I1, I2, I3, I4, I5, I6, I7, reduceIte, reduceCtorEq, c4] at hq ⊢
    exact hq
  simp only [PP, P1, P2, P3, P4, P5, P6, P7, P8, P9, P10, P11, P12, P13, P14, L1, P15, N1, N2, N3, N4, N5, N6, N7, I1, I2, I3, I4, I5, I6, I7, reduceIte, reduceCtorEq, c4] at hq ⊢
  have d4 : su.length = ow.length := by omega
  refine loop1 (fun (k : Nat) => k ≤ su.length ∧ K (p64 (checkLoop ow pr k (su.drop k))) M) (fun k => [.junk, .ptr 0 0 0, .junk, p64 ow.length, p64 k, .junk, .junk, .junk, .junk, .junk, .junk, .junk, .junk, .junk, .junk, .junk, .junk, .junk, .junk, .junk, .junk, .junk, .junk, .junk, .junk, .junk, .junk, .junk, .junk, .junk, .junk, .junk, .junk, .junk, .junk, .junk, .junk, .junk, .junk, .junk, .junk, .junk, .junk, .junk, .junk, .junk, .junk, .junk, .junk, .junk, .junk, .junk, .junk, .junk, .junk, .junk, .junk, .junk, .junk, .junk, .junk, .junk, .junk, .junk]) (fun _ => [.cells 0 0 [slI f1 o1 .u8 ow, slI f2 o2 .i64 pr, slR f3 o3 f4 o4 .i64 su]]) (fun k => su.length - k) 0 ⟨by omega, hq⟩ (by simp only [PWeak_nil, PWeak_junk, PWeak_same, Int.cast_ofNat_Int, d4]) rfl ?_
  intro k ⟨hle, hq⟩ ih
  refine SemW_go (by kernel_rfl) ?_
  simp only [PP, P1, P2, P3, P4, P5, P6, P7, P8, P9, P10, P11, P12, P13, P14, L1, P15, N1, N2, N3, N4, N5, N6, N7, I1, I2, I3, I4, I5, I6, I7, reduceIte, reduceCtorEq]
  refine QIf.intro (fun c => ?_) (fun c => ?_)
  · have hk' : k < su.length := by omega
    have g1 : su[k]? = some su[k] := List.getElem?_eq_getElem hk'
    have g2 : ow[k]? = some ow[k] := List.getElem?_eq_getElem (by omega)
    have g3 : pr[k]? = some pr[k] := List.getElem?_eq_getElem (by omega)
    have h0 : (0 : Int) ≤ k := by omega
    have hw := wrap_succ (k := k) (by have := B.s; omega)
    have e2 : ow.getD k 0 = ow[k] := by simp [List.getD, g2]
    have e3 : pr.getD k 0 = pr[k] := by simp [List.getD, g3]
    rw [drop_get' hk'] at hq
    have hks : (k : Int) < su.length := by omega
    have hkp : (k : Int) < pr.length := by omega
    simp only [PP, P1, P2, P3, P4, P5, P6, P7, P8, P9, P10, P11, P12, P13, P14, L1, P15, N1, N2, N3, N4, N5, N6, N7, I1, I2, I3, I4, I5, I6, I7, reduceIte, reduceCtorEq, checkLoop, c, g1, g2, g3, h0, e2, e3, hks, hkp] at hq ⊢
    refine QIf.intro (fun h1 => ?_) (fun h1 => ?_)
    · simp only [PP, P1, P2, P3, P4, P5, P6, P7, P8, P9, P10, P11, P12, P13, P14, L1, P15, N1, N2, N3, N4, N5, N6, N7, I1, I2, I3, I4, I5, I6, I7, reduceIte, reduceCtorEq, h1] at hq ⊢
      exact hq
    simp only [PP, P1, P2, P3, P4, P5, P6, P7, P8, P9, P10, P11, P12, P13, P14, L1, P15, N1, N2, N3, N4, N5, N6, N7, I1, I2, I3, I4, I5, I6, I7, reduceIte, reduceCtorEq, h1, g3, hkp, h0] at hq ⊢
    refine QIf.intro (fun h2 => ?_) (fun h2 => ?_)
    · simp only [PP, P1, P2, P3, P4, P5, P6, P7, P8, P9, P10, P11, P12, P13, P14, L1, P15, N1, N2, N3, N4, N5, N6, N7, I1, I2, I3, I4, I5, I6, I7, reduceIte, reduceCtorEq, h2] at hq ⊢
      exact hq
    simp only [PP, P1, P2, P3, P4, P5, P6, P7, P8, P9, P10, P11, P12, P13, P14, L1, P15, N1, N2, N3, N4, N5, N6, N7, I1, I2, I3, I4, I5, I6, I7, reduceIte, reduceCtorEq, h2, g3, hkp, h0] at hq ⊢
    refine QIf.intro (fun h3 => ?_) (fun h3 => ?_)
    · simp only [PP, P1, P2, P3, P4, P5, P6, P7, P8, P9, P10, P11, P12, P13, P14, L1, P15, N1, N2, N3, N4, N5, N6, N7, I1, I2, I3, I4, I5, I6, I7, reduceIte, reduceCtorEq, h3] at hq ⊢
      exact hq
    simp only [PP, P1, P2, P3, P4, P5, P6, P7, P8, P9, P10, P11, P12, P13, P14, L1, P15, N1, N2, N3, N4, N5, N6, N7, I1, I2, I3, I4, I5, I6, I7, reduceIte, reduceCtorEq, h3, g1, hks, h0] at hq ⊢
    refine QIf.intro (fun h4 => ?_) (fun h4 => ?_)
    · simp only [PP, P1, P2, P3, P4, P5, P6, P7, P8, P9, P10, P11, P12, P13, P14, L1, P15, N1, N2, N3, N4, N5, N6, N7, I1, I2, I3, I4, I5, I6, I7, reduceIte, reduceCtorEq, h4] at hq ⊢
      exact hq
    simp only [PP, P1, P2, P3, P4, P5, P6, P7, P8, P9, P10, P11, P12, P13, P14, L1, P15, N1, N2, N3, N4, N5, N6, N7, I1, I2, I3, I4, I5, I6, I7, reduceIte, reduceCtorEq, h4, g1, hks, h0] at hq ⊢
    refine rises_p T (B.r _ (List.getElem_mem hk')) ?_
    simp only [PP, P1, P2, P3, P4, P5, P6, P7, P8, P9, P10, P11, P12, P13, P14, L1, P15, N1, N2, N3, N4, N5, N6, N7, I1, I2, I3, I4, I5, I6, I7, reduceIte, reduceCtorEq]
    by_cases h5 : posM ow.length (-1) su[k] = true
    · simp only [PP, P1, P2, P3, P4, P5, P6, P7, P8, P9, P10, P11, P12, P13, P14, L1, P15, N1, N2, N3, N4, N5, N6, N7, I1, I2, I3, I4, I5, I6, I7, reduceIte, reduceCtorEq, h5, hw] at hq ⊢
      exact SemW_weak (ih (k + 1) ⟨by omega, hq⟩ (by omega)) (by simp only [PWeak_nil, PWeak_junk, PWeak_same, Int.cast_ofNat_Int, List.length_append, List.length_cons, List.length_nil, Nat.zero_add])
    · simp only [PP, P1, P2, P3, P4, P5, P6, P7, P8, P9, P10, P11, P12, P13, P14, L1, P15, N1, N2, N3, N4, N5, N6, N7, I1, I2, I3, I4, I5, I6, I7, reduceIte, reduceCtorEq, h5] at hq ⊢
      exact hq
  · simp only [PP, P1, P2, P3, P4, P5, P6, P7, P8, P9, P10, P11, P12, P13, P14, L1, P15, N1, N2, N3, N4, N5, N6, N7, I1, I2, I3, I4, I5, I6, I7, reduceIte, reduceCtorEq, c]
    rw [List.drop_eq_nil_of_le (by omega)] at hq
    exact hq

theorem acheck_p {M : Mem} {K : PV → Mem → Prop} {f1 o1 f2 o2 f3 o3 f4 o4 f5 o5 : Bool} {ow pr keep : List Int} {side : Int} {su : List (List Int)} (B : Bnd ow pr su) (hb : keep.length < big) (hq : K (p64 (wrongM ow pr su side keep)) M) :
    SemC tab 35 [gmP f1 o1 f2 o2 f3 o3 f4 o4 ow pr su, p8 side, slI f5 o5 .i64 keep] M K := by
  refine SemC_pure T.h35 (by simp only [PP, P1, P2, P3, P4, P5, P6, P7, P8, P9, P10, P11, P12, P13, P14, L1, P15, N1, N2, N3, N4, N5, N6, N7, I1, I2, I3, I4, I5, I6, I7, reduceIte, reduceCtorEq]) ?_
  simp only [af35, PP, P1, P2, P3, P4, P5, P6, P7, P8, P9, P10, P11, P12, P13, P14, L1, P15, N1, N2, N3, N4, N5, N6, N7, I1, I2, I3, I4, I5, I6, I7, reduceIte, reduceCtorEq, wrongM] at hq ⊢
  refine check_p T B ?_
  simp only [PP, P1, P2, P3, P4, P5, P6, P7, P8, P9, P10, P11, P12, P13, P14, L1, P15, N1, N2, N3, N4, N5, N6, N7, I1, I2, I3, I4, I5, I6, I7, reduceIte, reduceCtorEq]
  refine QIf.intro (fun c1 => ?_) (fun c1 => ?_)
  rotate_left
  · simp only [PP, P1, P2, P3, P4, P5, P6, P7, P8, P9, P10, P11, P12, P13, P14, L1, P15, N1, N2, N3, N4, N5, N6, N7, I1, I2, I3, I4, I5, I6, I7, reduceIte, reduceCtorEq, c1] at hq ⊢
    exact hq
  simp only [PP, P1, P2, P3, P4, P5, P6, P7, P8, P9, P10, P11, P12, P13, P14, L1, P15, N1, N2, N3, N4, N5, N6, N7, I1, I2, I3, I4, I5, I6, I7, reduceIte, reduceCtorEq, c1] at hq ⊢
  refine QIf.intro (fun c2 => ?_) (fun c2 => ?_)
  · simp only [PP, P1, P2, P3, P4, P5, P6, P7, P8, P9, P10, P11, P12, P13, P14, L1, P15, N1, N2, N3, N4, N5, N6, N7, I1, I2, I3, I4, I5, I6, I7, reduceIte, reduceCtorEq, c2] at hq ⊢
    exact hq
  simp only [PP, P1, P2, P3, P4, P5, P6, P7, P8, P9, P10, P11, P12, P13, P14, L1, P15, N1, N2, N3, N4, N5, N6, N7, I1, I2, I3, I4, I5, I6, I7, reduceIte, reduceCtorEq, c2] at hq ⊢
  refine positions_p T hb ?_
  simp only [PP, P1, P2, P3, P4, P5, P6, P7, P8, P9, P10, P11, P12, P13, P14, L1, P15, N1, N2, N3, N4, N5, N6, N7, I1, I2, I3, I4, I5, I6, I7, reduceIte, reduceCtorEq]
  by_cases h5 : posM ow.length (-1) keep = true
  · simp only [PP, P1, P2, P3, P4, P5, P6, P7, P8, P9, P10, P11, P12, P13, P14, L1, P15, N1, N2, N3, N4, N5, N6, N7, I1, I2, I3, I4, I5, I6, I7, reduceIte, reduceCtorEq, h5] at hq ⊢
    exact hq
  · simp only [PP, P1, P2, P3, P4, P5, P6, P7, P8, P9, P10, P11, P12, P13, P14, L1, P15, N1, N2, N3, N4, N5, N6, N7, I1, I2, I3, I4, I5, I6, I7, reduceIte, reduceCtorEq, h5] at hq ⊢
    exact hq

theorem wrong_p {M : Mem} {K : PV → Mem → Prop} {f1 o1 f2 o2 f3 o3 f4 o4 f5 o5 : Bool} {ow pr keep : List Int} {side : Int} {su : List (List Int)} (B : Bnd ow pr su) (hb : keep.length < big) (hq : K (p64 (wrongM ow pr su side keep)) M) :
    SemC tab 22 [gmP f1 o1 f2 o2 f3 o3 f4 o4 ow pr su, p8 side, slI f5 o5 .i64 keep] M K := by
  refine SemC_pure T.h22 (by simp only [PP, P1, P2, P3, P4, P5, P6, P7, P8, P9, P10, P11, P12, P13, P14, L1, P15, N1, N2, N3, N4, N5, N6, N7, I1, I2, I3, I4, I5, I6, I7, reduceIte, reduceCtorEq]) ?_
  simp only [af22, PP, P1, P2, P3, P4, P5, P6, P7, P8, P9, P10, P11, P12, P13, P14, L1, P15, N1, N2, N3, N4, N5, N6, N7, I1, I2, I3, I4, I5, I6, I7, reduceIte, reduceCtorEq, wrongM] at hq ⊢
  refine refCheck_p T B ?_
  simp only [PP, P1, P2, P3, P4, P5, P6, P7, P8, P9, P10, P11, P12, P13, P14, L1, P15, N1, N2, N3, N4, N5, N6, N7, I1, I2, I3, I4, I5, I6, I7, reduceIte, reduceCtorEq]
  refine QIf.intro (fun c1 => ?_) (fun c1 => ?_)
  rotate_left
  · simp only [PP, P1, P2, P3, P4, P5, P6, P7, P8, P9, P10, P11, P12, P13, P14, L1, P15, N1, N2, N3, N4, N5, N6, N7, I1, I2, I3, I4, I5, I6, I7, reduceIte, reduceCtorEq, c1] at hq ⊢
    exact hq
  simp only [PP, P1, P2, P3, P4, P5, P6, P7, P8, P9, P10, P11, P12, P13, P14, L1, P15, N1, N2, N3, N4, N5, N6, N7, I1, I2, I3, I4, I5, I6, I7, reduceIte, reduceCtorEq, c1] at hq ⊢
  refine QIf.intro (fun c2 => ?_) (fun c2 => ?_)
  · simp only [PP, P1, P2, P3, P4, P5, P6, P7, P8, P9, P10, P11, P12, P13, P14, L1, P15, N1, N2, N3, N4, N5, N6, N7, I1, I2, I3, I4, I5, I6, I7, reduceIte, reduceCtorEq, c2] at hq ⊢
    exact hq
  simp only [PP, P1, P2, P3, P4, P5, P6, P7, P8, P9, P10, P11, P12, P13, P14, L1, P15, N1, N2, N3, N4, N5, N6, N7, I1, I2, I3, I4, I5, I6, I7, reduceIte, reduceCtorEq, c2] at hq ⊢
  refine rises_p T hb ?_
  simp only [PP, P1, P2, P3, P4, P5, P6, P7, P8, P9, P10, P11, P12, P13, P14, L1, P15, N1, N2, N3, N4, N5, N6, N7, I1, I2, I3, I4, I5, I6, I7, reduceIte, reduceCtorEq]
  by_cases h5 : posM ow.length (-1) keep = true
  · simp only [PP, P1, P2, P3, P4, P5, P6, P7, P8, P9, P10, P11, P12, P13, P14, L1, P15, N1, N2, N3, N4, N5, N6, N7, I1, I2, I3, I4, I5, I6, I7, reduceIte, reduceCtorEq, h5] at hq ⊢
    exact hq
  · simp only [PP, P1, P2, P3, P4, P5, P6, P7, P8, P9, P10, P11, P12, P13, P14, L1, P15, N1, N2, N3, N4, N5, N6, N7, I1, I2, I3, I4, I5, I6, I7, reduceIte, reduceCtorEq, h5] at hq ⊢
    exact hq

theorem long_p {M : Mem} {K : PV → Mem → Prop} {f1 o1 f2 o2 f3 o3 f4 o4 f5 o5 f6 o6 : Bool} {ow pr : List Int} {su ls : List (List Int)} (hl : ls.length < big) (hq : K (.bool (longM ow pr su ls)) M) :
    SemC tab 9 [gmP f1 o1 f2 o2 f3 o3 f4 o4 ow pr su, slR f5 o5 f6 o6 .i64 ls] M K := by
  refine SemC_pure T.h9 (by simp only [PP, P1, P2, P3, P4, P5, P6, P7, P8, P9, P10, P11, P12, P13, P14, L1, P15, N1, N2, N3, N4, N5, N6, N7, I1, I2, I3, I4, I5, I6, I7, reduceIte, reduceCtorEq]) ?_
  simp only [af9, PP, P1, P2, P3, P4, P5, P6, P7, P8, P9, P10, P11, P12, P13, P14, L1, P15, N1, N2, N3, N4, N5, N6, N7, I1, I2, I3, I4, I5, I6, I7, reduceIte, reduceCtorEq, longM] at hq ⊢
  refine QIf.intro (fun c1 => ?_) (fun c1 => ?_)
  · simp only [PP, P1, P2, P3, P4, P5, P6, P7, P8, P9, P10, P11, P12, P13, P14, L1, P15, N1, N2, N3, N4, N5, N6, N7, I1, I2, I3, I4, I5, I6, I7, reduceIte, reduceCtorEq, c1] at hq ⊢
    exact hq
  simp only [PP, P1, P2, P3, P4, P5, P6, P7, P8, P9, P10, P11, P12, P13, P14, L1, P15, N1, N2, N3, N4, N5, N6, N7, I1, I2, I3, I4, I5, I6, I7, reduceIte, reduceCtorEq, c1] at hq ⊢
  refine QIf.intro (fun c2 => ?_) (fun c2 => ?_)
  · simp only [PP, P1, P2, P3, P4, P5, P6, P7, P8, P9, P10, P11, P12, P13, P14, L1, P15, N1, N2, N3, N4, N5, N6, N7, I1, I2, I3, I4, I5, I6, I7, reduceIte, reduceCtorEq, c2] at hq ⊢
    exact hq
  simp only [PP, P1, P2, P3, P4, P5, P6, P7, P8, P9, P10, P11, P12, P13, P14, L1, P15, N1, N2, N3, N4, N5, N6, N7, I1, I2, I3, I4, I5, I6, I7, reduceIte, reduceCtorEq, c2] at hq ⊢
  refine QIf.intro (fun c3 => ?_) (fun c3 => ?_)
  · simp only [PP, P1, P2, P3, P4, P5, P6, P7, P8, P9, P10, P11, P12, P13, P14, L1, P15, N1, N2, N3, N4, N5, N6, N7, I1, I2, I3, I4, I5, I6, I7, reduceIte, reduceCtorEq, c3] at hq ⊢
    exact hq
  simp only [PP, P1, P2, P3, P4, P5, P6, P7, P8, P9, P10, P11, P12, P13, P14, L1, P15, N1, N2, N3, N4, N5, N6, N7, I1, I2, I3, I4, I5, I6, I7, reduceIte, reduceCtorEq, c3] at hq ⊢
  refine loop1 (fun (k : Nat) => k ≤ su.length ∧ K (.bool (if anyLong (su.drop k) = true then true else anyLong ls)) M) (fun k => [.junk, slR f5 o5 f6 o6 .i64 ls, .ptr 0 0 0, .junk, .junk, p64 k, .junk, .junk, .junk, .junk, .junk, .junk, .junk, .junk, .junk, .junk, .junk, .junk, .junk, .junk, .junk, .junk, .junk, .junk, .junk, .junk, .junk, .junk, .junk, .junk, .junk, .junk, .junk, .junk, .junk, .junk, .junk, .junk, .junk, .junk, .junk, .junk, .junk, .junk, .junk, .junk, .junk, .junk, .junk]) (fun _ => [.cells 0 0 [slI f1 o1 .u8 ow, slI f2 o2 .i64 pr, slR f3 o3 f4 o4 .i64 su]]) (fun k => su.length - k) 0 ⟨by omega, hq⟩ (by simp only [PWeak_nil, PWeak_junk, PWeak_same, Int.cast_ofNat_Int, List.length_append, List.length_cons, List.length_nil, Nat.zero_add]) rfl ?_
  intro k ⟨hle, hq⟩ ih
  refine SemW_go (by kernel_rfl) ?_
  simp only [PP, P1, P2, P3, P4, P5, P6, P7, P8, P9, P10, P11, P12, P13, P14, L1, P15, N1, N2, N3, N4, N5, N6, N7, I1, I2, I3, I4, I5, I6, I7, reduceIte, reduceCtorEq]
  refine QIf.intro (fun c => ?_) (fun c => ?_)
  · have hk' : k < su.length := by omega
    have g1 : su[k]? = some su[k] := List.getElem?_eq_getElem hk'
    have h0 : (0 : Int) ≤ k := by omega
    have hw := wrap_succ (k := k) (by show k < 1000000000000; omega)
    rw [drop_get' hk'] at hq
    simp only [PP, P1, P2, P3, P4, P5, P6, P7, P8, P9, P10, P11, P12, P13, P14, L1, P15, N1, N2, N3, N4, N5, N6, N7, I1, I2, I3, I4, I5, I6, I7, reduceIte, reduceCtorEq, c, g1, h0, anyLong] at hq ⊢
    refine QIf.intro (fun h1 => ?_) (fun h1 => ?_)
    · simp only [PP, P1, P2, P3, P4, P5, P6, P7, P8, P9, P10, P11, P12, P13, P14, L1, P15, N1, N2, N3, N4, N5, N6, N7, I1, I2, I3, I4, I5, I6, I7, reduceIte, reduceCtorEq, h1] at hq ⊢
      exact hq
    simp only [PP, P1, P2, P3, P4, P5, P6, P7, P8, P9, P10, P11, P12, P13, P14, L1, P15, N1, N2, N3, N4, N5, N6, N7, I1, I2, I3, I4, I5, I6, I7, reduceIte, reduceCtorEq, h1, hw] at hq ⊢
    exact SemW_weak (ih (k + 1) ⟨by omega, hq⟩ (by omega)) (by simp only [PWeak_nil, PWeak_junk, PWeak_same, Int.cast_ofNat_Int, List.length_append, List.length_cons, List.length_nil, Nat.zero_add])
  · rw [List.drop_eq_nil_of_le (by omega)] at hq
    simp only [PP, P1, P2, P3, P4, P5, P6, P7, P8, P9, P10, P11, P12, P13, P14, L1, P15, N1, N2, N3, N4, N5, N6, N7, I1, I2, I3, I4, I5, I6, I7, reduceIte, reduceCtorEq, c, anyLong] at hq ⊢
    refine loop1 (fun (k : Nat) => k ≤ ls.length ∧ K (.bool (anyLong (ls.drop k))) M) (fun k => [.junk, slR f5 o5 f6 o6 .i64 ls, .junk, .junk, .junk, .junk, p64 k, .junk, .junk, .junk, .junk, .junk, .junk, .junk, .junk, .junk, .junk, .junk, .junk, .junk, .junk, .junk, .junk, .junk, .junk, .junk, .junk, .junk, .junk, .junk, .junk, .junk, .junk, .junk, .junk, .junk, .junk, .junk, .junk, .junk, .junk, .junk, .junk, .junk, .junk, .junk, .junk, .junk, .junk]) (fun _ => [.cells 0 0 [slI f1 o1 .u8 ow, slI f2 o2 .i64 pr, slR f3 o3 f4 o4 .i64 su]]) (fun k => ls.length - k) 0 ⟨by omega, hq⟩ (by simp only [PWeak_nil, PWeak_junk, PWeak_same, Int.cast_ofNat_Int, List.length_append, List.length_cons, List.length_nil, Nat.zero_add]) rfl ?_
    intro k ⟨hle, hq⟩ ih
    refine SemW_go (by kernel_rfl) ?_
    simp only [PP, P1, P2, P3, P4, P5, P6, P7, P8, P9, P10, P11, P12, P13, P14, L1, P15, N1, N2, N3, N4, N5, N6, N7, I1, I2, I3, I4, I5, I6, I7, reduceIte, reduceCtorEq]
    refine QIf.intro (fun c => ?_) (fun c => ?_)
    · have hk' : k < ls.length := by omega
      have g1 : ls[k]? = some ls[k] := List.getElem?_eq_getElem hk'
      have h0 : (0 : Int) ≤ k := by omega
      have hw := wrap_succ (k := k) (by omega)
      rw [drop_get' hk'] at hq
      simp only [PP, P1, P2, P3, P4, P5, P6, P7, P8, P9, P10, P11, P12, P13, P14, L1, P15, N1, N2, N3, N4, N5, N6, N7, I1, I2, I3, I4, I5, I6, I7, reduceIte, reduceCtorEq, c, g1, h0, anyLong] at hq ⊢
      refine QIf.intro (fun h1 => ?_) (fun h1 => ?_)
      · simp only [PP, P1, P2, P3, P4, P5, P6, P7, P8, P9, P10, P11, P12, P13, P14, L1, P15, N1, N2, N3, N4, N5, N6, N7, I1, I2, I3, I4, I5, I6, I7, reduceIte, reduceCtorEq, h1] at hq ⊢
        exact hq
      simp only [PP, P1, P2, P3, P4, P5, P6, P7, P8, P9, P10, P11, P12, P13, P14, L1, P15, N1, N2, N3, N4, N5, N6, N7, I1, I2, I3, I4, I5, I6, I7, reduceIte, reduceCtorEq, h1, hw] at hq ⊢
      exact SemW_weak (ih (k + 1) ⟨by omega, hq⟩ (by omega)) (by simp only [PWeak_nil, PWeak_junk, PWeak_same, Int.cast_ofNat_Int, List.length_append, List.length_cons, List.length_nil, Nat.zero_add])
    · rw [List.drop_eq_nil_of_le (by omega)] at hq
      simp only [PP, P1, P2, P3, P4, P5, P6, P7, P8, P9, P10, P11, P12, P13, P14, L1, P15, N1, N2, N3, N4, N5, N6, N7, I1, I2, I3, I4, I5, I6, I7, reduceIte, reduceCtorEq, c, anyLong] at hq ⊢
      exact hq

theorem max_p {M : Mem} {K : PV → Mem → Prop} {f o : Bool} {x : Int} {xs : List Int} (hm : (x :: xs).length < big) (hq : K (p64 (maxFrom x xs)) M) :
    SemC tab 51 [slI f o .i64 (x :: xs)] M K := by
  refine SemC_pure T.h51 (by simp only [PP, P1, P2, P3, P4, P5, P6, P7, P8, P9, P10, P11, P12, P13, P14, L1, P15, N1, N2, N3, N4, N5, N6, N7, I1, I2, I3, I4, I5, I6, I7, reduceIte, reduceCtorEq]) ?_
  have c1 : ¬ ((xs.length + 1 : Nat) : Int) < 1 := by omega
  have c2 : (0 : Int) < ((xs.length + 1 : Nat) : Int) := by omega
  simp only [af51, PP, P1, P2, P3, P4, P5, P6, P7, P8, P9, P10, P11, P12, P13, P14, L1, P15, N1, N2, N3, N4, N5, N6, N7, I1, I2, I3, I4, I5, I6, I7, reduceIte, reduceCtorEq, c1, c2]
  have hm' : xs.length + 1 < 1000000000000 := hm
  refine loop2 (fun (k : Nat) (m : Int) => k ≤ xs.length ∧ K (p64 (maxFrom m (xs.drop k))) M) (fun k m => [slI f o .i64 (x :: xs), .junk, .junk, p64 m, p64 ((k + 1 : Nat) : Int), .junk, .junk, .junk, .junk, .junk, .junk, .junk, .junk, .junk, .junk, .junk, .junk, .junk, .junk, .junk, .junk, .junk, .junk, .junk, .junk]) (fun _ _ => []) (fun k _ => xs.length - k) 0 x ⟨by omega, hq⟩ (by simp only [PWeak_nil, PWeak_junk, PWeak_same, Int.cast_ofNat_Int, List.length_append, List.length_cons, List.length_nil, Nat.zero_add]) rfl ?_
  intro k m ⟨hle, hq⟩ ih
  refine SemW_go (by kernel_rfl) ?_
  simp only [PP, P1, P2, P3, P4, P5, P6, P7, P8, P9, P10, P11, P12, P13, P14, L1, P15, N1, N2, N3, N4, N5, N6, N7, I1, I2, I3, I4, I5, I6, I7, reduceIte, reduceCtorEq]
  refine QIf.intro (fun c => ?_) (fun c => ?_)
  · have hk' : k < xs.length := by omega
    have g1 : xs[k]? = some xs[k] := List.getElem?_eq_getElem hk'
    have h0 : (0 : Int) ≤ ((k + 1 : Nat) : Int) := by omega
    have hw := wrap_succ (k := k + 1) (by show _ < 1000000000000; omega)
    rw [drop_get' hk'] at hq
    simp only [PP, P1, P2, P3, P4, P5, P6, P7, P8, P9, P10, P11, P12, P13, P14, L1, P15, N1, N2, N3, N4, N5, N6, N7, I1, I2, I3, I4, I5, I6, I7, reduceIte, reduceCtorEq, c, g1, h0, hw, maxFrom] at hq ⊢
    exact SemW_weak (ih (k + 1) _ ⟨by omega, hq⟩ (by omega)) (by simp only [PWeak_nil, PWeak_junk, PWeak_same, Int.cast_ofNat_Int, List.length_append, List.length_cons, List.length_nil, Nat.zero_add])
  · rw [List.drop_eq_nil_of_le (by omega)] at hq
    simp only [PP, P1, P2, P3, P4, P5, P6, P7, P8, P9, P10, P11, P12, P13, P14, L1, P15, N1, N2, N3, N4, N5, N6, N7, I1, I2, I3, I4, I5, I6, I7, reduceIte, reduceCtorEq, c, maxFrom] at hq ⊢
    exact hq
end
end Go.Am.Ar

set_option linter.unusedVariables false
set_option linter.unusedSimpArgs false
set_option maxRecDepth 10000
namespace Go.Am.Ar
open Go.Am renaming pchk → P1, pold → P2, PKNo → P3, ppack → P4, PObj.under → P5, pput → P6, ptset → P7, ptget → P8, pev → P9, ofAV → P10, ofAV1 → P11, ppad → P12, pfill → P13, prepl → P14, AO.effect → P15
open List renaming replicate → L1
open Nat renaming reduceAdd → N1, reduceSub → N2, reduceMul → N3, reduceLT → N4, reduceLeDiff → N5, reduceEqDiff → N6, reduceBEq → N7
open Int renaming reduceToNat → I1, reduceLT → I2, reduceLE → I3, reduceEq → I4, reduceAdd → I5, reduceSub → I6, reduceNeg → I7

/-- The zero game. -/
abbrev gz : PV := .agg [.nils, .nils, .nils]
def dualO (ow : List Int) : List Int := ow.map fun o => IntKind.u8.wrap (1 - o)
def dualP (pr : List Int) : List Int := pr.map fun p => IntKind.i64.wrap (p + 1)
def maxL : List Int → Int
  | [] => 0
  | x :: l => maxFrom x l
/-- What the dual of a game answers. -/
def dualM (ow pr : List Int) (su : List (List Int)) : PV :=
  if checkM ow pr su = 0 then (if maxL pr = 16 then .tuple [gz, p64 4] else .tuple [gmP false true false true false true false true (dualO ow) (dualP pr) su, p64 0]) else .tuple [gz, p64 (checkM ow pr su)]

theorem checkLoop_row {ow pr : List Int} : ∀ {su : List (List Int)} {k : Nat}, checkLoop ow pr k su = 0 → ∀ (i : Nat) (hi : i < su.length), 0 ≤ pr.getD (k + i) 0 ∧ pr.getD (k + i) 0 ≤ 16 ∧ ow.getD (k + i) 0 ≤ 1 ∧ 0 < su[i].length ∧ posM ow.length (-1) su[i] = true
  | [], k, h, i, hi => by simp at hi
  | row :: su, k, h, i, hi => by
    unfold checkLoop at h
    split at h
    · simp at h
    · split at h
      · simp at h
      · split at h
        · simp at h
        · split at h
          · simp at h
          · split at h
            · simp at h
            · rename_i h1 h2 h3 h4 h5
              cases i with
              | zero => exact ⟨by simpa using h2, by simpa using h3, by simpa using h1, by simp only [List.getElem_cons_zero]; omega, by simpa using h5⟩
              | succ i =>
                have := checkLoop_row h i (by simpa using hi)
                simpa [Nat.add_assoc, Nat.add_comm 1 i] using this

structure Valid (ow pr : List Int) (su : List (List Int)) : Prop where
  n0 : 0 < ow.length
  n1 : ow.length ≤ 4096
  p : pr.length = ow.length
  s : su.length = ow.length
  row : ∀ (i : Nat) (hi : i < su.length), 0 ≤ pr.getD i 0 ∧ pr.getD i 0 ≤ 16 ∧ ow.getD i 0 ≤ 1 ∧ 0 < su[i].length ∧ posM ow.length (-1) su[i] = true
theorem valid_of {ow pr : List Int} {su : List (List Int)} (h : checkM ow pr su = 0) : Valid ow pr su := by
  obtain ⟨h1, h2, h3, h4, h5⟩ := checkM_len h
  exact ⟨h1, h2, h3, h4, fun i hi => by simpa using checkLoop_row h5 i hi⟩

theorem wk_attr (e : Int) : PvWk (.tuple [.nils, .nils, p64 e]) (.tuple [slI false true .i64 [], slI false true .i64 [], p64 e]) := by
  refine PvWk.tuple rfl fun i y z h1 h2 => ?_
  match i with
  | 0 => cases h1; cases h2; exact PvWk.nils _ _ _
  | 1 => cases h1; cases h2; exact PvWk.nils _ _ _
  | 2 => cases h1; cases h2; exact PvWk.refl _
  | i + 3 => simp at h1

theorem nodup_lenN : ∀ (n : Nat) (l : List Nat), l.Nodup → (∀ x ∈ l, x < n) → l.length ≤ n
  | 0, l, _, h => by
    cases l with
    | nil => simp
    | cons x l => have := h x (by simp); omega
  | n + 1, l, hd, h => by
    have := nodup_lenN n (l.filter fun x => x != n) (hd.filter _) (fun x hx => by
      rw [List.mem_filter] at hx
      have := h x hx.1
      have : x ≠ n := by simpa using hx.2
      omega)
    have h2 : l.length ≤ (l.filter fun x => x != n).length + 1 := by
      clear this h
      induction l with
      | nil => simp
      | cons x l ih =>
        rw [List.nodup_cons] at hd
        by_cases e : x = n
        · subst e
          have : l.filter (fun y => y != x) = l := by
            rw [List.filter_eq_self]
            intro y hy
            have : y ≠ x := fun q => hd.1 (q ▸ hy)
            simpa using this
          simp [this]
        · have := ih hd.2
          have hx : (x != n) = true := by simpa using e
          simp only [List.filter_cons, hx, if_true, List.length_cons]
          omega
    omega
theorem prem {k : IntKind} {x y : Int} (h : y ≠ 0) : pbin .rem (.int k x) (.int k y) = some (.int k (x.tmod y)) := by
  simp [pbin, toAV0, abin, ofAV1, h, isShift, binInt]
abbrev natI (l : List Nat) : List Int := l.map fun (v : Nat) => (v : Int)
theorem mem_natI {l : List Nat} {v : Nat} : (v : Int) ∈ natI l ↔ v ∈ l := by
  rw [List.mem_map]
  exact ⟨fun ⟨a, h1, h2⟩ => by rw [show v = a by omega]; exact h1, fun h => ⟨v, h, rfl⟩⟩

def winL (n : Int) (pr : List Int) : Int → List Int → PV
  | m, [] => .tuple [p8 (IntKind.u8.wrap (m.tmod 2)), p64 0]
  | m, v :: l => if v < 0 then .tuple [p8 0, p64 8] else if n ≤ v then .tuple [p8 0, p64 8] else winL n pr (max m (pr.getD v.toNat 0)) l
/-- The winner of a play that repeats some positions. -/
def winM (ow pr : List Int) (su : List (List Int)) (lp : List Int) : PV :=
  if checkM ow pr su = 0 then (if (lp.length : Int) = 0 then .tuple [p8 0, p64 3] else winL ow.length pr 0 lp) else .tuple [p8 0, p64 (checkM ow pr su)]
theorem posM_of {n : Int} : ∀ {l : List Int} {last : Int}, l.Pairwise (· < ·) → (∀ x ∈ l, last < x ∧ x < n) → posM n last l = true
  | [], _, _, _ => rfl
  | v :: l, last, h, hx => by
    obtain ⟨h1, h2⟩ := hx v (by simp)
    rw [List.pairwise_cons] at h
    unfold posM
    rw [if_neg (by omega), if_neg (by omega)]
    exact posM_of h.2 fun x hm => ⟨h.1 x hm, (hx x (by simp [hm])).2⟩
theorem wrong_wide {ow pr keep wide : List Int} {su : List (List Int)} {side : Int} (h : wrongM ow pr su side keep = 0) (hw : posM ow.length (-1) wide = true) : wrongM ow pr su side wide = 0 := by
  have h0 := h
  unfold wrongM at h0 ⊢
  split at h0
  · rename_i hc
    rw [if_pos hc]
    split at h0
    · simp at h0
    · rename_i hs
      rw [if_neg hs, if_pos hw]
  · rename_i hc; exact absurd h0 hc
/-- Rising lists. -/
theorem posM_rise {n : Int} : ∀ {l : List Int} {last : Int}, posM n last l = true → l.Pairwise (· < ·) ∧ ∀ x ∈ l, last < x ∧ x < n
  | [], _, _ => ⟨.nil, fun x hx => by cases hx⟩
  | v :: l, last, h => by
    unfold posM at h
    split at h
    · simp at h
    · split at h
      · simp at h
      · obtain ⟨h1, h2⟩ := posM_rise h
        refine ⟨.cons (fun x hx => (h2 x hx).1) h1, fun x hx => ?_⟩
        rcases List.mem_cons.1 hx with rfl | hx
        · omega
        · have := h2 x hx; omega
theorem rise_get {l : List Int} (h : l.Pairwise (· < ·)) {i j : Nat} {x y : Int} (hx : l[i]? = some x) (hy : l[j]? = some y) (hij : i < j) : x < y := by
  have hi := getSome_lt hx
  have hj := getSome_lt hy
  rw [List.getElem?_eq_getElem hi] at hx
  rw [List.getElem?_eq_getElem hj] at hy
  cases hx; cases hy
  exact List.pairwise_iff_getElem.1 h i j hi hj hij

theorem su_range {ow pr : List Int} {su : List (List Int)} (V : Valid ow pr su) {v : Nat} {u : Int} (hv : v < ow.length) (h : u ∈ su.getD v []) : 0 ≤ u ∧ u < ow.length := by
  have hvs : v < su.length := by have := V.s; omega
  obtain ⟨_, _, _, _, hp⟩ := V.row v hvs
  rw [List.getD, List.getElem?_eq_getElem hvs] at h
  have := (posM_rise hp).2 u h
  omega
theorem wrong_zero {ow pr : List Int} {su : List (List Int)} {side : Int} {keep : List Int} (h : wrongM ow pr su side keep = 0) : Valid ow pr su ∧ side ≤ 1 ∧ posM ow.length (-1) keep = true := by
  unfold wrongM at h
  split at h
  · rename_i h0
    split at h
    · simp at h
    · split at h
      · rename_i h1 h2; exact ⟨valid_of h0, by omega, h2⟩
      · simp at h
  · rename_i h0; exact absurd h h0

theorem SemC_true {tab : FuncId → Option AF} {g : FuncId} (hg : tab g = some (.prim primTrue)) {M : Mem} {K : PV → Mem → Prop} (hk : K (.bool true) M) : SemC tab g [] M K := by
  intro w h args' h0 s ha
  have : args' = [] := List.length_eq_zero_iff.1 (by simpa using ha.len.symm)
  subst this
  unfold C
  refine ⟨.bool true, h, ?_, w, .bool true, M, PStp.refl (Nat.le_refl _) w h, s, .bool true, hk⟩
  rw [lim_call]
  simp only [acallF, hg, primTrue]

theorem wrong_check {ow pr : List Int} {su : List (List Int)} {side : Int} {keep : List Int} (h : wrongM ow pr su side keep = 0) : checkM ow pr su = 0 := by
  unfold wrongM at h
  split at h
  · rename_i h0; exact h0
  · rename_i h0; exact absurd h h0
/-- Two branches that go on alike. -/
theorem QIf_both {p A B G : Prop} {t : QTag A B} (h1 : p → G → A) (h2 : ¬ p → G → B) (g : G) : QIf p A B t := QIf.intro (fun c => h1 c g) (fun c => h2 c g)
section
variable {tab : FuncId → Option AF} (T : HasA tab)
include T

theorem clone_p {M : Mem} {K : PV → Mem → Prop} {f o : Bool} {xs : List Int} (hm : xs.length < big) (hk : K (slI false true .i64 xs) M) :
    SemC tab 50 [slI f o .i64 xs] M K := by
  refine SemC_wk ?_
  refine SemC_pure T.h50 (by simp only [PP, P1, P2, P3, P4, P5, P6, P7, P8, P9, P10, P11, P12, P13, P14, L1, P15, N1, N2, N3, N4, N5, N6, N7, I1, I2, I3, I4, I5, I6, I7, reduceIte, reduceCtorEq]) ?_
  have hb : xs.length < 1000000000000 := hm
  have b1 : xs.length * 8 ≤ 140737488355328 := by omega
  have b2 : xs.length ≤ 9223372036854775807 := by omega
  simp only [af50, PP, P1, P2, P3, P4, P5, P6, P7, P8, P9, P10, P11, P12, P13, P14, L1, P15, N1, N2, N3, N4, N5, N6, N7, I1, I2, I3, I4, I5, I6, I7, reduceIte, reduceCtorEq]
  refine QIf.intro (fun c => ?_) (fun c => ?_)
  · have : xs = [] := List.length_eq_zero_iff.1 c
    subst this
    constructor
    · simp only [PP, P1, P2, P3, P4, P5, P6, P7, P8, P9, P10, P11, P12, P13, P14, L1, P15, N1, N2, N3, N4, N5, N6, N7, I1, I2, I3, I4, I5, I6, I7, reduceIte, reduceCtorEq]
      exact ⟨_, PvWk.nils _ _ _, hk⟩
    · simp only [PP, P1, P2, P3, P4, P5, P6, P7, P8, P9, P10, P11, P12, P13, P14, L1, P15, N1, N2, N3, N4, N5, N6, N7, I1, I2, I3, I4, I5, I6, I7, reduceIte, reduceCtorEq]
      exact ⟨_, PvWk.sl _ _ _ _, hk⟩
  · simp only [PP, P1, P2, P3, P4, P5, P6, P7, P8, P9, P10, P11, P12, P13, P14, L1, P15, N1, N2, N3, N4, N5, N6, N7, I1, I2, I3, I4, I5, I6, I7, reduceIte, reduceCtorEq, c, b1, b2]
    exact ⟨_, PvWk.refl _, hk⟩

end
end Go.Am.Ar

set_option linter.unusedVariables false
set_option linter.unusedSimpArgs false
namespace Go.Am.Ar

/-- The rank that a position gets from the ranks of its successors: p tells whether it is the player's. -/
def nx (p : Bool) : Int → Int → List Int → Int
  | least, most, [] => if p = true then (if least < 0 then -1 else least + 1) else most + 1
  | least, most, r :: rs => if r < 0 then (if p = true then nx p least most rs else -1) else nx p (if least < 0 then r else if r < least then r else least) (max most r) rs

theorem ilt_or_ge (a b : Int) : a < b ∨ b ≤ a := by omega
theorem nx_p : ∀ {rs : List Int} {least most : Int}, -1 ≤ least → (∀ r ∈ rs, -1 ≤ r) →
    (nx true least most rs = -1 ∧ least < 0 ∧ ∀ r ∈ rs, r < 0) ∨
    (0 < nx true least most rs ∧ (nx true least most rs = least + 1 ∧ 0 ≤ least ∨ ∃ r ∈ rs, 0 ≤ r ∧ nx true least most rs = r + 1) ∧ (0 ≤ least → nx true least most rs ≤ least + 1) ∧ ∀ r ∈ rs, 0 ≤ r → nx true least most rs ≤ r + 1)
  | [], least, most, h0, _ => by
    unfold nx
    simp only [if_true]
    split
    · exact .inl ⟨rfl, by assumption, fun r hr => by cases hr⟩
    · exact .inr ⟨by omega, .inl ⟨rfl, by omega⟩, fun _ => Int.le_refl _, fun r hr => by cases hr⟩
  | r :: rs, least, most, h0, hr => by
    have hr0 := hr r (by simp)
    have hrs : ∀ x ∈ rs, -1 ≤ x := fun x hx => hr x (by simp [hx])
    unfold nx
    simp only [if_true]
    split
    · rename_i h1
      rcases nx_p (rs := rs) (least := least) (most := most) h0 hrs with ⟨q1, q2, q3⟩ | ⟨q1, q2, q3, q4⟩
      · refine .inl ⟨q1, q2, fun x hx => ?_⟩
        rcases List.mem_cons.1 hx with rfl | hx
        · exact h1
        · exact q3 x hx
      · refine .inr ⟨q1, ?_, q3, fun x hx hx0 => ?_⟩
        · rcases q2 with q2 | ⟨y, hy, h2⟩
          · exact .inl q2
          · exact .inr ⟨y, by simp [hy], h2⟩
        · rcases List.mem_cons.1 hx with rfl | hx
          · omega
          · exact q4 x hx hx0
    · rename_i h1
      have hl : -1 ≤ (if least < 0 then r else if r < least then r else least) := by split; · omega
                                                                                     · split <;> omega
      rcases nx_p (rs := rs) (most := max most r) hl hrs with ⟨q1, q2, q3⟩ | ⟨q1, q2, q3, q4⟩
      · exfalso
        split at q2
        · omega
        · split at q2 <;> omega
      · have hl0 : 0 ≤ (if least < 0 then r else if r < least then r else least) := by split; · omega
                                                                                       · split <;> omega
        have q3 := q3 hl0
        refine .inr ⟨q1, ?_, fun hl => ?_, fun x hx hx0 => ?_⟩
        · rcases q2 with ⟨q2, _⟩ | ⟨y, hy, h2⟩
          · rw [q2]
            split
            · exact .inr ⟨r, by simp, by omega, rfl⟩
            · split
              · exact .inr ⟨r, by simp, by omega, rfl⟩
              · exact .inl ⟨rfl, by omega⟩
          · exact .inr ⟨y, by simp [hy], h2⟩
        · refine Int.le_trans q3 ?_
          split
          · omega
          · split <;> omega
        · rcases List.mem_cons.1 hx with rfl | hx
          · refine Int.le_trans q3 ?_
            split
            · omega
            · split <;> omega
          · exact q4 x hx hx0
theorem nx_o : ∀ {rs : List Int} {least most : Int}, -1 ≤ most → (∀ r ∈ rs, -1 ≤ r) →
    (nx false least most rs = -1 ∧ ∃ r ∈ rs, r < 0) ∨
    ((∀ r ∈ rs, 0 ≤ r ∧ r < nx false least most rs) ∧ most < nx false least most rs ∧ (nx false least most rs = most + 1 ∨ ∃ r ∈ rs, nx false least most rs = r + 1))
  | [], least, most, h0, _ => by
    unfold nx
    simp only [Bool.false_eq_true, if_false]
    exact .inr ⟨(fun r hr => by cases hr), by omega, .inl trivial⟩
  | r :: rs, least, most, h0, hr => by
    have hrs : ∀ x ∈ rs, -1 ≤ x := fun x hx => hr x (by simp [hx])
    unfold nx
    simp only [Bool.false_eq_true, if_false]
    split
    · rename_i h1
      exact .inl ⟨rfl, r, by simp, h1⟩
    · rename_i h1
      rcases nx_o (rs := rs) (least := if least < 0 then r else if r < least then r else least) (most := max most r) (by omega) hrs with ⟨q1, y, hy, h2⟩ | ⟨q1, q2, q3⟩
      · exact .inl ⟨q1, y, by simp [hy], h2⟩
      · refine .inr ⟨fun x hx => ?_, by omega, ?_⟩
        · rcases List.mem_cons.1 hx with rfl | hx
          · exact ⟨by omega, by omega⟩
          · exact q1 x hx
        · rcases q3 with q3 | ⟨y, hy, h2⟩
          · rcases Int.le_total most r with q | q
            · exact .inr ⟨r, by simp, by omega⟩
            · exact .inl (by omega)
          · exact .inr ⟨y, by simp [hy], h2⟩

/-- What characterizes the ranks: n positions, whose are the player's, their successors, the set. -/
structure IsRank (n : Nat) (P : Nat → Prop) (S : Nat → List Nat) (Z : Nat → Prop) (R : Nat → Int) : Prop where
  ge : ∀ v, v < n → -1 ≤ R v
  z : ∀ v, v < n → (R v = 0 ↔ Z v)
  p : ∀ v, v < n → P v → 0 < R v → ∃ u ∈ S v, R u = R v - 1
  p' : ∀ v, v < n → P v → ∀ u ∈ S v, 0 ≤ R u → 0 ≤ R v ∧ R v ≤ R u + 1
  o : ∀ v, v < n → ¬ P v → 0 < R v → ∀ u ∈ S v, 0 ≤ R u ∧ R u < R v
  o' : ∀ v, v < n → ¬ P v → ∀ k, 0 ≤ k → (∀ u ∈ S v, 0 ≤ R u ∧ R u ≤ k) → 0 ≤ R v ∧ R v ≤ k + 1

/-- Rounds: the ranks below k are known; those of k are added. -/
def rkRow (p : Bool) (S : List Nat) (k : Int) (R : Nat → Int) (v : Nat) : Int := if R v < 0 then (if nx p (-1) (-1) (S.map R) = k then k else R v) else R v
def rk (P : Nat → Bool) (S : Nat → List Nat) (Z : Nat → Bool) : Nat → Nat → Int
  | 0, v => if Z v = true then 0 else -1
  | k + 1, v => rkRow (P v) (S v) ((k + 1 : Nat) : Int) (rk P S Z k) v

section
variable {n : Nat} {P : Nat → Bool} {S : Nat → List Nat} {Z : Nat → Bool}
theorem rk_range : ∀ (k v : Nat), -1 ≤ rk P S Z k v ∧ rk P S Z k v ≤ k
  | 0, v => by unfold rk; split <;> omega
  | k + 1, v => by
    have := rk_range k v
    unfold rk rkRow
    split
    · split <;> omega
    · omega
theorem rk_stable {k v : Nat} (h : 0 ≤ rk P S Z k v) : rk P S Z (k + 1) v = rk P S Z k v := by
  show rkRow _ _ _ _ _ = _
  unfold rkRow
  rw [if_neg (by omega)]
theorem rk_mono {k v : Nat} (h : 0 ≤ rk P S Z k v) : ∀ j, k ≤ j → rk P S Z j v = rk P S Z k v := by
  intro j hj
  induction hj with
  | refl => rfl
  | step hj ih => rw [rk_stable (by rw [ih]; exact h), ih]
theorem rk_none {k v : Nat} (h : rk P S Z k v < 0) : ∀ j, j ≤ k → rk P S Z j v < 0 := by
  intro j hj
  rcases ilt_or_ge (rk P S Z j v) 0 with q | q
  · exact q
  · rw [rk_mono q k hj] at h; omega
/-- Where a rank comes from. -/
theorem rk_from : ∀ {k v : Nat}, 0 < rk P S Z k v → ∃ j, j < k ∧ rk P S Z k v = ((j + 1 : Nat) : Int) ∧ rk P S Z j v < 0 ∧ nx (P v) (-1) (-1) ((S v).map (rk P S Z j)) = ((j + 1 : Nat) : Int)
  | 0, v, h => by unfold rk at h; split at h <;> omega
  | k + 1, v, h => by
    have e : rk P S Z (k + 1) v = rkRow (P v) (S v) ((k + 1 : Nat) : Int) (rk P S Z k) v := rfl
    unfold rkRow at e
    split at e
    · rename_i h1
      split at e
      · rename_i h2
        exact ⟨k, by omega, e, h1, h2⟩
      · rw [e] at h; omega
    · rename_i h1
      obtain ⟨j, h2, h3, h4, h5⟩ := rk_from (k := k) (v := v) (by omega)
      exact ⟨j, by omega, by rw [e]; exact h3, h4, h5⟩
theorem rk_all (k : Nat) (l : List Nat) : ∀ r ∈ l.map (rk P S Z k), -1 ≤ r := by
  intro r hr
  obtain ⟨u, _, rfl⟩ := List.mem_map.1 hr
  exact (rk_range k u).1
/-- A rank has one below it. -/
theorem rk_below {k v : Nat} {j : Nat} (h : rk P S Z k v = ((j + 1 : Nat) : Int)) (hS : S v ≠ []) : ∃ u ∈ S v, rk P S Z k u = (j : Int) := by
  have h0 : 0 < rk P S Z k v := by omega
  obtain ⟨i, h1, h2, h3, h4⟩ := rk_from h0
  have : i = j := by omega
  subst this
  have up : ∀ u, rk P S Z i u = (i : Int) → rk P S Z k u = (i : Int) := fun u hu => by rw [rk_mono (k := i) (by rw [hu]; omega) k (by omega)]; exact hu
  cases hp : P v with
  | true =>
    rw [hp] at h4
    rcases nx_p (least := -1) (most := -1) (by omega) (rk_all (P := P) (S := S) (Z := Z) i (S v)) with ⟨q, _⟩ | ⟨_, q, _⟩
    · omega
    · rcases q with ⟨_, q⟩ | ⟨r, hr, q1, q2⟩
      · omega
      · obtain ⟨u, hu, rfl⟩ := List.mem_map.1 hr
        exact ⟨u, hu, up u (by omega)⟩
  | false =>
    rw [hp] at h4
    rcases nx_o (least := -1) (most := -1) (by omega) (rk_all (P := P) (S := S) (Z := Z) i (S v)) with ⟨q, _⟩ | ⟨q1, _, q⟩
    · omega
    · rcases q with q | ⟨r, hr, q2⟩
      · have : i = 0 ∧ False := by
          cases hs : S v with
          | nil => exact absurd hs hS
          | cons u l =>
            have := (q1 (rk P S Z i u) (by rw [hs]; simp)).2
            have := (q1 (rk P S Z i u) (by rw [hs]; simp)).1
            omega
        exact this.2.elim
      · obtain ⟨u, hu, rfl⟩ := List.mem_map.1 hr
        exact ⟨u, hu, up u (by omega)⟩

/-- A rank is 0 from the beginning or never. -/
theorem rk_zero {v : Nat} (h : rk P S Z 0 v < 0) : ∀ k, rk P S Z k v ≠ 0
  | 0 => by omega
  | k + 1 => by
    have := rk_zero h k
    show rkRow _ _ _ _ _ ≠ 0
    unfold rkRow
    split
    · split <;> omega
    · exact this
/-- A rank is known after as many rounds. -/
theorem rk_at {k u : Nat} (h : 0 ≤ rk P S Z k u) : ∀ j : Nat, rk P S Z k u ≤ j → rk P S Z j u = rk P S Z k u := by
  have key : rk P S Z (rk P S Z k u).toNat u = rk P S Z k u := by
    rcases ilt_or_ge 0 (rk P S Z k u) with q | q
    · obtain ⟨j, h1, h2, h3, h4⟩ := rk_from q
      have e : (rk P S Z k u).toNat = j + 1 := by omega
      rw [e]
      show rkRow _ _ _ _ _ = _
      unfold rkRow
      rw [if_pos h3, if_pos h4]; exact h2.symm
    · have e : rk P S Z k u = 0 := by omega
      rw [e]
      show rk P S Z 0 u = 0
      rcases ilt_or_ge (rk P S Z 0 u) 0 with q2 | q2
      · exact absurd e (rk_zero q2 k)
      · have := rk_range (P := P) (S := S) (Z := Z) 0 u; omega
  intro j hj
  rw [rk_mono (k := (rk P S Z k u).toNat) (by rw [key]; exact h) j (by omega), key]

/-- Ranks stay below the number of positions. -/
theorem rk_small (hS : ∀ v, v < n → S v ≠ [] ∧ ∀ u ∈ S v, u < n) {k v : Nat} (hv : v < n) : rk P S Z k v < n := by
  have chain : ∀ (j : Nat) (v : Nat), v < n → rk P S Z k v = (j : Int) → ∃ l : List Nat, l.length = j + 1 ∧ l.Nodup ∧ (∀ x ∈ l, x < n) ∧ ∀ x ∈ l, rk P S Z k x ≤ j := by
    intro j
    induction j with
    | zero => intro v hv h; exact ⟨[v], rfl, by simp, by simpa using hv, by simp [h]⟩
    | succ j ih =>
      intro v hv h
      obtain ⟨u, hu, hj⟩ := rk_below h (hS v hv).1
      obtain ⟨l, h1, h2, h3, h4⟩ := ih u ((hS v hv).2 u hu) hj
      refine ⟨v :: l, by simp [h1], List.nodup_cons.2 ⟨fun hvl => ?_, h2⟩, fun x hx => ?_, fun x hx => ?_⟩
      · have := h4 v hvl; omega
      · rcases List.mem_cons.1 hx with rfl | hx
        · exact hv
        · exact h3 x hx
      · rcases List.mem_cons.1 hx with rfl | hx
        · omega
        · have := h4 x hx; omega
  have h0 := rk_range (P := P) (S := S) (Z := Z) k v
  rcases ilt_or_ge (rk P S Z k v) 0 with q | q
  · omega
  · obtain ⟨l, h1, h2, h3, _⟩ := chain (rk P S Z k v).toNat v hv (by omega)
    have := nodup_lenN n l h2 h3
    omega

/-- The rounds compute the ranks. -/
theorem rk_isRank (hS : ∀ v, v < n → S v ≠ [] ∧ ∀ u ∈ S v, u < n) : IsRank n (fun v => P v = true) S (fun v => Z v = true) (rk P S Z n) where
  ge := fun v _ => (rk_range n v).1
  z := fun v _ => by
    constructor
    · intro h
      cases hz : Z v with
      | true => rfl
      | false => exact absurd h (rk_zero (by unfold rk; simp [hz]) n)
    · intro h
      have : rk P S Z 0 v = 0 := by unfold rk; rw [if_pos h]
      rw [rk_mono (k := 0) (by omega) n (by omega)]; exact this
  p := fun v hv hp h => by
    obtain ⟨j, h1, h2, h3, h4⟩ := rk_from h
    obtain ⟨u, hu, hj⟩ := rk_below h2 (hS v hv).1
    exact ⟨u, hu, by omega⟩
  p' := fun v hv hp u hu h0 => by
    have hp' : P v = true := hp
    have hsm := rk_small (P := P) (S := S) (Z := Z) (k := n) hS ((hS v hv).2 u hu)
    have hr := rk_range (P := P) (S := S) (Z := Z) n u
    obtain ⟨k, hk⟩ : ∃ k : Nat, rk P S Z n u = (k : Int) := ⟨(rk P S Z n u).toNat, by omega⟩
    have huk := rk_at h0 k (by omega)
    rcases ilt_or_ge (rk P S Z k v) 0 with q | q
    · have e : rk P S Z (k + 1) v = ((k + 1 : Nat) : Int) := by
        show rkRow _ _ _ _ _ = _
        unfold rkRow
        rw [if_pos q, hp']
        rcases nx_p (least := -1) (most := -1) (by omega) (rk_all (P := P) (S := S) (Z := Z) k (S v)) with ⟨_, _, q3⟩ | ⟨q1, q2, _, q4⟩
        · have := q3 (rk P S Z k u) (List.mem_map.2 ⟨u, hu, rfl⟩); omega
        · have hle := q4 (rk P S Z k u) (List.mem_map.2 ⟨u, hu, rfl⟩) (by omega)
          rcases q2 with ⟨_, q2⟩ | ⟨r, hr', r0, q2⟩
          · omega
          · obtain ⟨y, hy, rfl⟩ := List.mem_map.1 hr'
            rcases ilt_or_ge (rk P S Z k y) k with q5 | q5
            · exfalso
              obtain ⟨i, hi⟩ : ∃ i : Nat, rk P S Z k y = (i : Int) := ⟨(rk P S Z k y).toNat, by omega⟩
              have hi2 := rk_at r0 i (by omega)
              have hvi := rk_none (P := P) (S := S) (Z := Z) q (i + 1) (by omega)
              have hvi0 := rk_none (P := P) (S := S) (Z := Z) q i (by omega)
              have this : rk P S Z (i + 1) v = rkRow (P v) (S v) ((i + 1 : Nat) : Int) (rk P S Z i) v := rfl
              unfold rkRow at this
              rw [if_pos hvi0, hp'] at this
              rcases nx_p (least := -1) (most := -1) (by omega) (rk_all (P := P) (S := S) (Z := Z) i (S v)) with ⟨_, _, z3⟩ | ⟨z1, z2, _, z4⟩
              · have := z3 (rk P S Z i y) (List.mem_map.2 ⟨y, hy, rfl⟩); omega
              · have hle2 := z4 (rk P S Z i y) (List.mem_map.2 ⟨y, hy, rfl⟩) (by omega)
                by_cases hne : nx true (-1) (-1) ((S v).map (rk P S Z i)) = ((i + 1 : Nat) : Int)
                · rw [if_pos hne] at this; omega
                · rcases z2 with ⟨_, z2⟩ | ⟨r2, hr2, r20, z2⟩
                  · omega
                  · obtain ⟨y2, hy2, rfl⟩ := List.mem_map.1 hr2
                    have hy2k : rk P S Z k y2 = rk P S Z i y2 := rk_mono r20 k (by omega)
                    have := q4 (rk P S Z k y2) (List.mem_map.2 ⟨y2, hy2, rfl⟩) (by omega)
                    omega
            · have := (rk_range (P := P) (S := S) (Z := Z) k y).2
              rw [if_pos (by omega)]
      rw [rk_mono (k := k + 1) (by omega) n (by omega), e]
      omega
    · rw [rk_mono q n (by omega)]
      have := (rk_range (P := P) (S := S) (Z := Z) k v).2
      omega
  o := fun v hv hp h u hu => by
    obtain ⟨j, h1, h2, h3, h4⟩ := rk_from h
    have hp' : P v = false := by simpa using hp
    rw [hp'] at h4
    rcases nx_o (least := -1) (most := -1) (by omega) (rk_all (P := P) (S := S) (Z := Z) j (S v)) with ⟨q, _⟩ | ⟨q1, _, _⟩
    · omega
    · have := q1 (rk P S Z j u) (List.mem_map.2 ⟨u, hu, rfl⟩)
      rw [rk_mono this.1 n (by omega)]
      omega
  o' := fun v hv hp k hk hall => by
    have hp' : P v = false := by simpa using hp
    obtain ⟨hne, hlt⟩ := hS v hv
    rcases nx_o (least := -1) (most := -1) (by omega) (rk_all (P := P) (S := S) (Z := Z) n (S v)) with ⟨_, r, hr, q⟩ | ⟨q1, _, q3⟩
    · obtain ⟨u, hu, rfl⟩ := List.mem_map.1 hr
      have := hall u hu; omega
    · obtain ⟨y, hy, hM⟩ : ∃ y ∈ S v, nx false (-1) (-1) ((S v).map (rk P S Z n)) = rk P S Z n y + 1 := by
        rcases q3 with q3 | ⟨r, hr, q3⟩
        · exfalso
          cases hs : S v with
          | nil => exact hne hs
          | cons u l =>
            have := q1 (rk P S Z n u) (by rw [hs]; simp)
            omega
        · obtain ⟨u, hu, rfl⟩ := List.mem_map.1 hr
          exact ⟨u, hu, q3⟩
      have hy0 := hall y hy
      have hyn := rk_small (P := P) (S := S) (Z := Z) (k := n) hS (hlt y hy)
      obtain ⟨j, hj⟩ : ∃ j : Nat, rk P S Z n y = (j : Int) := ⟨(rk P S Z n y).toNat, by omega⟩
      have hsame : (S v).map (rk P S Z j) = (S v).map (rk P S Z n) := List.map_congr_left fun u hu => by
        have := q1 (rk P S Z n u) (List.mem_map.2 ⟨u, hu, rfl⟩)
        exact rk_at this.1 j (by omega)
      rcases ilt_or_ge (rk P S Z j v) 0 with q | q
      · have e : rk P S Z (j + 1) v = ((j + 1 : Nat) : Int) := by
          show rkRow _ _ _ _ _ = _
          unfold rkRow
          rw [if_pos q, hp', hsame, hM, if_pos (by omega)]
        rw [rk_mono (k := j + 1) (by omega) n (by omega), e]
        omega
      · rw [rk_mono q n (by omega)]
        have := (rk_range (P := P) (S := S) (Z := Z) j v).2
        omega
end
end Go.Am.Ar

set_option linter.unusedVariables false
set_option linter.unusedSimpArgs false
set_option maxRecDepth 10000
namespace Go.Am.Ar
open Go.Am renaming pchk → P1, pold → P2, PKNo → P3, ppack → P4, PObj.under → P5, pput → P6, ptset → P7, ptget → P8, pev → P9, ofAV → P10, ofAV1 → P11, ppad → P12, pfill → P13, prepl → P14, AO.effect → P15
open List renaming replicate → L1
open Nat renaming reduceAdd → N1, reduceSub → N2, reduceMul → N3, reduceLT → N4, reduceLeDiff → N5, reduceEqDiff → N6, reduceBEq → N7
open Int renaming reduceToNat → I1, reduceLT → I2, reduceLE → I3, reduceEq → I4, reduceAdd → I5, reduceSub → I6, reduceNeg → I7

def Pf (ow : List Int) (side : Int) (v : Nat) : Bool := decide (ow.getD v 0 = side)
def Sf (su : List (List Int)) (v : Nat) : List Nat := (su.getD v []).map Int.toNat
def Zf (keep : List Int) (v : Nat) : Bool := decide ((v : Int) ∈ keep)

section
variable {tab : FuncId → Option AF} (T : HasA tab)
include T

theorem next_p {M : Mem} {K : PV → Mem → Prop} {f1 o1 f2 o2 f3 o3 f4 o4 f5 o5 : Bool} {ow pr was row : List Int} {side o : Int} {v : Nat} {su : List (List Int)} (g1 : su[v]? = some row) (g2 : ow[v]? = some o) (hb : row.length < big)
    (hw : ∀ x ∈ was, -1 ≤ x ∧ x ≤ 100000) (hr : ∀ u ∈ row, 0 ≤ u ∧ u < was.length) (hq : K (p64 (nx (decide (o = side)) (-1) (-1) (row.map fun u => was.getD u.toNat 0))) M) :
    SemC tab 40 [gmP f1 o1 f2 o2 f3 o3 f4 o4 ow pr su, p8 side, slI f5 o5 .i64 was, p64 v] M K := by
  refine SemC_pure T.h40 (by simp only [PP, P1, P2, P3, P4, P5, P6, P7, P8, P9, P10, P11, P12, P13, P14, L1, P15, N1, N2, N3, N4, N5, N6, N7, I1, I2, I3, I4, I5, I6, I7, reduceIte, reduceCtorEq]) ?_
  have v0 : (0 : Int) ≤ v := by omega
  have v1 : (v : Int) < su.length := by have := getSome_lt g1; omega
  have v2 : (v : Int) < ow.length := by have := getSome_lt g2; omega
  simp only [af40, PP, P1, P2, P3, P4, P5, P6, P7, P8, P9, P10, P11, P12, P13, P14, L1, P15, N1, N2, N3, N4, N5, N6, N7, I1, I2, I3, I4, I5, I6, I7, reduceIte, reduceCtorEq]
  refine loop3 (fun (j : Nat) (least most : Int) => j ≤ row.length ∧ -1 ≤ least ∧ least ≤ 100000 ∧ -1 ≤ most ∧ most ≤ 100000 ∧ K (p64 (nx (decide (o = side)) least most ((row.drop j).map fun u => was.getD u.toNat 0))) M)
    (fun j least most => [.junk, p8 side, slI f5 o5 .i64 was, p64 v, .ptr 0 0 0, .junk, .junk, .junk, .junk, p64 least, p64 most, p64 j, .junk, .junk, .junk, .junk, .junk, .junk, .junk, .junk, .junk, .junk, .junk, .junk, .junk, .junk, .junk, .junk, .junk, .junk, .junk, .junk, .junk, .junk, .junk, .junk, .junk, .junk, .junk, .junk, .junk, .junk, .junk, .junk, .junk, .junk, .junk, .junk, .junk, .junk, .junk, .junk, .junk, .junk, .junk, .junk, .junk, .junk, .junk, .junk, .junk, .junk, .junk, .junk, .junk, .junk, .junk]) (fun _ _ _ => [.cells 0 0 [slI f1 o1 .u8 ow, slI f2 o2 .i64 pr, slR f3 o3 f4 o4 .i64 su]])
    (fun j _ _ => row.length - j) 0 (-1) (-1) ⟨by omega, by omega, by omega, by omega, by omega, hq⟩ (by simp only [PWeak_nil, PWeak_junk, PWeak_same, Int.cast_ofNat_Int, List.length_append, List.length_cons, List.length_nil, Nat.zero_add]) rfl ?_
  intro j least most ⟨hle, l1, l2, m1, m2, hq⟩ ih
  refine SemW_go (by kernel_rfl) ?_
  simp only [PP, P1, P2, P3, P4, P5, P6, P7, P8, P9, P10, P11, P12, P13, P14, L1, P15, N1, N2, N3, N4, N5, N6, N7, I1, I2, I3, I4, I5, I6, I7, reduceIte, reduceCtorEq, v0, v1, g1]
  refine QIf.intro (fun c => ?_) (fun c => ?_)
  · have hj : j < row.length := by omega
    obtain ⟨u, e1⟩ := some_of hj
    obtain ⟨u0, u1⟩ := hr u (List.mem_of_getElem? e1)
    obtain ⟨r, e2⟩ := some_of (xs := was) (k := u.toNat) (by omega)
    obtain ⟨r1, r2⟩ := hw r (List.mem_of_getElem? e2)
    have j0 : (0 : Int) ≤ j := by omega
    have hwj := wrap_succ (k := j) (by omega)
    rw [drop_some e1, List.map_cons, getD_some e2] at hq
    unfold nx at hq
    simp only [PP, P1, P2, P3, P4, P5, P6, P7, P8, P9, P10, P11, P12, P13, P14, L1, P15, N1, N2, N3, N4, N5, N6, N7, I1, I2, I3, I4, I5, I6, I7, reduceIte, reduceCtorEq, c, v0, v1, v2, g1, g2, e1, e2, u0, u1, j0] at hq ⊢
    refine QIf.intro (fun d => ?_) (fun d => ?_)
    · simp only [PP, P1, P2, P3, P4, P5, P6, P7, P8, P9, P10, P11, P12, P13, P14, L1, P15, N1, N2, N3, N4, N5, N6, N7, I1, I2, I3, I4, I5, I6, I7, reduceIte, reduceCtorEq, d, v0, v2, g2] at hq ⊢
      refine QIf.intro (fun d2 => ?_) (fun d2 => ?_)
      · simp only [PP, P1, P2, P3, P4, P5, P6, P7, P8, P9, P10, P11, P12, P13, P14, L1, P15, N1, N2, N3, N4, N5, N6, N7, I1, I2, I3, I4, I5, I6, I7, reduceIte, reduceCtorEq, d2, hwj] at hq ⊢
        exact SemW_weak (ih (j + 1) least most ⟨by omega, l1, l2, m1, m2, by simpa [d2] using hq⟩ (by omega)) (by simp only [PWeak_nil, PWeak_junk, PWeak_same, Int.cast_ofNat_Int, List.length_append, List.length_cons, List.length_nil, Nat.zero_add])
      · simp only [PP, P1, P2, P3, P4, P5, P6, P7, P8, P9, P10, P11, P12, P13, P14, L1, P15, N1, N2, N3, N4, N5, N6, N7, I1, I2, I3, I4, I5, I6, I7, reduceIte, reduceCtorEq, d2] at hq ⊢
        exact hq
    · simp only [PP, P1, P2, P3, P4, P5, P6, P7, P8, P9, P10, P11, P12, P13, P14, L1, P15, N1, N2, N3, N4, N5, N6, N7, I1, I2, I3, I4, I5, I6, I7, reduceIte, reduceCtorEq, d] at hq ⊢
      refine QIf.intro (fun d2 => ?_) (fun d2 => ?_)
      · simp only [PP, P1, P2, P3, P4, P5, P6, P7, P8, P9, P10, P11, P12, P13, P14, L1, P15, N1, N2, N3, N4, N5, N6, N7, I1, I2, I3, I4, I5, I6, I7, reduceIte, reduceCtorEq, d2, hwj] at hq ⊢
        exact SemW_weak (ih (j + 1) r (max most r) ⟨by omega, r1, r2, by omega, by omega, hq⟩ (by omega)) (by simp only [PWeak_nil, PWeak_junk, PWeak_same, Int.cast_ofNat_Int, List.length_append, List.length_cons, List.length_nil, Nat.zero_add])
      · simp only [PP, P1, P2, P3, P4, P5, P6, P7, P8, P9, P10, P11, P12, P13, P14, L1, P15, N1, N2, N3, N4, N5, N6, N7, I1, I2, I3, I4, I5, I6, I7, reduceIte, reduceCtorEq, d2] at hq ⊢
        refine QIf.intro (fun d3 => ?_) (fun d3 => ?_)
        · simp only [PP, P1, P2, P3, P4, P5, P6, P7, P8, P9, P10, P11, P12, P13, P14, L1, P15, N1, N2, N3, N4, N5, N6, N7, I1, I2, I3, I4, I5, I6, I7, reduceIte, reduceCtorEq, d3, hwj] at hq ⊢
          exact SemW_weak (ih (j + 1) r (max most r) ⟨by omega, r1, r2, by omega, by omega, hq⟩ (by omega)) (by simp only [PWeak_nil, PWeak_junk, PWeak_same, Int.cast_ofNat_Int, List.length_append, List.length_cons, List.length_nil, Nat.zero_add])
        · simp only [PP, P1, P2, P3, P4, P5, P6, P7, P8, P9, P10, P11, P12, P13, P14, L1, P15, N1, N2, N3, N4, N5, N6, N7, I1, I2, I3, I4, I5, I6, I7, reduceIte, reduceCtorEq, d3, hwj] at hq ⊢
          exact SemW_weak (ih (j + 1) least (max most r) ⟨by omega, l1, l2, by omega, by omega, hq⟩ (by omega)) (by simp only [PWeak_nil, PWeak_junk, PWeak_same, Int.cast_ofNat_Int, List.length_append, List.length_cons, List.length_nil, Nat.zero_add])
  · rw [List.drop_eq_nil_of_le (by omega), List.map_nil] at hq
    have w1 : IntKind.i64.wrap (least + 1) = least + 1 := wrap64 (by omega) (by omega)
    have w2 : IntKind.i64.wrap (most + 1) = most + 1 := wrap64 (by omega) (by omega)
    unfold nx at hq
    simp only [PP, P1, P2, P3, P4, P5, P6, P7, P8, P9, P10, P11, P12, P13, P14, L1, P15, N1, N2, N3, N4, N5, N6, N7, I1, I2, I3, I4, I5, I6, I7, reduceIte, reduceCtorEq, c, v0, v2, g2] at hq ⊢
    refine QIf.intro (fun d => ?_) (fun d => ?_)
    · simp only [PP, P1, P2, P3, P4, P5, P6, P7, P8, P9, P10, P11, P12, P13, P14, L1, P15, N1, N2, N3, N4, N5, N6, N7, I1, I2, I3, I4, I5, I6, I7, reduceIte, reduceCtorEq, d] at hq ⊢
      refine QIf.intro (fun d2 => ?_) (fun d2 => ?_)
      · simp only [PP, P1, P2, P3, P4, P5, P6, P7, P8, P9, P10, P11, P12, P13, P14, L1, P15, N1, N2, N3, N4, N5, N6, N7, I1, I2, I3, I4, I5, I6, I7, reduceIte, reduceCtorEq, d2] at hq ⊢
        exact hq
      simp only [PP, P1, P2, P3, P4, P5, P6, P7, P8, P9, P10, P11, P12, P13, P14, L1, P15, N1, N2, N3, N4, N5, N6, N7, I1, I2, I3, I4, I5, I6, I7, reduceIte, reduceCtorEq, d2, w1] at hq ⊢
      exact hq
    · simp only [PP, P1, P2, P3, P4, P5, P6, P7, P8, P9, P10, P11, P12, P13, P14, L1, P15, N1, N2, N3, N4, N5, N6, N7, I1, I2, I3, I4, I5, I6, I7, reduceIte, reduceCtorEq, d, w2] at hq ⊢
      exact hq
end
end Go.Am.Ar
