/- Contracts of the small functions that games are checked with, and what goes with it. -/
import Derived.Test.YtgapkfaikhlipaaImproveMatchesCode
import Derived.Test.YtgapkfaikhlipaaPmR
import Derived.Test.YtgapkfaikhlipaaPmC
set_option linter.unusedVariables false
set_option linter.unusedSimpArgs false
set_option maxRecDepth 10000
namespace Go.Am.Ar
open Go.Am renaming pchk → P1, pold → P2, PKNo → P3, ppack → P4, PObj.under → P5, pput → P6, ptset → P7, ptget → P8, pev → P9, ofAV → P10, ofAV1 → P11, ppad → P12, pfill → P13, prepl → P14, AO.effect → P15
open List renaming replicate → L1
open Nat renaming reduceAdd → N1, reduceSub → N2, reduceMul → N3, reduceLT → N4, reduceLeDiff → N5, reduceEqDiff → N6, reduceBEq → N7
open Int renaming reduceToNat → I1, reduceLT → I2, reduceLE → I3, reduceEq → I4, reduceAdd → I5, reduceSub → I6, reduceNeg → I7
abbrev big : Nat := 1000000000000
theorem wrap_succ {k : Nat} (h : k < big) : IntKind.i64.wrap ((k : Int) + 1) = ((k + 1 : Nat) : Int) := by
  have h : k < 1000000000000 := h
  rw [wrap64 (by omega) (by omega)]; omega
theorem drop_get' {α : Type} {xs : List α} {k : Nat} (h : k < xs.length) : xs.drop k = xs[k] :: xs.drop (k + 1) := List.drop_eq_getElem_cons h
theorem some_of {α : Type} {xs : List α} {k : Nat} (h : k < xs.length) : ∃ x, xs[k]? = some x := ⟨xs[k], List.getElem?_eq_getElem h⟩
theorem drop_some {α : Type} {xs : List α} {k : Nat} {x : α} (h : xs[k]? = some x) : xs.drop k = x :: xs.drop (k + 1) := by
  have hk := getSome_lt h
  rw [List.drop_eq_getElem_cons hk]
  rw [List.getElem?_eq_getElem hk] at h
  cases h; rfl
theorem take_some {α : Type} {xs : List α} {k : Nat} {x : α} (h : xs[k]? = some x) : xs.take (k + 1) = xs.take k ++ [x] := by simp [List.take_add_one, h]
theorem getD_some {xs : List Int} {k : Nat} {x : Int} (h : xs[k]? = some x) : xs.getD k 0 = x := by simp [List.getD, h]
def posM (n : Int) : Int → List Int → Bool
  | _, [] => true
  | last, v :: l => if v ≤ last then false else if n ≤ v then false else posM n v l
section
variable {tab : FuncId → Option AF} (T : HasA tab)
include T
theorem positions_p {M : Mem} {K : PV → Mem → Prop} {f o : Bool} {xs : List Int} {n : Int} (hm : xs.length < big) (hk : K (.bool (posM n (-1) xs)) M) :
    SemC tab 79 [slI f o .i64 xs, p64 n] M K := by
  refine SemC_pure T.h79 (by simp only [PP, P1, P2, P3, P4, P5, P6, P7, P8, P9, P10, P11, P12, P13, P14, L1, P15, N1, N2, N3, N4, N5, N6, N7, I1, I2, I3, I4, I5, I6, I7, reduceIte, reduceCtorEq]) ?_
  simp only [af79, PP, P1, P2, P3, P4, P5, P6, P7, P8, P9, P10, P11, P12, P13, P14, L1, P15, N1, N2, N3, N4, N5, N6, N7, I1, I2, I3, I4, I5, I6, I7, reduceIte, reduceCtorEq]
  refine loop2 (fun (k : Nat) (last : Int) => k ≤ xs.length ∧ K (.bool (posM n last (xs.drop k))) M) (fun k last => [.junk, p64 n, .junk, .junk, .junk, p64 last, .junk, .junk, slI f o .i64 xs, p64 xs.length, p64 k, .junk, .junk, .junk, .junk, .junk, .junk, .junk, .junk, .junk, .junk, .junk, .junk, .junk]) (fun _ _ => []) (fun k _ => xs.length - k) 0 (-1) ⟨by omega, hk⟩ (by simp only [PWeak_nil, PWeak_junk, PWeak_same, Int.cast_ofNat_Int, List.length_append, List.length_cons, List.length_nil, Nat.zero_add]) rfl ?_
  intro k last ⟨hk, hq⟩ ih
  refine SemW_go (by kernel_rfl) ?_
  simp only [PP, P1, P2, P3, P4, P5, P6, P7, P8, P9, P10, P11, P12, P13, P14, L1, P15, N1, N2, N3, N4, N5, N6, N7, I1, I2, I3, I4, I5, I6, I7, reduceIte, reduceCtorEq]
  refine QIf.intro (fun c => ?_) (fun c => ?_)
  · have hk' : k < xs.length := by omega
    rw [drop_get' hk'] at hq
    have hw := wrap_succ (k := k) (by omega)
    have hg : xs[k]? = some xs[k] := List.getElem?_eq_getElem hk'
    have h0 : (0 : Int) ≤ k := by omega
    simp only [PP, P1, P2, P3, P4, P5, P6, P7, P8, P9, P10, P11, P12, P13, P14, L1, P15, N1, N2, N3, N4, N5, N6, N7, I1, I2, I3, I4, I5, I6, I7, reduceIte, reduceCtorEq, posM, c, hg, hw, h0] at hq ⊢
    refine QIf.intro (fun h1 => ?_) (fun h1 => ?_)
    · simp only [PP, P1, P2, P3, P4, P5, P6, P7, P8, P9, P10, P11, P12, P13, P14, L1, P15, N1, N2, N3, N4, N5, N6, N7, I1, I2, I3, I4, I5, I6, I7, reduceIte, reduceCtorEq, h1] at hq ⊢
      exact hq
    · simp only [PP, P1, P2, P3, P4, P5, P6, P7, P8, P9, P10, P11, P12, P13, P14, L1, P15, N1, N2, N3, N4, N5, N6, N7, I1, I2, I3, I4, I5, I6, I7, reduceIte, reduceCtorEq, h1] at hq ⊢
      refine QIf.intro (fun h2 => ?_) (fun h2 => ?_)
      · simp only [PP, P1, P2, P3, P4, P5, P6, P7, P8, P9, P10, P11, P12, P13, P14, L1, P15, N1, N2, N3, N4, N5, N6, N7, I1, I2, I3, I4, I5, I6, I7, reduceIte, reduceCtorEq, h2] at hq ⊢
        exact hq
      · simp only [PP, P1, P2, P3, P4, P5, P6, P7, P8, P9, P10, P11, P12, P13, P14, L1, P15, N1, N2, N3, N4, N5, N6, N7, I1, I2, I3, I4, I5, I6, I7, reduceIte, reduceCtorEq, h2, hw] at hq ⊢
        exact SemW_weak (ih (k + 1) _ ⟨by omega, hq⟩ (by omega)) (by simp only [PWeak_nil, PWeak_junk, PWeak_same, Int.cast_ofNat_Int, List.length_append, List.length_cons, List.length_nil, Nat.zero_add])
  · simp only [PP, P1, P2, P3, P4, P5, P6, P7, P8, P9, P10, P11, P12, P13, P14, L1, P15, N1, N2, N3, N4, N5, N6, N7, I1, I2, I3, I4, I5, I6, I7, reduceIte, reduceCtorEq, c]
    rw [List.drop_eq_nil_of_le (by omega)] at hq
    exact hq
abbrev gmP (f1 o1 f2 o2 f3 o3 f4 o4 : Bool) (ow pr : List Int) (su : List (List Int)) : PV := .agg [slI f1 o1 .u8 ow, slI f2 o2 .i64 pr, slR f3 o3 f4 o4 .i64 su]
structure Bnd (ow pr : List Int) (su : List (List Int)) : Prop where
  o : ow.length < big
  p : pr.length < big
  s : su.length < big
  r : ∀ row ∈ su, row.length < big
def checkLoop (ow pr : List Int) : Nat → List (List Int) → Int
  | _, [] => 0
  | k, row :: rest => if 1 < ow.getD k 0 then 6 else if pr.getD k 0 < 0 then 1 else if 16 < pr.getD k 0 then 1 else if (row.length : Int) = 0 then 13 else if posM ow.length (-1) row = false then 8 else checkLoop ow pr (k + 1) rest
def checkM (ow pr : List Int) (su : List (List Int)) : Int :=
  if (ow.length : Int) = 0 then 3 else if 4096 < (ow.length : Int) then 10 else if (pr.length : Int) = ow.length then (if (su.length : Int) = ow.length then checkLoop ow pr 0 su else 2) else 2
omit T in
theorem checkM_len {ow pr : List Int} {su : List (List Int)} (h : checkM ow pr su = 0) : 0 < ow.length ∧ ow.length ≤ 4096 ∧ pr.length = ow.length ∧ su.length = ow.length ∧ checkLoop ow pr 0 su = 0 := by
  unfold checkM at h
  split at h
  · simp at h
  · split at h
    · simp at h
    · split at h
      · split at h
        · exact ⟨by omega, by omega, by omega, by omega, h⟩
        · simp at h
      · simp at h
theorem check_p {M : Mem} {K : PV → Mem → Prop} {f1 o1 f2 o2 f3 o3 f4 o4 : Bool} {ow pr : List Int} {su : List (List Int)} (B : Bnd ow pr su) (hq : K (p64 (checkM ow pr su)) M) :
    SemC tab 50 [gmP f1 o1 f2 o2 f3 o3 f4 o4 ow pr su] M K := by
  refine SemC_pure T.h50 (by simp only [PP, P1, P2, P3, P4, P5, P6, P7, P8, P9, P10, P11, P12, P13, P14, L1, P15, N1, N2, N3, N4, N5, N6, N7, I1, I2, I3, I4, I5, I6, I7, reduceIte, reduceCtorEq]) ?_
  simp only [af50, PP, P1, P2, P3, P4, P5, P6, P7, P8, P9, P10, P11, P12, P13, P14, L1, P15, N1, N2, N3, N4, N5, N6, N7, I1, I2, I3, I4, I5, I6, I7, reduceIte, reduceCtorEq, checkM] at hq ⊢
  refine QIf.intro (fun c1 => ?_) (fun c1 => ?_)
  · simp only [PP, P1, P2, P3, P4, P5, P6, P7, P8, P9, P10, P11, P12, P13, P14, L1, P15, N1, N2, N3, N4, N5, N6, N7, I1, I2, I3, I4, I5, I6, I7, reduceIte, reduceCtorEq, c1] at hq ⊢
    exact hq
  simp only [PP, P1, P2, P3, P4, P5, P6, P7, P8, P9, P10, P11, P12, P13, P14, L1, P15, N1, N2, N3, N4, N5, N6, N7, I1, I2, I3, I4, I5, I6, I7, reduceIte, reduceCtorEq, c1] at hq ⊢
  refine QIf.intro (fun c2 => ?_) (fun c2 => ?_)
  · simp only [PP, P1, P2, P3, P4, P5, P6, P7, P8, P9, P10, P11, P12, P13, P14, L1, P15, N1, N2, N3, N4, N5, N6, N7, I1, I2, I3, I4, I5, I6, I7, reduceIte, reduceCtorEq, c2] at hq ⊢
    exact hq
  simp only [PP, P1, P2, P3, P4, P5, P6, P7, P8, P9, P10, P11, P12, P13, P14, L1, P15, N1, N2, N3, N4, N5, N6, N7, I1, I2, I3, I4, I5, I6, I7, reduceIte, reduceCtorEq, c2] at hq ⊢
  refine QIf.intro (fun c3 => ?_) (fun c3 => ?_)
  rotate_left
  · simp only [PP, P1, P2, P3, P4, P5, P6, P7, P8, P9, P10, P11, P12, P13, P14, L1, P15, N1, N2, N3, N4, N5, N6, N7, I1, I2, I3, I4, I5, I6, I7, reduceIte, reduceCtorEq, c3] at hq ⊢
    exact hq
  simp only [PP, P1, P2, P3, P4, P5, P6, P7, P8, P9, P10, P11, P12, P13, P14, L1, P15, N1, N2, N3, N4, N5, N6, N7, I1, I2, I3, I4, I5, I6, I7, reduceIte, reduceCtorEq, c3] at hq ⊢
  refine QIf.intro (fun c4 => ?_) (fun c4 => ?_)
  rotate_left
  · simp only [PP, P1, P2, P3, P4, P5, P6, P7, P8, P9, P10, P11, P12, P13, P14, L1, P15, N1, N2, N3, N4, N5, N6, N7, I1, I2, I3, I4, I5, I6, I7, reduceIte, reduceCtorEq, c4] at hq ⊢
    exact hq
  simp only [PP, P1, P2, P3, P4, P5, P6, P7, P8, P9, P10, P11, P12, P13, P14, L1, P15, N1, N2, N3, N4, N5, N6, N7, I1, I2, I3, I4, I5, I6, I7, reduceIte, reduceCtorEq, c4] at hq ⊢
  have d4 : su.length = ow.length := by omega
  refine loop1 (fun (k : Nat) => k ≤ su.length ∧ K (p64 (checkLoop ow pr k (su.drop k))) M) (fun k => [.junk, .ptr 0 0 0, .junk, p64 ow.length, .junk, .junk, .junk, .junk, .junk, .junk, .junk, .junk, .junk, .junk, .junk, .junk, .junk, .junk, .junk, .junk, .junk, .junk, .junk, .junk, .junk, .junk, .junk, .junk, .junk, slR f3 o3 f4 o4 .i64 su, p64 ow.length, p64 k, .junk, .junk, .junk, .junk, .junk, .junk, .junk, .junk, .junk, .junk, .junk, .junk, .junk, .junk, .junk, .junk, .junk, .junk, .junk, .junk, .junk, .junk, .junk, .junk, .junk, .junk, .junk, .junk, .junk, .junk, .junk, .junk, .junk, .junk, .junk, .junk]) (fun _ => [.cells 0 0 [slI f1 o1 .u8 ow, slI f2 o2 .i64 pr, slR f3 o3 f4 o4 .i64 su]]) (fun k => su.length - k) 0 ⟨by omega, hq⟩ (by simp only [PWeak_nil, PWeak_junk, PWeak_same, Int.cast_ofNat_Int, d4]) rfl ?_
  intro k ⟨hle, hq⟩ ih
  refine SemW_go (by kernel_rfl) ?_
  simp only [PP, P1, P2, P3, P4, P5, P6, P7, P8, P9, P10, P11, P12, P13, P14, L1, P15, N1, N2, N3, N4, N5, N6, N7, I1, I2, I3, I4, I5, I6, I7, reduceIte, reduceCtorEq]
  refine QIf.intro (fun c => ?_) (fun c => ?_)
  · have hk' : k < su.length := by omega
    have g1 : su[k]? = some su[k] := List.getElem?_eq_getElem hk'
    have g2 : ow[k]? = some ow[k] := List.getElem?_eq_getElem (by omega)
    have g3 : pr[k]? = some pr[k] := List.getElem?_eq_getElem (by omega)
    have h0 : (0 : Int) ≤ k := by omega
    have hw := wrap_succ (k := k) (by have := B.s; omega)
    have e2 : ow.getD k 0 = ow[k] := by simp [List.getD, g2]
    have e3 : pr.getD k 0 = pr[k] := by simp [List.getD, g3]
    rw [drop_get' hk'] at hq
    have hks : (k : Int) < su.length := by omega
    have hkp : (k : Int) < pr.length := by omega
    simp only [PP, P1, P2, P3, P4, P5, P6, P7, P8, P9, P10, P11, P12, P13, P14, L1, P15, N1, N2, N3, N4, N5, N6, N7, I1, I2, I3, I4, I5, I6, I7, reduceIte, reduceCtorEq, checkLoop, c, g1, g2, g3, h0, e2, e3, hks, hkp] at hq ⊢
    refine QIf.intro (fun h1 => ?_) (fun h1 => ?_)
    · simp only [PP, P1, P2, P3, P4, P5, P6, P7, P8, P9, P10, P11, P12, P13, P14, L1, P15, N1, N2, N3, N4, N5, N6, N7, I1, I2, I3, I4, I5, I6, I7, reduceIte, reduceCtorEq, h1] at hq ⊢
      exact hq
    simp only [PP, P1, P2, P3, P4, P5, P6, P7, P8, P9, P10, P11, P12, P13, P14, L1, P15, N1, N2, N3, N4, N5, N6, N7, I1, I2, I3, I4, I5, I6, I7, reduceIte, reduceCtorEq, h1, g3, hkp, h0] at hq ⊢
    refine QIf.intro (fun h2 => ?_) (fun h2 => ?_)
    · simp only [PP, P1, P2, P3, P4, P5, P6, P7, P8, P9, P10, P11, P12, P13, P14, L1, P15, N1, N2, N3, N4, N5, N6, N7, I1, I2, I3, I4, I5, I6, I7, reduceIte, reduceCtorEq, h2] at hq ⊢
      exact hq
    simp only [PP, P1, P2, P3, P4, P5, P6, P7, P8, P9, P10, P11, P12, P13, P14, L1, P15, N1, N2, N3, N4, N5, N6, N7, I1, I2, I3, I4, I5, I6, I7, reduceIte, reduceCtorEq, h2, g3, hkp, h0] at hq ⊢
    refine QIf.intro (fun h3 => ?_) (fun h3 => ?_)
    · simp only [PP, P1, P2, P3, P4, P5, P6, P7, P8, P9, P10, P11, P12, P13, P14, L1, P15, N1, N2, N3, N4, N5, N6, N7, I1, I2, I3, I4, I5, I6, I7, reduceIte, reduceCtorEq, h3] at hq ⊢
      exact hq
    simp only [PP, P1, P2, P3, P4, P5, P6, P7, P8, P9, P10, P11, P12, P13, P14, L1, P15, N1, N2, N3, N4, N5, N6, N7, I1, I2, I3, I4, I5, I6, I7, reduceIte, reduceCtorEq, h3] at hq ⊢
    refine QIf.intro (fun h4 => ?_) (fun h4 => ?_)
    · simp only [PP, P1, P2, P3, P4, P5, P6, P7, P8, P9, P10, P11, P12, P13, P14, L1, P15, N1, N2, N3, N4, N5, N6, N7, I1, I2, I3, I4, I5, I6, I7, reduceIte, reduceCtorEq, h4] at hq ⊢
      exact hq
    simp only [PP, P1, P2, P3, P4, P5, P6, P7, P8, P9, P10, P11, P12, P13, P14, L1, P15, N1, N2, N3, N4, N5, N6, N7, I1, I2, I3, I4, I5, I6, I7, reduceIte, reduceCtorEq, h4] at hq ⊢
    refine positions_p T (B.r _ (List.getElem_mem hk')) ?_
    simp only [PP, P1, P2, P3, P4, P5, P6, P7, P8, P9, P10, P11, P12, P13, P14, L1, P15, N1, N2, N3, N4, N5, N6, N7, I1, I2, I3, I4, I5, I6, I7, reduceIte, reduceCtorEq]
    by_cases h5 : posM ow.length (-1) su[k] = true
    · simp only [PP, P1, P2, P3, P4, P5, P6, P7, P8, P9, P10, P11, P12, P13, P14, L1, P15, N1, N2, N3, N4, N5, N6, N7, I1, I2, I3, I4, I5, I6, I7, reduceIte, reduceCtorEq, h5, hw] at hq ⊢
      exact SemW_weak (ih (k + 1) ⟨by omega, hq⟩ (by omega)) (by simp only [PWeak_nil, PWeak_junk, PWeak_same, Int.cast_ofNat_Int, List.length_append, List.length_cons, List.length_nil, Nat.zero_add])
    · simp only [PP, P1, P2, P3, P4, P5, P6, P7, P8, P9, P10, P11, P12, P13, P14, L1, P15, N1, N2, N3, N4, N5, N6, N7, I1, I2, I3, I4, I5, I6, I7, reduceIte, reduceCtorEq, h5] at hq ⊢
      exact hq
  · simp only [PP, P1, P2, P3, P4, P5, P6, P7, P8, P9, P10, P11, P12, P13, P14, L1, P15, N1, N2, N3, N4, N5, N6, N7, I1, I2, I3, I4, I5, I6, I7, reduceIte, reduceCtorEq, c]
    rw [List.drop_eq_nil_of_le (by omega)] at hq
    exact hq
end
end Go.Am.Ar
set_option linter.unusedVariables false
set_option linter.unusedSimpArgs false
set_option maxRecDepth 10000
namespace Go.Am.Ar
open Go.Am renaming pchk → P1, pold → P2, PKNo → P3, ppack → P4, PObj.under → P5, pput → P6, ptset → P7, ptget → P8, pev → P9, ofAV → P10, ofAV1 → P11, ppad → P12, pfill → P13, prepl → P14, AO.effect → P15
open List renaming replicate → L1
open Nat renaming reduceAdd → N1, reduceSub → N2, reduceMul → N3, reduceLT → N4, reduceLeDiff → N5, reduceEqDiff → N6, reduceBEq → N7
open Int renaming reduceToNat → I1, reduceLT → I2, reduceLE → I3, reduceEq → I4, reduceAdd → I5, reduceSub → I6, reduceNeg → I7
section
variable {tab : FuncId → Option AF} (T : HasA tab)
include T
theorem equalInts_p {M : Mem} {K : PV → Mem → Prop} {f o f' o' : Bool} {xs ys : List Int} (hm : xs.length < big) (hk : K (.bool (decide (xs = ys))) M) :
    SemC tab 18 [slI f o .i64 xs, slI f' o' .i64 ys] M K := by
  refine SemC_pure T.h18 (by simp only [PP, P1, P2, P3, P4, P5, P6, P7, P8, P9, P10, P11, P12, P13, P14, L1, P15, N1, N2, N3, N4, N5, N6, N7, I1, I2, I3, I4, I5, I6, I7, reduceIte, reduceCtorEq]) ?_
  simp only [af18, PP, P1, P2, P3, P4, P5, P6, P7, P8, P9, P10, P11, P12, P13, P14, L1, P15, N1, N2, N3, N4, N5, N6, N7, I1, I2, I3, I4, I5, I6, I7, reduceIte, reduceCtorEq]
  refine QIf.intro (fun c1 => ?_) (fun c1 => ?_)
  · simp only [PP, P1, P2, P3, P4, P5, P6, P7, P8, P9, P10, P11, P12, P13, P14, L1, P15, N1, N2, N3, N4, N5, N6, N7, I1, I2, I3, I4, I5, I6, I7, reduceIte, reduceCtorEq, c1]
    have hl : xs.length = ys.length := by omega
    refine loop1 (fun (k : Nat) => k ≤ xs.length ∧ K (.bool (decide (xs.drop k = ys.drop k))) M) (fun k => [slI f o .i64 xs, slI f' o' .i64 ys, .junk, .junk, .junk, p64 k, .junk, .junk, .junk, .junk, .junk, .junk, .junk, .junk, .junk, .junk, .junk, .junk, .junk, .junk, .junk, .junk, .junk, .junk, .junk, .junk]) (fun _ => []) (fun k => xs.length - k) 0 ⟨by omega, hk⟩ (by simp only [PWeak_nil, PWeak_junk, PWeak_same, Int.cast_ofNat_Int, List.length_append, List.length_cons, List.length_nil, Nat.zero_add]) rfl ?_
    intro k ⟨hle, hq⟩ ih
    refine SemW_go (by kernel_rfl) ?_
    simp only [PP, P1, P2, P3, P4, P5, P6, P7, P8, P9, P10, P11, P12, P13, P14, L1, P15, N1, N2, N3, N4, N5, N6, N7, I1, I2, I3, I4, I5, I6, I7, reduceIte, reduceCtorEq]
    refine QIf.intro (fun c => ?_) (fun c => ?_)
    · have hk' : k < xs.length := by omega
      have hk2 : k < ys.length := by omega
      rw [drop_get' hk', drop_get' hk2] at hq
      have hw := wrap_succ (k := k) (by omega)
      have g1 : xs[k]? = some xs[k] := List.getElem?_eq_getElem hk'
      have g2 : ys[k]? = some ys[k] := List.getElem?_eq_getElem hk2
      have h0 : (0 : Int) ≤ k := by omega
      have cy : (k : Int) < ys.length := by omega
      simp only [PP, P1, P2, P3, P4, P5, P6, P7, P8, P9, P10, P11, P12, P13, P14, L1, P15, N1, N2, N3, N4, N5, N6, N7, I1, I2, I3, I4, I5, I6, I7, reduceIte, reduceCtorEq, c, g1, g2, hw, h0, cy] at hq ⊢
      refine QIf.intro (fun h1 => ?_) (fun h1 => ?_)
      · simp only [PP, P1, P2, P3, P4, P5, P6, P7, P8, P9, P10, P11, P12, P13, P14, L1, P15, N1, N2, N3, N4, N5, N6, N7, I1, I2, I3, I4, I5, I6, I7, reduceIte, reduceCtorEq, h1, hw, List.cons.injEq] at hq ⊢
        exact SemW_weak (ih (k + 1) ⟨by omega, hq⟩ (by omega)) (by simp only [PWeak_nil, PWeak_junk, PWeak_same, Int.cast_ofNat_Int, List.length_append, List.length_cons, List.length_nil, Nat.zero_add])
      · simp only [PP, P1, P2, P3, P4, P5, P6, P7, P8, P9, P10, P11, P12, P13, P14, L1, P15, N1, N2, N3, N4, N5, N6, N7, I1, I2, I3, I4, I5, I6, I7, reduceIte, reduceCtorEq, h1, List.cons.injEq] at hq ⊢
        exact hq
    · simp only [PP, P1, P2, P3, P4, P5, P6, P7, P8, P9, P10, P11, P12, P13, P14, L1, P15, N1, N2, N3, N4, N5, N6, N7, I1, I2, I3, I4, I5, I6, I7, reduceIte, reduceCtorEq, c]
      rw [List.drop_eq_nil_of_le (by omega), List.drop_eq_nil_of_le (by omega)] at hq
      simp only [PP, P1, P2, P3, P4, P5, P6, P7, P8, P9, P10, P11, P12, P13, P14, L1, P15, N1, N2, N3, N4, N5, N6, N7, I1, I2, I3, I4, I5, I6, I7, reduceIte, reduceCtorEq] at hq
      exact hq
  · simp only [PP, P1, P2, P3, P4, P5, P6, P7, P8, P9, P10, P11, P12, P13, P14, L1, P15, N1, N2, N3, N4, N5, N6, N7, I1, I2, I3, I4, I5, I6, I7, reduceIte, reduceCtorEq, c1]
    have hne : ¬ xs = ys := by rintro rfl; exact c1 rfl
    simp only [PP, P1, P2, P3, P4, P5, P6, P7, P8, P9, P10, P11, P12, P13, P14, L1, P15, N1, N2, N3, N4, N5, N6, N7, I1, I2, I3, I4, I5, I6, I7, reduceIte, reduceCtorEq, hne] at hk
    exact hk
theorem hasInt_p {M : Mem} {K : PV → Mem → Prop} {f o : Bool} {xs : List Int} {v : Int} (hm : xs.length < big) (hk : K (.bool (decide (v ∈ xs))) M) :
    SemC tab 47 [slI f o .i64 xs, p64 v] M K := by
  refine SemC_pure T.h47 (by simp only [PP, P1, P2, P3, P4, P5, P6, P7, P8, P9, P10, P11, P12, P13, P14, L1, P15, N1, N2, N3, N4, N5, N6, N7, I1, I2, I3, I4, I5, I6, I7, reduceIte, reduceCtorEq]) ?_
  simp only [af47, PP, P1, P2, P3, P4, P5, P6, P7, P8, P9, P10, P11, P12, P13, P14, L1, P15, N1, N2, N3, N4, N5, N6, N7, I1, I2, I3, I4, I5, I6, I7, reduceIte, reduceCtorEq]
  refine loop1 (fun (k : Nat) => k ≤ xs.length ∧ K (.bool (decide (v ∈ xs.drop k))) M) (fun k => [slI f o .i64 xs, p64 v, .junk, .junk, .junk, p64 k, .junk, .junk, .junk, .junk, .junk, .junk, .junk, .junk, .junk, .junk, .junk, .junk]) (fun _ => []) (fun k => xs.length - k) 0 ⟨by omega, hk⟩ (by simp only [PWeak_nil, PWeak_junk, PWeak_same, Int.cast_ofNat_Int, List.length_append, List.length_cons, List.length_nil, Nat.zero_add]) rfl ?_
  intro k ⟨hle, hq⟩ ih
  refine SemW_go (by kernel_rfl) ?_
  simp only [PP, P1, P2, P3, P4, P5, P6, P7, P8, P9, P10, P11, P12, P13, P14, L1, P15, N1, N2, N3, N4, N5, N6, N7, I1, I2, I3, I4, I5, I6, I7, reduceIte, reduceCtorEq]
  refine QIf.intro (fun c => ?_) (fun c => ?_)
  · have hk' : k < xs.length := by omega
    rw [drop_get' hk'] at hq
    have hw := wrap_succ (k := k) (by omega)
    have g1 : xs[k]? = some xs[k] := List.getElem?_eq_getElem hk'
    have h0 : (0 : Int) ≤ k := by omega
    simp only [PP, P1, P2, P3, P4, P5, P6, P7, P8, P9, P10, P11, P12, P13, P14, L1, P15, N1, N2, N3, N4, N5, N6, N7, I1, I2, I3, I4, I5, I6, I7, reduceIte, reduceCtorEq, c, g1, hw, h0, List.mem_cons] at hq ⊢
    refine QIf.intro (fun h1 => ?_) (fun h1 => ?_)
    · simp only [PP, P1, P2, P3, P4, P5, P6, P7, P8, P9, P10, P11, P12, P13, P14, L1, P15, N1, N2, N3, N4, N5, N6, N7, I1, I2, I3, I4, I5, I6, I7, reduceIte, reduceCtorEq, h1] at hq ⊢
      exact hq
    · have h1' : ¬ v = xs[k] := fun e => h1 e.symm
      simp only [PP, P1, P2, P3, P4, P5, P6, P7, P8, P9, P10, P11, P12, P13, P14, L1, P15, N1, N2, N3, N4, N5, N6, N7, I1, I2, I3, I4, I5, I6, I7, reduceIte, reduceCtorEq, h1, h1', hw] at hq ⊢
      exact SemW_weak (ih (k + 1) ⟨by omega, hq⟩ (by omega)) (by simp only [PWeak_nil, PWeak_junk, PWeak_same, Int.cast_ofNat_Int, List.length_append, List.length_cons, List.length_nil, Nat.zero_add])
  · simp only [PP, P1, P2, P3, P4, P5, P6, P7, P8, P9, P10, P11, P12, P13, P14, L1, P15, N1, N2, N3, N4, N5, N6, N7, I1, I2, I3, I4, I5, I6, I7, reduceIte, reduceCtorEq, c]
    rw [List.drop_eq_nil_of_le (by omega)] at hq
    simp only [PP, P1, P2, P3, P4, P5, P6, P7, P8, P9, P10, P11, P12, P13, P14, L1, P15, N1, N2, N3, N4, N5, N6, N7, I1, I2, I3, I4, I5, I6, I7, reduceIte, reduceCtorEq, List.not_mem_nil] at hq
    exact hq
theorem copyInts_p {M : Mem} {K : PV → Mem → Prop} {f o : Bool} {xs : List Int} (hm : xs.length < big) (hk : K (slI false true .i64 xs) M) :
    SemC tab 13 [slI f o .i64 xs] M K := by
  refine SemC_pure T.h13 (by simp only [PP, P1, P2, P3, P4, P5, P6, P7, P8, P9, P10, P11, P12, P13, P14, L1, P15, N1, N2, N3, N4, N5, N6, N7, I1, I2, I3, I4, I5, I6, I7, reduceIte, reduceCtorEq]) ?_
  have hb : xs.length < 1000000000000 := hm
  have b1 : xs.length * 8 ≤ 140737488355328 := by omega
  have b2 : xs.length ≤ 9223372036854775807 := by omega
  simp only [af13, PP, P1, P2, P3, P4, P5, P6, P7, P8, P9, P10, P11, P12, P13, P14, L1, P15, N1, N2, N3, N4, N5, N6, N7, I1, I2, I3, I4, I5, I6, I7, reduceIte, reduceCtorEq, b1, b2]
  exact hk
end
end Go.Am.Ar
set_option linter.unusedVariables false
set_option linter.unusedSimpArgs false
set_option maxRecDepth 10000
namespace Go.Am.Ar
open Go.Am renaming pchk → P1, pold → P2, PKNo → P3, ppack → P4, PObj.under → P5, pput → P6, ptset → P7, ptget → P8, pev → P9, ofAV → P10, ofAV1 → P11, ppad → P12, pfill → P13, prepl → P14, AO.effect → P15
open List renaming replicate → L1
open Nat renaming reduceAdd → N1, reduceSub → N2, reduceMul → N3, reduceLT → N4, reduceLeDiff → N5, reduceEqDiff → N6, reduceBEq → N7
open Int renaming reduceToNat → I1, reduceLT → I2, reduceLE → I3, reduceEq → I4, reduceAdd → I5, reduceSub → I6, reduceNeg → I7
section
variable {tab : FuncId → Option AF} (T : HasA tab)
include T
end
end Go.Am.Ar
set_option linter.unusedVariables false
set_option linter.unusedSimpArgs false
set_option maxRecDepth 10000
namespace Go.Am.Ar
open Go.Am renaming pchk → P1, pold → P2, PKNo → P3, ppack → P4, PObj.under → P5, pput → P6, ptset → P7, ptget → P8, pev → P9, ofAV → P10, ofAV1 → P11, ppad → P12, pfill → P13, prepl → P14, AO.effect → P15
open List renaming replicate → L1
open Nat renaming reduceAdd → N1, reduceSub → N2, reduceMul → N3, reduceLT → N4, reduceLeDiff → N5, reduceEqDiff → N6, reduceBEq → N7
open Int renaming reduceToNat → I1, reduceLT → I2, reduceLE → I3, reduceEq → I4, reduceAdd → I5, reduceSub → I6, reduceNeg → I7
def anyLong : List (List Int) → Bool
  | [] => false
  | r :: l => if 40 < (r.length : Int) then true else anyLong l
def longM (ow pr : List Int) (su ls : List (List Int)) : Bool :=
  if 30 < (ow.length : Int) then true else if 40 < (pr.length : Int) then true else if 40 < (su.length : Int) then true else if anyLong su = true then true else anyLong ls
theorem anyLong_false : ∀ {l : List (List Int)}, anyLong l = false → ∀ r ∈ l, r.length ≤ 40
  | [], h, r, hr => by cases hr
  | x :: l, h, r, hr => by
    unfold anyLong at h
    split at h
    · cases h
    · rcases List.mem_cons.1 hr with rfl | hr
      · omega
      · exact anyLong_false h r hr
structure Short (ow pr : List Int) (su ls : List (List Int)) : Prop where
  o : ow.length ≤ 30
  p : pr.length ≤ 40
  s : su.length ≤ 40
  r : ∀ row ∈ su, row.length ≤ 40
  l : ∀ row ∈ ls, row.length ≤ 40
theorem longM_false {ow pr : List Int} {su ls : List (List Int)} (h : longM ow pr su ls = false) : Short ow pr su ls := by
  unfold longM at h
  split at h
  · cases h
  · split at h
    · cases h
    · split at h
      · cases h
      · split at h
        · cases h
        · rename_i h4
          exact ⟨by omega, by omega, by omega, anyLong_false (by simpa using h4), anyLong_false h⟩
theorem Short.bnd {ow pr : List Int} {su ls : List (List Int)} (h : Short ow pr su ls) : Bnd ow pr su := by
  obtain ⟨h1, h2, h3, h4, h5⟩ := h
  exact ⟨by show _ < 1000000000000; omega, by show _ < 1000000000000; omega, by show _ < 1000000000000; omega, fun r hr => by show _ < 1000000000000; have := h4 r hr; omega⟩
section
variable {tab : FuncId → Option AF} (T : HasA tab)
include T
theorem rises_p {M : Mem} {K : PV → Mem → Prop} {f o : Bool} {xs : List Int} {n : Int} (hm : xs.length < big) (hk : K (.bool (posM n (-1) xs)) M) :
    SemC tab 63 [slI f o .i64 xs, p64 n] M K := by
  refine SemC_pure T.h63 (by simp only [PP, P1, P2, P3, P4, P5, P6, P7, P8, P9, P10, P11, P12, P13, P14, L1, P15, N1, N2, N3, N4, N5, N6, N7, I1, I2, I3, I4, I5, I6, I7, reduceIte, reduceCtorEq]) ?_
  simp only [af63, PP, P1, P2, P3, P4, P5, P6, P7, P8, P9, P10, P11, P12, P13, P14, L1, P15, N1, N2, N3, N4, N5, N6, N7, I1, I2, I3, I4, I5, I6, I7, reduceIte, reduceCtorEq]
  refine loop2 (fun (k : Nat) (last : Int) => k ≤ xs.length ∧ -1 ≤ last ∧ ((k = 0 ∧ last = -1) ∨ (0 < k ∧ xs[k - 1]? = some last)) ∧ K (.bool (posM n last (xs.drop k))) M) (fun k last => [slI f o .i64 xs, p64 n, .junk, .junk, .junk, p64 k, .junk, .junk, .junk, .junk, .junk, .junk, .junk, .junk, .junk, .junk, .junk, .junk, .junk, .junk, .junk, .junk, .junk, .junk, .junk, .junk, .junk, .junk, .junk, .junk, .junk, .junk, .junk, .junk, .junk, .junk, .junk, .junk, .junk, .junk, .junk]) (fun _ _ => []) (fun k _ => xs.length - k) 0 (-1) ⟨by omega, by omega, .inl ⟨rfl, rfl⟩, hk⟩ (by simp only [PWeak_nil, PWeak_junk, PWeak_same, Int.cast_ofNat_Int, List.length_append, List.length_cons, List.length_nil, Nat.zero_add]) rfl ?_
  intro k last ⟨hle, hl1, hi, hq⟩ ih
  refine SemW_go (by kernel_rfl) ?_
  simp only [PP, P1, P2, P3, P4, P5, P6, P7, P8, P9, P10, P11, P12, P13, P14, L1, P15, N1, N2, N3, N4, N5, N6, N7, I1, I2, I3, I4, I5, I6, I7, reduceIte, reduceCtorEq]
  refine QIf.intro (fun c => ?_) (fun c => ?_)
  · have hk' : k < xs.length := by omega
    rw [drop_get' hk'] at hq
    have hw := wrap_succ (k := k) (by omega)
    have g1 : xs[k]? = some xs[k] := List.getElem?_eq_getElem hk'
    have h0 : (0 : Int) ≤ k := by omega
    simp only [PP, P1, P2, P3, P4, P5, P6, P7, P8, P9, P10, P11, P12, P13, P14, L1, P15, N1, N2, N3, N4, N5, N6, N7, I1, I2, I3, I4, I5, I6, I7, reduceIte, reduceCtorEq, c, g1, hw, h0, posM] at hq ⊢
    refine QIf.intro (fun h1 => ?_) (fun h1 => ?_)
    · have : xs[k] ≤ last := by omega
      simp only [PP, P1, P2, P3, P4, P5, P6, P7, P8, P9, P10, P11, P12, P13, P14, L1, P15, N1, N2, N3, N4, N5, N6, N7, I1, I2, I3, I4, I5, I6, I7, reduceIte, reduceCtorEq, h1, this] at hq ⊢
      exact hq
    simp only [PP, P1, P2, P3, P4, P5, P6, P7, P8, P9, P10, P11, P12, P13, P14, L1, P15, N1, N2, N3, N4, N5, N6, N7, I1, I2, I3, I4, I5, I6, I7, reduceIte, reduceCtorEq, h1, g1, c, h0] at hq ⊢
    refine QIf.intro (fun h2 => ?_) (fun h2 => ?_)
    · by_cases h3 : xs[k] ≤ last
      · simp only [PP, P1, P2, P3, P4, P5, P6, P7, P8, P9, P10, P11, P12, P13, P14, L1, P15, N1, N2, N3, N4, N5, N6, N7, I1, I2, I3, I4, I5, I6, I7, reduceIte, reduceCtorEq, h2, h3] at hq ⊢
        exact hq
      · simp only [PP, P1, P2, P3, P4, P5, P6, P7, P8, P9, P10, P11, P12, P13, P14, L1, P15, N1, N2, N3, N4, N5, N6, N7, I1, I2, I3, I4, I5, I6, I7, reduceIte, reduceCtorEq, h2, h3] at hq ⊢
        exact hq
    simp only [PP, P1, P2, P3, P4, P5, P6, P7, P8, P9, P10, P11, P12, P13, P14, L1, P15, N1, N2, N3, N4, N5, N6, N7, I1, I2, I3, I4, I5, I6, I7, reduceIte, reduceCtorEq, h2, g1, c, h0] at hq ⊢
    rcases hi with ⟨rfl, rfl⟩ | ⟨hk0, hlast⟩
    · have h3 : ¬ xs[0] ≤ -1 := by omega
      have hw1 : IntKind.i64.wrap 1 = 1 := by decide
      simp only [PP, P1, P2, P3, P4, P5, P6, P7, P8, P9, P10, P11, P12, P13, P14, L1, P15, N1, N2, N3, N4, N5, N6, N7, I1, I2, I3, I4, I5, I6, I7, reduceIte, reduceCtorEq, h3, hw1, Int.lt_irrefl, Nat.lt_irrefl] at hq ⊢
      exact SemW_weak (ih 1 xs[0] ⟨by omega, by omega, .inr ⟨by omega, by simp⟩, hq⟩ (by omega)) (by simp only [PWeak_nil, PWeak_junk, PWeak_same, Int.cast_ofNat_Int, List.length_append, List.length_cons, List.length_nil, Nat.zero_add])
    · have h4 : (0 : Int) < k := by omega
      have hw2 : IntKind.i64.wrap ((k : Int) - 1) = ((k - 1 : Nat) : Int) := by
        have : k < 1000000000000 := by have : xs.length < 1000000000000 := hm; omega
        rw [wrap64 (by omega) (by omega)]; omega
      have c2 : ((k - 1 : Nat) : Int) < xs.length := by omega
      have c3 : (0 : Int) ≤ ((k - 1 : Nat) : Int) := by omega
      simp only [PP, P1, P2, P3, P4, P5, P6, P7, P8, P9, P10, P11, P12, P13, P14, L1, P15, N1, N2, N3, N4, N5, N6, N7, I1, I2, I3, I4, I5, I6, I7, reduceIte, reduceCtorEq, h4, g1, c, h0, hw2, c2, c3, hlast] at hq ⊢
      by_cases h3 : xs[k] ≤ last
      · simp only [PP, P1, P2, P3, P4, P5, P6, P7, P8, P9, P10, P11, P12, P13, P14, L1, P15, N1, N2, N3, N4, N5, N6, N7, I1, I2, I3, I4, I5, I6, I7, reduceIte, reduceCtorEq, h3] at hq ⊢
        exact hq
      · simp only [PP, P1, P2, P3, P4, P5, P6, P7, P8, P9, P10, P11, P12, P13, P14, L1, P15, N1, N2, N3, N4, N5, N6, N7, I1, I2, I3, I4, I5, I6, I7, reduceIte, reduceCtorEq, h3, hw] at hq ⊢
        exact SemW_weak (ih (k + 1) xs[k] ⟨by omega, by omega, .inr ⟨by omega, by simp [hk']⟩, hq⟩ (by omega)) (by simp only [PWeak_nil, PWeak_junk, PWeak_same, Int.cast_ofNat_Int, List.length_append, List.length_cons, List.length_nil, Nat.zero_add])
  · simp only [PP, P1, P2, P3, P4, P5, P6, P7, P8, P9, P10, P11, P12, P13, P14, L1, P15, N1, N2, N3, N4, N5, N6, N7, I1, I2, I3, I4, I5, I6, I7, reduceIte, reduceCtorEq, c]
    rw [List.drop_eq_nil_of_le (by omega)] at hq
    exact hq
theorem refCheck_p {M : Mem} {K : PV → Mem → Prop} {f1 o1 f2 o2 f3 o3 f4 o4 : Bool} {ow pr : List Int} {su : List (List Int)} (B : Bnd ow pr su) (hq : K (p64 (checkM ow pr su)) M) :
    SemC tab 35 [gmP f1 o1 f2 o2 f3 o3 f4 o4 ow pr su] M K := by
  refine SemC_pure T.h35 (by simp only [PP, P1, P2, P3, P4, P5, P6, P7, P8, P9, P10, P11, P12, P13, P14, L1, P15, N1, N2, N3, N4, N5, N6, N7, I1, I2, I3, I4, I5, I6, I7, reduceIte, reduceCtorEq]) ?_
  simp only [af35, PP, P1, P2, P3, P4, P5, P6, P7, P8, P9, P10, P11, P12, P13, P14, L1, P15, N1, N2, N3, N4, N5, N6, N7, I1, I2, I3, I4, I5, I6, I7, reduceIte, reduceCtorEq, checkM] at hq ⊢
  refine QIf.intro (fun c1 => ?_) (fun c1 => ?_)
  · simp only [PP, P1, P2, P3, P4, P5, P6, P7, P8, P9, P10, P11, P12, P13, P14, L1, P15, N1, N2, N3, N4, N5, N6, N7, I1, I2, I3, I4, I5, I6, I7, reduceIte, reduceCtorEq, c1] at hq ⊢
    exact hq
  simp only [PP, P1, P2, P3, P4, P5, P6, P7, P8, P9, P10, P11, P12, P13, P14, L1, P15, N1, N2, N3, N4, N5, N6, N7, I1, I2, I3, I4, I5, I6, I7, reduceIte, reduceCtorEq, c1] at hq ⊢
  refine QIf.intro (fun c2 => ?_) (fun c2 => ?_)
  · simp only [PP, P1, P2, P3, P4, P5, P6, P7, P8, P9, P10, P11, P12, P13, P14, L1, P15, N1, N2, N3, N4, N5, N6, N7, I1, I2, I3, I4, I5, I6, I7, reduceIte, reduceCtorEq, c2] at hq ⊢
    exact hq
  simp only [PP, P1, P2, P3, P4, P5, P6, P7, P8, P9, P10, P11, P12, P13, P14, L1, P15, N1, N2, N3, N4, N5, N6, N7, I1, I2, I3, I4, I5, I6, I7, reduceIte, reduceCtorEq, c2] at hq ⊢
  refine QIf.intro (fun c3 => ?_) (fun c3 => ?_)
  rotate_left
  · simp only [PP, P1, P2, P3, P4, P5, P6, P7, P8, P9, P10, P11, P12, P13, P14, L1, P15, N1, N2, N3, N4, N5, N6, N7, I1, I2, I3, I4, I5, I6, I7, reduceIte, reduceCtorEq, c3] at hq ⊢
    exact hq
  simp only [PP, P1, P2, P3, P4, P5, P6, P7, P8, P9, P10, P11, P12, P13, P14, L1, P15, N1, N2, N3, N4, N5, N6, N7, I1, I2, I3, I4, I5, I6, I7, reduceIte, reduceCtorEq, c3] at hq ⊢
  refine QIf.intro (fun c4 => ?_) (fun c4 => ?_)
  rotate_left
  · simp only [PP, P1, P2, P3, P4, P5, P6, P7, P8, P9, P10, P11, P12, P13, P14, L1, P15, N1, N2, N3, N4, N5, N6, N7, I1, I2, I3, I4, I5, I6, I7, reduceIte, reduceCtorEq, c4] at hq ⊢
    exact hq
  simp only [PP, P1, P2, P3, P4, P5, P6, P7, P8, P9, P10, P11, P12, P13, P14, L1, P15, N1, N2, N3, N4, N5, N6, N7, I1, I2, I3, I4, I5, I6, I7, reduceIte, reduceCtorEq, c4] at hq ⊢
  have d4 : su.length = ow.length := by omega
  refine loop1 (fun (k : Nat) => k ≤ su.length ∧ K (p64 (checkLoop ow pr k (su.drop k))) M) (fun k => [.junk, .ptr 0 0 0, .junk, p64 ow.length, p64 k, .junk, .junk, .junk, .junk, .junk, .junk, .junk, .junk, .junk, .junk, .junk, .junk, .junk, .junk, .junk, .junk, .junk, .junk, .junk, .junk, .junk, .junk, .junk, .junk, .junk, .junk, .junk, .junk, .junk, .junk, .junk, .junk, .junk, .junk, .junk, .junk, .junk, .junk, .junk, .junk, .junk, .junk, .junk, .junk, .junk, .junk, .junk, .junk, .junk, .junk, .junk, .junk, .junk, .junk, .junk, .junk, .junk, .junk, .junk]) (fun _ => [.cells 0 0 [slI f1 o1 .u8 ow, slI f2 o2 .i64 pr, slR f3 o3 f4 o4 .i64 su]]) (fun k => su.length - k) 0 ⟨by omega, hq⟩ (by simp only [PWeak_nil, PWeak_junk, PWeak_same, Int.cast_ofNat_Int, d4]) rfl ?_
  intro k ⟨hle, hq⟩ ih
  refine SemW_go (by kernel_rfl) ?_
  simp only [PP, P1, P2, P3, P4, P5, P6, P7, P8, P9, P10, P11, P12, P13, P14, L1, P15, N1, N2, N3, N4, N5, N6, N7, I1, I2, I3, I4, I5, I6, I7, reduceIte, reduceCtorEq]
  refine QIf.intro (fun c => ?_) (fun c => ?_)
  · have hk' : k < su.length := by omega
    have g1 : su[k]? = some su[k] := List.getElem?_eq_getElem hk'
    have g2 : ow[k]? = some ow[k] := List.getElem?_eq_getElem (by omega)
    have g3 : pr[k]? = some pr[k] := List.getElem?_eq_getElem (by omega)
    have h0 : (0 : Int) ≤ k := by omega
    have hw := wrap_succ (k := k) (by have := B.s; omega)
    have e2 : ow.getD k 0 = ow[k] := by simp [List.getD, g2]
    have e3 : pr.getD k 0 = pr[k] := by simp [List.getD, g3]
    rw [drop_get' hk'] at hq
    have hks : (k : Int) < su.length := by omega
    have hkp : (k : Int) < pr.length := by omega
    simp only [PP, P1, P2, P3, P4, P5, P6, P7, P8, P9, P10, P11, P12, P13, P14, L1, P15, N1, N2, N3, N4, N5, N6, N7, I1, I2, I3, I4, I5, I6, I7, reduceIte, reduceCtorEq, checkLoop, c, g1, g2, g3, h0, e2, e3, hks, hkp] at hq ⊢
    refine QIf.intro (fun h1 => ?_) (fun h1 => ?_)
    · simp only [PP, P1, P2, P3, P4, P5, P6, P7, P8, P9, P10, P11, P12, P13, P14, L1, P15, N1, N2, N3, N4, N5, N6, N7, I1, I2, I3, I4, I5, I6, I7, reduceIte, reduceCtorEq, h1] at hq ⊢
      exact hq
    simp only [PP, P1, P2, P3, P4, P5, P6, P7, P8, P9, P10, P11, P12, P13, P14, L1, P15, N1, N2, N3, N4, N5, N6, N7, I1, I2, I3, I4, I5, I6, I7, reduceIte, reduceCtorEq, h1, g3, hkp, h0] at hq ⊢
    refine QIf.intro (fun h2 => ?_) (fun h2 => ?_)
    · simp only [PP, P1, P2, P3, P4, P5, P6, P7, P8, P9, P10, P11, P12, P13, P14, L1, P15, N1, N2, N3, N4, N5, N6, N7, I1, I2, I3, I4, I5, I6, I7, reduceIte, reduceCtorEq, h2] at hq ⊢
      exact hq
    simp only [PP, P1, P2, P3, P4, P5, P6, P7, P8, P9, P10, P11, P12, P13, P14, L1, P15, N1, N2, N3, N4, N5, N6, N7, I1, I2, I3, I4, I5, I6, I7, reduceIte, reduceCtorEq, h2, g3, hkp, h0] at hq ⊢
    refine QIf.intro (fun h3 => ?_) (fun h3 => ?_)
    · simp only [PP, P1, P2, P3, P4, P5, P6, P7, P8, P9, P10, P11, P12, P13, P14, L1, P15, N1, N2, N3, N4, N5, N6, N7, I1, I2, I3, I4, I5, I6, I7, reduceIte, reduceCtorEq, h3] at hq ⊢
      exact hq
    simp only [PP, P1, P2, P3, P4, P5, P6, P7, P8, P9, P10, P11, P12, P13, P14, L1, P15, N1, N2, N3, N4, N5, N6, N7, I1, I2, I3, I4, I5, I6, I7, reduceIte, reduceCtorEq, h3, g1, hks, h0] at hq ⊢
    refine QIf.intro (fun h4 => ?_) (fun h4 => ?_)
    · simp only [PP, P1, P2, P3, P4, P5, P6, P7, P8, P9, P10, P11, P12, P13, P14, L1, P15, N1, N2, N3, N4, N5, N6, N7, I1, I2, I3, I4, I5, I6, I7, reduceIte, reduceCtorEq, h4] at hq ⊢
      exact hq
    simp only [PP, P1, P2, P3, P4, P5, P6, P7, P8, P9, P10, P11, P12, P13, P14, L1, P15, N1, N2, N3, N4, N5, N6, N7, I1, I2, I3, I4, I5, I6, I7, reduceIte, reduceCtorEq, h4, g1, hks, h0] at hq ⊢
    refine rises_p T (B.r _ (List.getElem_mem hk')) ?_
    simp only [PP, P1, P2, P3, P4, P5, P6, P7, P8, P9, P10, P11, P12, P13, P14, L1, P15, N1, N2, N3, N4, N5, N6, N7, I1, I2, I3, I4, I5, I6, I7, reduceIte, reduceCtorEq]
    by_cases h5 : posM ow.length (-1) su[k] = true
    · simp only [PP, P1, P2, P3, P4, P5, P6, P7, P8, P9, P10, P11, P12, P13, P14, L1, P15, N1, N2, N3, N4, N5, N6, N7, I1, I2, I3, I4, I5, I6, I7, reduceIte, reduceCtorEq, h5, hw] at hq ⊢
      exact SemW_weak (ih (k + 1) ⟨by omega, hq⟩ (by omega)) (by simp only [PWeak_nil, PWeak_junk, PWeak_same, Int.cast_ofNat_Int, List.length_append, List.length_cons, List.length_nil, Nat.zero_add])
    · simp only [PP, P1, P2, P3, P4, P5, P6, P7, P8, P9, P10, P11, P12, P13, P14, L1, P15, N1, N2, N3, N4, N5, N6, N7, I1, I2, I3, I4, I5, I6, I7, reduceIte, reduceCtorEq, h5] at hq ⊢
      exact hq
  · simp only [PP, P1, P2, P3, P4, P5, P6, P7, P8, P9, P10, P11, P12, P13, P14, L1, P15, N1, N2, N3, N4, N5, N6, N7, I1, I2, I3, I4, I5, I6, I7, reduceIte, reduceCtorEq, c]
    rw [List.drop_eq_nil_of_le (by omega)] at hq
    exact hq
theorem long_p {M : Mem} {K : PV → Mem → Prop} {f1 o1 f2 o2 f3 o3 f4 o4 f5 o5 f6 o6 : Bool} {ow pr : List Int} {su ls : List (List Int)} (hl : ls.length < big) (hq : K (.bool (longM ow pr su ls)) M) :
    SemC tab 40 [gmP f1 o1 f2 o2 f3 o3 f4 o4 ow pr su, slR f5 o5 f6 o6 .i64 ls] M K := by
  refine SemC_pure T.h40 (by simp only [PP, P1, P2, P3, P4, P5, P6, P7, P8, P9, P10, P11, P12, P13, P14, L1, P15, N1, N2, N3, N4, N5, N6, N7, I1, I2, I3, I4, I5, I6, I7, reduceIte, reduceCtorEq]) ?_
  simp only [af40, PP, P1, P2, P3, P4, P5, P6, P7, P8, P9, P10, P11, P12, P13, P14, L1, P15, N1, N2, N3, N4, N5, N6, N7, I1, I2, I3, I4, I5, I6, I7, reduceIte, reduceCtorEq, longM] at hq ⊢
  refine QIf.intro (fun c1 => ?_) (fun c1 => ?_)
  · simp only [PP, P1, P2, P3, P4, P5, P6, P7, P8, P9, P10, P11, P12, P13, P14, L1, P15, N1, N2, N3, N4, N5, N6, N7, I1, I2, I3, I4, I5, I6, I7, reduceIte, reduceCtorEq, c1] at hq ⊢
    exact hq
  simp only [PP, P1, P2, P3, P4, P5, P6, P7, P8, P9, P10, P11, P12, P13, P14, L1, P15, N1, N2, N3, N4, N5, N6, N7, I1, I2, I3, I4, I5, I6, I7, reduceIte, reduceCtorEq, c1] at hq ⊢
  refine QIf.intro (fun c2 => ?_) (fun c2 => ?_)
  · simp only [PP, P1, P2, P3, P4, P5, P6, P7, P8, P9, P10, P11, P12, P13, P14, L1, P15, N1, N2, N3, N4, N5, N6, N7, I1, I2, I3, I4, I5, I6, I7, reduceIte, reduceCtorEq, c2] at hq ⊢
    exact hq
  simp only [PP, P1, P2, P3, P4, P5, P6, P7, P8, P9, P10, P11, P12, P13, P14, L1, P15, N1, N2, N3, N4, N5, N6, N7, I1, I2, I3, I4, I5, I6, I7, reduceIte, reduceCtorEq, c2] at hq ⊢
  refine QIf.intro (fun c3 => ?_) (fun c3 => ?_)
  · simp only [PP, P1, P2, P3, P4, P5, P6, P7, P8, P9, P10, P11, P12, P13, P14, L1, P15, N1, N2, N3, N4, N5, N6, N7, I1, I2, I3, I4, I5, I6, I7, reduceIte, reduceCtorEq, c3] at hq ⊢
    exact hq
  simp only [PP, P1, P2, P3, P4, P5, P6, P7, P8, P9, P10, P11, P12, P13, P14, L1, P15, N1, N2, N3, N4, N5, N6, N7, I1, I2, I3, I4, I5, I6, I7, reduceIte, reduceCtorEq, c3] at hq ⊢
  refine loop1 (fun (k : Nat) => k ≤ su.length ∧ K (.bool (if anyLong (su.drop k) = true then true else anyLong ls)) M) (fun k => [.junk, slR f5 o5 f6 o6 .i64 ls, .ptr 0 0 0, .junk, .junk, p64 k, .junk, .junk, .junk, .junk, .junk, .junk, .junk, .junk, .junk, .junk, .junk, .junk, .junk, .junk, .junk, .junk, .junk, .junk, .junk, .junk, .junk, .junk, .junk, .junk, .junk, .junk, .junk, .junk, .junk, .junk, .junk, .junk, .junk, .junk, .junk, .junk, .junk, .junk, .junk, .junk, .junk, .junk, .junk]) (fun _ => [.cells 0 0 [slI f1 o1 .u8 ow, slI f2 o2 .i64 pr, slR f3 o3 f4 o4 .i64 su]]) (fun k => su.length - k) 0 ⟨by omega, hq⟩ (by simp only [PWeak_nil, PWeak_junk, PWeak_same, Int.cast_ofNat_Int, List.length_append, List.length_cons, List.length_nil, Nat.zero_add]) rfl ?_
  intro k ⟨hle, hq⟩ ih
  refine SemW_go (by kernel_rfl) ?_
  simp only [PP, P1, P2, P3, P4, P5, P6, P7, P8, P9, P10, P11, P12, P13, P14, L1, P15, N1, N2, N3, N4, N5, N6, N7, I1, I2, I3, I4, I5, I6, I7, reduceIte, reduceCtorEq]
  refine QIf.intro (fun c => ?_) (fun c => ?_)
  · have hk' : k < su.length := by omega
    have g1 : su[k]? = some su[k] := List.getElem?_eq_getElem hk'
    have h0 : (0 : Int) ≤ k := by omega
    have hw := wrap_succ (k := k) (by show k < 1000000000000; omega)
    rw [drop_get' hk'] at hq
    simp only [PP, P1, P2, P3, P4, P5, P6, P7, P8, P9, P10, P11, P12, P13, P14, L1, P15, N1, N2, N3, N4, N5, N6, N7, I1, I2, I3, I4, I5, I6, I7, reduceIte, reduceCtorEq, c, g1, h0, anyLong] at hq ⊢
    refine QIf.intro (fun h1 => ?_) (fun h1 => ?_)
    · simp only [PP, P1, P2, P3, P4, P5, P6, P7, P8, P9, P10, P11, P12, P13, P14, L1, P15, N1, N2, N3, N4, N5, N6, N7, I1, I2, I3, I4, I5, I6, I7, reduceIte, reduceCtorEq, h1] at hq ⊢
      exact hq
    simp only [PP, P1, P2, P3, P4, P5, P6, P7, P8, P9, P10, P11, P12, P13, P14, L1, P15, N1, N2, N3, N4, N5, N6, N7, I1, I2, I3, I4, I5, I6, I7, reduceIte, reduceCtorEq, h1, hw] at hq ⊢
    exact SemW_weak (ih (k + 1) ⟨by omega, hq⟩ (by omega)) (by simp only [PWeak_nil, PWeak_junk, PWeak_same, Int.cast_ofNat_Int, List.length_append, List.length_cons, List.length_nil, Nat.zero_add])
  · rw [List.drop_eq_nil_of_le (by omega)] at hq
    simp only [PP, P1, P2, P3, P4, P5, P6, P7, P8, P9, P10, P11, P12, P13, P14, L1, P15, N1, N2, N3, N4, N5, N6, N7, I1, I2, I3, I4, I5, I6, I7, reduceIte, reduceCtorEq, c, anyLong] at hq ⊢
    refine loop1 (fun (k : Nat) => k ≤ ls.length ∧ K (.bool (anyLong (ls.drop k))) M) (fun k => [.junk, slR f5 o5 f6 o6 .i64 ls, .junk, .junk, .junk, .junk, p64 k, .junk, .junk, .junk, .junk, .junk, .junk, .junk, .junk, .junk, .junk, .junk, .junk, .junk, .junk, .junk, .junk, .junk, .junk, .junk, .junk, .junk, .junk, .junk, .junk, .junk, .junk, .junk, .junk, .junk, .junk, .junk, .junk, .junk, .junk, .junk, .junk, .junk, .junk, .junk, .junk, .junk, .junk]) (fun _ => [.cells 0 0 [slI f1 o1 .u8 ow, slI f2 o2 .i64 pr, slR f3 o3 f4 o4 .i64 su]]) (fun k => ls.length - k) 0 ⟨by omega, hq⟩ (by simp only [PWeak_nil, PWeak_junk, PWeak_same, Int.cast_ofNat_Int, List.length_append, List.length_cons, List.length_nil, Nat.zero_add]) rfl ?_
    intro k ⟨hle, hq⟩ ih
    refine SemW_go (by kernel_rfl) ?_
    simp only [PP, P1, P2, P3, P4, P5, P6, P7, P8, P9, P10, P11, P12, P13, P14, L1, P15, N1, N2, N3, N4, N5, N6, N7, I1, I2, I3, I4, I5, I6, I7, reduceIte, reduceCtorEq]
    refine QIf.intro (fun c => ?_) (fun c => ?_)
    · have hk' : k < ls.length := by omega
      have g1 : ls[k]? = some ls[k] := List.getElem?_eq_getElem hk'
      have h0 : (0 : Int) ≤ k := by omega
      have hw := wrap_succ (k := k) (by omega)
      rw [drop_get' hk'] at hq
      simp only [PP, P1, P2, P3, P4, P5, P6, P7, P8, P9, P10, P11, P12, P13, P14, L1, P15, N1, N2, N3, N4, N5, N6, N7, I1, I2, I3, I4, I5, I6, I7, reduceIte, reduceCtorEq, c, g1, h0, anyLong] at hq ⊢
      refine QIf.intro (fun h1 => ?_) (fun h1 => ?_)
      · simp only [PP, P1, P2, P3, P4, P5, P6, P7, P8, P9, P10, P11, P12, P13, P14, L1, P15, N1, N2, N3, N4, N5, N6, N7, I1, I2, I3, I4, I5, I6, I7, reduceIte, reduceCtorEq, h1] at hq ⊢
        exact hq
      simp only [PP, P1, P2, P3, P4, P5, P6, P7, P8, P9, P10, P11, P12, P13, P14, L1, P15, N1, N2, N3, N4, N5, N6, N7, I1, I2, I3, I4, I5, I6, I7, reduceIte, reduceCtorEq, h1, hw] at hq ⊢
      exact SemW_weak (ih (k + 1) ⟨by omega, hq⟩ (by omega)) (by simp only [PWeak_nil, PWeak_junk, PWeak_same, Int.cast_ofNat_Int, List.length_append, List.length_cons, List.length_nil, Nat.zero_add])
    · rw [List.drop_eq_nil_of_le (by omega)] at hq
      simp only [PP, P1, P2, P3, P4, P5, P6, P7, P8, P9, P10, P11, P12, P13, P14, L1, P15, N1, N2, N3, N4, N5, N6, N7, I1, I2, I3, I4, I5, I6, I7, reduceIte, reduceCtorEq, c, anyLong] at hq ⊢
      exact hq
end
end Go.Am.Ar
set_option linter.unusedVariables false
set_option linter.unusedSimpArgs false
set_option maxRecDepth 10000
namespace Go.Am.Ar
open Go.Am renaming pchk → P1, pold → P2, PKNo → P3, ppack → P4, PObj.under → P5, pput → P6, ptset → P7, ptget → P8, pev → P9, ofAV → P10, ofAV1 → P11, ppad → P12, pfill → P13, prepl → P14, AO.effect → P15
open List renaming replicate → L1
open Nat renaming reduceAdd → N1, reduceSub → N2, reduceMul → N3, reduceLT → N4, reduceLeDiff → N5, reduceEqDiff → N6, reduceBEq → N7
open Int renaming reduceToNat → I1, reduceLT → I2, reduceLE → I3, reduceEq → I4, reduceAdd → I5, reduceSub → I6, reduceNeg → I7
abbrev gz : PV := .agg [.nils, .nils, .nils]
theorem checkLoop_row {ow pr : List Int} : ∀ {su : List (List Int)} {k : Nat}, checkLoop ow pr k su = 0 → ∀ (i : Nat) (hi : i < su.length), 0 ≤ pr.getD (k + i) 0 ∧ pr.getD (k + i) 0 ≤ 16 ∧ ow.getD (k + i) 0 ≤ 1 ∧ 0 < su[i].length ∧ posM ow.length (-1) su[i] = true
  | [], k, h, i, hi => by simp at hi
  | row :: su, k, h, i, hi => by
    unfold checkLoop at h
    split at h
    · simp at h
    · split at h
      · simp at h
      · split at h
        · simp at h
        · split at h
          · simp at h
          · split at h
            · simp at h
            · rename_i h1 h2 h3 h4 h5
              cases i with
              | zero => exact ⟨by simpa using h2, by simpa using h3, by simpa using h1, by simp only [List.getElem_cons_zero]; omega, by simpa using h5⟩
              | succ i =>
                have := checkLoop_row h i (by simpa using hi)
                simpa [Nat.add_assoc, Nat.add_comm 1 i] using this
structure Valid (ow pr : List Int) (su : List (List Int)) : Prop where
  n0 : 0 < ow.length
  n1 : ow.length ≤ 4096
  p : pr.length = ow.length
  s : su.length = ow.length
  row : ∀ (i : Nat) (hi : i < su.length), 0 ≤ pr.getD i 0 ∧ pr.getD i 0 ≤ 16 ∧ ow.getD i 0 ≤ 1 ∧ 0 < su[i].length ∧ posM ow.length (-1) su[i] = true
theorem valid_of {ow pr : List Int} {su : List (List Int)} (h : checkM ow pr su = 0) : Valid ow pr su := by
  obtain ⟨h1, h2, h3, h4, h5⟩ := checkM_len h
  exact ⟨h1, h2, h3, h4, fun i hi => by simpa using checkLoop_row h5 i hi⟩
theorem wk_attr (e : Int) : PvWk (.tuple [.nils, .nils, p64 e]) (.tuple [slI false true .i64 [], slI false true .i64 [], p64 e]) := by
  refine PvWk.tuple rfl fun i y z h1 h2 => ?_
  match i with
  | 0 => cases h1; cases h2; exact PvWk.nils _ _ _
  | 1 => cases h1; cases h2; exact PvWk.nils _ _ _
  | 2 => cases h1; cases h2; exact PvWk.refl _
  | i + 3 => simp at h1
theorem nodup_lenN : ∀ (n : Nat) (l : List Nat), l.Nodup → (∀ x ∈ l, x < n) → l.length ≤ n
  | 0, l, _, h => by
    cases l with
    | nil => simp
    | cons x l => have := h x (by simp); omega
  | n + 1, l, hd, h => by
    have := nodup_lenN n (l.filter fun x => x != n) (hd.filter _) (fun x hx => by
      rw [List.mem_filter] at hx
      have := h x hx.1
      have : x ≠ n := by simpa using hx.2
      omega)
    have h2 : l.length ≤ (l.filter fun x => x != n).length + 1 := by
      clear this h
      induction l with
      | nil => simp
      | cons x l ih =>
        rw [List.nodup_cons] at hd
        by_cases e : x = n
        · subst e
          have : l.filter (fun y => y != x) = l := by
            rw [List.filter_eq_self]
            intro y hy
            have : y ≠ x := fun q => hd.1 (q ▸ hy)
            simpa using this
          simp [this]
        · have := ih hd.2
          have hx : (x != n) = true := by simpa using e
          simp only [List.filter_cons, hx, if_true, List.length_cons]
          omega
    omega
theorem prem {k : IntKind} {x y : Int} (h : y ≠ 0) : pbin .rem (.int k x) (.int k y) = some (.int k (x.tmod y)) := by
  simp [pbin, toAV0, abin, ofAV1, h, isShift, binInt]
abbrev natI (l : List Nat) : List Int := l.map fun (v : Nat) => (v : Int)
theorem mem_natI {l : List Nat} {v : Nat} : (v : Int) ∈ natI l ↔ v ∈ l := by
  rw [List.mem_map]
  exact ⟨fun ⟨a, h1, h2⟩ => by rw [show v = a by omega]; exact h1, fun h => ⟨v, h, rfl⟩⟩
theorem posM_rise {n : Int} : ∀ {l : List Int} {last : Int}, posM n last l = true → l.Pairwise (· < ·) ∧ ∀ x ∈ l, last < x ∧ x < n
  | [], _, _ => ⟨.nil, fun x hx => by cases hx⟩
  | v :: l, last, h => by
    unfold posM at h
    split at h
    · simp at h
    · split at h
      · simp at h
      · obtain ⟨h1, h2⟩ := posM_rise h
        refine ⟨.cons (fun x hx => (h2 x hx).1) h1, fun x hx => ?_⟩
        rcases List.mem_cons.1 hx with rfl | hx
        · omega
        · have := h2 x hx; omega
theorem su_range {ow pr : List Int} {su : List (List Int)} (V : Valid ow pr su) {v : Nat} {u : Int} (hv : v < ow.length) (h : u ∈ su.getD v []) : 0 ≤ u ∧ u < ow.length := by
  have hvs : v < su.length := by have := V.s; omega
  obtain ⟨_, _, _, _, hp⟩ := V.row v hvs
  rw [List.getD, List.getElem?_eq_getElem hvs] at h
  have := (posM_rise hp).2 u h
  omega
theorem SemC_true {tab : FuncId → Option AF} {g : FuncId} (hg : tab g = some (.prim primTrue)) {M : Mem} {K : PV → Mem → Prop} (hk : K (.bool true) M) : SemC tab g [] M K := by
  intro w h args' h0 s ha
  have : args' = [] := List.length_eq_zero_iff.1 (by simpa using ha.len.symm)
  subst this
  unfold C
  refine ⟨.bool true, h, ?_, w, .bool true, M, PStp.refl (Nat.le_refl _) w h, s, .bool true, hk⟩
  rw [lim_call]
  simp only [acallF, hg, primTrue]
theorem QIf_both {p A B G : Prop} {t : QTag A B} (h1 : p → G → A) (h2 : ¬ p → G → B) (g : G) : QIf p A B t := QIf.intro (fun c => h1 c g) (fun c => h2 c g)
section
variable {tab : FuncId → Option AF} (T : HasA tab)
include T
end
end Go.Am.Ar
set_option linter.unusedVariables false
set_option linter.unusedSimpArgs false
set_option maxRecDepth 10000
namespace Go.Am.Ar
open Go.Am renaming pchk → P1, pold → P2, PKNo → P3, ppack → P4, PObj.under → P5, pput → P6, ptset → P7, ptget → P8, pev → P9, ofAV → P10, ofAV1 → P11, ppad → P12, pfill → P13, prepl → P14, AO.effect → P15
open List renaming replicate → L1
open Nat renaming reduceAdd → N1, reduceSub → N2, reduceMul → N3, reduceLT → N4, reduceLeDiff → N5, reduceEqDiff → N6, reduceBEq → N7
open Int renaming reduceToNat → I1, reduceLT → I2, reduceLE → I3, reduceEq → I4, reduceAdd → I5, reduceSub → I6, reduceNeg → I7
def idxI (v : Int) : Nat → List Int → Int
  | _, [] => -1
  | k, x :: l => if v = x then (k : Int) else idxI v (k + 1) l
theorem idxI_spec (v : Int) : ∀ (l : List Int) (k : Nat), (v ∉ l ∧ idxI v k l = -1) ∨ ∃ i, l[i]? = some v ∧ v ∉ l.take i ∧ idxI v k l = ((k + i : Nat) : Int)
  | [], k => .inl ⟨by simp, rfl⟩
  | x :: l, k => by
    unfold idxI
    by_cases h : v = x
    · rw [if_pos h]; exact .inr ⟨0, by simp [h], by simp, rfl⟩
    · rw [if_neg h]
      rcases idxI_spec v l (k + 1) with ⟨h1, h2⟩ | ⟨i, h1, h2, h3⟩
      · exact .inl ⟨by simp [h, h1], h2⟩
      · refine .inr ⟨i + 1, by simpa using h1, by simp [h, h2], ?_⟩
        rw [h3]; congr 1; omega
def playL (st : List Int) : Nat → Int → List Int → List Int × List Int
  | 0, _, all => (all, [])
  | n + 1, v, all => if 0 ≤ idxI v 0 all then (all.take (idxI v 0 all).toNat, all.drop (idxI v 0 all).toNat) else playL st n (st.getD v.toNat 0) (all ++ [v])
def movM (su : List (List Int)) : Nat → List Int → Bool
  | _, [] => true
  | k, u :: l => if u ∈ su.getD k [] then movM su (k + 1) l else false
def playE (ow pr : List Int) (su : List (List Int)) (st : List Int) (from' : Int) : Int :=
  if checkM ow pr su = 0 then (if from' < 0 then 8 else if (ow.length : Int) ≤ from' then 8 else if (st.length : Int) = ow.length then (if movM su 0 st = true then 0 else 13) else 2) else checkM ow pr su
def playM (ow pr : List Int) (su : List (List Int)) (st : List Int) (from' : Int) : PV :=
  if playE ow pr su st from' = 0 then .tuple [slI false true .i64 (playL st (ow.length + 1) from' []).1, slI false true .i64 (playL st (ow.length + 1) from' []).2, p64 0]
  else .tuple [slI false true .i64 [], slI false true .i64 [], p64 (playE ow pr su st from')]
theorem movM_get {su : List (List Int)} : ∀ {l : List Int} {k : Nat}, movM su k l = true → ∀ (i : Nat) (u : Int), l[i]? = some u → u ∈ su.getD (k + i) []
  | [], k, h, i, u, q => by simp at q
  | x :: l, k, h, i, u, q => by
    unfold movM at h
    split at h
    · rename_i hm
      cases i with
      | zero => simp at q; subst q; exact hm
      | succ i =>
        have := movM_get h i u (by simpa using q)
        rw [show k + (i + 1) = k + 1 + i by omega]; exact this
    · cases h
section
variable {tab : FuncId → Option AF} (T : HasA tab)
include T
theorem index_p {M : Mem} {K : PV → Mem → Prop} {f o : Bool} {xs : List Int} {v : Int} (hm : xs.length < big) (hk : K (p64 (idxI v 0 xs)) M) :
    SemC tab 56 [slI f o .i64 xs, p64 v] M K := by
  refine SemC_pure T.h56 (by simp only [PP, P1, P2, P3, P4, P5, P6, P7, P8, P9, P10, P11, P12, P13, P14, L1, P15, N1, N2, N3, N4, N5, N6, N7, I1, I2, I3, I4, I5, I6, I7, reduceIte, reduceCtorEq]) ?_
  simp only [af56, PP, P1, P2, P3, P4, P5, P6, P7, P8, P9, P10, P11, P12, P13, P14, L1, P15, N1, N2, N3, N4, N5, N6, N7, I1, I2, I3, I4, I5, I6, I7, reduceIte, reduceCtorEq]
  refine loop1 (fun (k : Nat) => k ≤ xs.length ∧ K (p64 (idxI v k (xs.drop k))) M) (fun k => [slI f o .i64 xs, p64 v, .junk, .junk, .junk, .junk, .junk, p64 xs.length, p64 k, .junk, .junk, .junk, .junk, .junk, .junk, .junk, .junk, .junk, .junk]) (fun _ => []) (fun k => xs.length - k) 0 ⟨by omega, hk⟩ (by simp only [PWeak_nil, PWeak_junk, PWeak_same, Int.cast_ofNat_Int, List.length_append, List.length_cons, List.length_nil, Nat.zero_add]) rfl ?_
  intro k ⟨hle, hq⟩ ih
  refine SemW_go (by kernel_rfl) ?_
  simp only [PP, P1, P2, P3, P4, P5, P6, P7, P8, P9, P10, P11, P12, P13, P14, L1, P15, N1, N2, N3, N4, N5, N6, N7, I1, I2, I3, I4, I5, I6, I7, reduceIte, reduceCtorEq]
  refine QIf.intro (fun c => ?_) (fun c => ?_)
  · have hk' : k < xs.length := by omega
    obtain ⟨x, g⟩ := some_of hk'
    rw [drop_some g] at hq
    have hw := wrap_succ (k := k) (by omega)
    have h0 : (0 : Int) ≤ k := by omega
    simp only [PP, P1, P2, P3, P4, P5, P6, P7, P8, P9, P10, P11, P12, P13, P14, L1, P15, N1, N2, N3, N4, N5, N6, N7, I1, I2, I3, I4, I5, I6, I7, reduceIte, reduceCtorEq, idxI, c, g, h0] at hq ⊢
    refine QIf.intro (fun h1 => ?_) (fun h1 => ?_)
    · simp only [PP, P1, P2, P3, P4, P5, P6, P7, P8, P9, P10, P11, P12, P13, P14, L1, P15, N1, N2, N3, N4, N5, N6, N7, I1, I2, I3, I4, I5, I6, I7, reduceIte, reduceCtorEq, h1] at hq ⊢
      exact hq
    simp only [PP, P1, P2, P3, P4, P5, P6, P7, P8, P9, P10, P11, P12, P13, P14, L1, P15, N1, N2, N3, N4, N5, N6, N7, I1, I2, I3, I4, I5, I6, I7, reduceIte, reduceCtorEq, h1] at hq ⊢
    simp only [hw]
    exact SemW_weak (ih (k + 1) ⟨by omega, hq⟩ (by omega)) (by simp only [PWeak_nil, PWeak_junk, PWeak_same, Int.cast_ofNat_Int, List.length_append, List.length_cons, List.length_nil, Nat.zero_add])
  · rw [List.drop_eq_nil_of_le (by omega)] at hq
    simp only [PP, P1, P2, P3, P4, P5, P6, P7, P8, P9, P10, P11, P12, P13, P14, L1, P15, N1, N2, N3, N4, N5, N6, N7, I1, I2, I3, I4, I5, I6, I7, reduceIte, reduceCtorEq, c]
    exact hq
theorem contains_p {M : Mem} {K : PV → Mem → Prop} {f o : Bool} {xs : List Int} {v : Int} (hm : xs.length < big) (hk : K (.bool (decide (v ∈ xs))) M) :
    SemC tab 60 [slI f o .i64 xs, p64 v] M K := by
  refine SemC_pure T.h60 (by simp only [PP, P1, P2, P3, P4, P5, P6, P7, P8, P9, P10, P11, P12, P13, P14, L1, P15, N1, N2, N3, N4, N5, N6, N7, I1, I2, I3, I4, I5, I6, I7, reduceIte, reduceCtorEq]) ?_
  simp only [af60, PP, P1, P2, P3, P4, P5, P6, P7, P8, P9, P10, P11, P12, P13, P14, L1, P15, N1, N2, N3, N4, N5, N6, N7, I1, I2, I3, I4, I5, I6, I7, reduceIte, reduceCtorEq]
  refine index_p T hm ?_
  have e : decide (0 ≤ idxI v 0 xs) = decide (v ∈ xs) := by
    rcases idxI_spec v xs 0 with ⟨h1, h2⟩ | ⟨i, h1, h2, h3⟩
    · rw [h2]; simp [h1]
    · rw [h3]; simp [List.mem_of_getElem? h1]
  simp only [PP, P1, P2, P3, P4, P5, P6, P7, P8, P9, P10, P11, P12, P13, P14, L1, P15, N1, N2, N3, N4, N5, N6, N7, I1, I2, I3, I4, I5, I6, I7, reduceIte, reduceCtorEq, e]
  exact hk
theorem clone_r {M : Mem} {K : PV → Mem → Prop} {id g ver off n : Nat} {xs : List Int} (hM : M[id]? = some (.cells g ver (xs.map (PV.int .i64)))) (hl : off + n ≤ xs.length) (hb : xs.length < big) (hc : M.all (cutOk M.length) = true)
    (hk : K (slI false true .i64 ((xs.drop off).take n)) M) : SemC tab 61 [.ref id g 1 off n] M K := by
  have hb' : xs.length < 1000000000000 := hb
  have b1 : n * 8 ≤ 140737488355328 := by omega
  have b2 : n ≤ 9223372036854775807 := by omega
  have hlt : (id == M.length) = false := beq_eq_false_iff_ne.2 (by have := getSome_lt hM; omega)
  have hps : psub (xs.map (PV.int .i64)) off n = ((xs.drop off).take n).map (PV.int .i64) := by simp [psub, List.map_drop, List.map_take]
  have hln : ((xs.drop off).take n).length = n := by rw [List.length_take, List.length_drop]; omega
  refine SemC_wk (SemC_gh (SemC_fn T.h61 ?_))
  simp only [af61, PP, P1, P2, P3, P4, P5, P6, P7, P8, P9, P10, P11, P12, P13, P14, L1, P15, N1, N2, N3, N4, N5, N6, N7, I1, I2, I3, I4, I5, I6, I7, reduceIte, reduceCtorEq, hM]
  refine QIf.intro (fun c => ?_) (fun c => ?_)
  · subst c
    constructor
    · simp only [PP, P1, P2, P3, P4, P5, P6, P7, P8, P9, P10, P11, P12, P13, P14, L1, P15, N1, N2, N3, N4, N5, N6, N7, I1, I2, I3, I4, I5, I6, I7, reduceIte, reduceCtorEq]
      exact Gh.same ⟨_, rfl, _, PvWk.nils _ _ _, hk⟩
    · simp only [PP, P1, P2, P3, P4, P5, P6, P7, P8, P9, P10, P11, P12, P13, P14, L1, P15, N1, N2, N3, N4, N5, N6, N7, I1, I2, I3, I4, I5, I6, I7, reduceIte, reduceCtorEq, hM, hl]
      exact ⟨by omega, Gh.same ⟨_, rfl, _, PvWk.sl _ _ _ _, by simpa [slI] using hk⟩⟩
  · simp only [PP, P1, P2, P3, P4, P5, P6, P7, P8, P9, P10, P11, P12, P13, P14, L1, P15, N1, N2, N3, N4, N5, N6, N7, I1, I2, I3, I4, I5, I6, I7, reduceIte, reduceCtorEq, c, hM, hl, b1, b2, List.length_map]
    rw [hps]
    exact ⟨all_one_ints _ _, Gh_ret hc hln ⟨_, PvWk.refl _, hk⟩⟩
theorem play_p {M : Mem} {K : PV → Mem → Prop} {f1 o1 f2 o2 f3 o3 f4 o4 f5 o5 : Bool} {ow pr st : List Int} {su : List (List Int)} {from' : Int} (B : Bnd ow pr su) (hb : st.length < big) (hq : K (playM ow pr su st from') M) :
    SemC tab 32 [gmP f1 o1 f2 o2 f3 o3 f4 o4 ow pr su, slI f5 o5 .i64 st, p64 from'] M K := by
  refine SemC_wk ?_
  refine SemC_pure T.h32 (by simp only [PP, P1, P2, P3, P4, P5, P6, P7, P8, P9, P10, P11, P12, P13, P14, L1, P15, N1, N2, N3, N4, N5, N6, N7, I1, I2, I3, I4, I5, I6, I7, reduceIte, reduceCtorEq]) ?_
  simp only [af32, PP, P1, P2, P3, P4, P5, P6, P7, P8, P9, P10, P11, P12, P13, P14, L1, P15, N1, N2, N3, N4, N5, N6, N7, I1, I2, I3, I4, I5, I6, I7, reduceIte, reduceCtorEq, playM, playE] at hq ⊢
  refine check_p T B ?_
  simp only [PP, P1, P2, P3, P4, P5, P6, P7, P8, P9, P10, P11, P12, P13, P14, L1, P15, N1, N2, N3, N4, N5, N6, N7, I1, I2, I3, I4, I5, I6, I7, reduceIte, reduceCtorEq]
  refine QIf.intro (fun c1 => ?_) (fun c1 => ?_)
  rotate_left
  · simp only [PP, P1, P2, P3, P4, P5, P6, P7, P8, P9, P10, P11, P12, P13, P14, L1, P15, N1, N2, N3, N4, N5, N6, N7, I1, I2, I3, I4, I5, I6, I7, reduceIte, reduceCtorEq, c1] at hq ⊢
    exact ⟨_, wk_attr _, hq⟩
  have V := valid_of c1
  have hs := V.s
  have n1 := V.n1
  simp only [PP, P1, P2, P3, P4, P5, P6, P7, P8, P9, P10, P11, P12, P13, P14, L1, P15, N1, N2, N3, N4, N5, N6, N7, I1, I2, I3, I4, I5, I6, I7, reduceIte, reduceCtorEq, c1] at hq ⊢
  refine QIf.intro (fun c2 => ?_) (fun c2 => ?_)
  · simp only [PP, P1, P2, P3, P4, P5, P6, P7, P8, P9, P10, P11, P12, P13, P14, L1, P15, N1, N2, N3, N4, N5, N6, N7, I1, I2, I3, I4, I5, I6, I7, reduceIte, reduceCtorEq, c2] at hq ⊢
    exact ⟨_, wk_attr _, hq⟩
  simp only [PP, P1, P2, P3, P4, P5, P6, P7, P8, P9, P10, P11, P12, P13, P14, L1, P15, N1, N2, N3, N4, N5, N6, N7, I1, I2, I3, I4, I5, I6, I7, reduceIte, reduceCtorEq, c2] at hq ⊢
  refine QIf.intro (fun c3 => ?_) (fun c3 => ?_)
  · simp only [PP, P1, P2, P3, P4, P5, P6, P7, P8, P9, P10, P11, P12, P13, P14, L1, P15, N1, N2, N3, N4, N5, N6, N7, I1, I2, I3, I4, I5, I6, I7, reduceIte, reduceCtorEq, c3] at hq ⊢
    exact ⟨_, wk_attr _, hq⟩
  simp only [PP, P1, P2, P3, P4, P5, P6, P7, P8, P9, P10, P11, P12, P13, P14, L1, P15, N1, N2, N3, N4, N5, N6, N7, I1, I2, I3, I4, I5, I6, I7, reduceIte, reduceCtorEq, c3] at hq ⊢
  refine QIf.intro (fun c4 => ?_) (fun c4 => ?_)
  rotate_left
  · simp only [PP, P1, P2, P3, P4, P5, P6, P7, P8, P9, P10, P11, P12, P13, P14, L1, P15, N1, N2, N3, N4, N5, N6, N7, I1, I2, I3, I4, I5, I6, I7, reduceIte, reduceCtorEq, c4] at hq ⊢
    exact ⟨_, wk_attr _, hq⟩
  simp only [PP, P1, P2, P3, P4, P5, P6, P7, P8, P9, P10, P11, P12, P13, P14, L1, P15, N1, N2, N3, N4, N5, N6, N7, I1, I2, I3, I4, I5, I6, I7, reduceIte, reduceCtorEq, c4] at hq ⊢
  refine loop1 (fun (k : Nat) => k ≤ ow.length ∧ movM su k (st.drop k) = movM su 0 st) (fun k => [.junk, slI f5 o5 .i64 st, p64 from', .ptr 0 0 0, .junk, .junk, .junk, .junk, .junk, .junk, .junk, .junk, .junk, .junk, .junk, .junk, .junk, .junk, .junk, .junk, .junk, .junk, .junk, .junk, .junk, .junk, .junk, .junk, .junk, .junk, .junk, .junk, .junk, .junk, .junk, .junk, .junk, slI f5 o5 .i64 st, p64 ow.length, p64 k, .junk, .junk, .junk, .junk, .junk, .junk, .junk, .junk, .junk, .junk, .junk, .junk, .junk, .junk, .junk, .junk, .junk, .junk, .junk, .junk, .junk, .junk, .junk, .junk, .junk, .junk, .junk, .junk, .junk, .junk, .junk, .junk, .junk, .junk, .junk]) (fun _ => [.cells 0 0 [slI f1 o1 .u8 ow, slI f2 o2 .i64 pr, slR f3 o3 f4 o4 .i64 su]]) (fun k => ow.length - k) 0 ⟨by omega, rfl⟩ (by simp only [PWeak_nil, PWeak_junk, PWeak_same, Int.cast_ofNat_Int, List.length_append, List.length_cons, List.length_nil, Nat.zero_add]) rfl ?_
  intro k ⟨hle, hmv⟩ ih
  refine SemW_go (by kernel_rfl) ?_
  simp only [PP, P1, P2, P3, P4, P5, P6, P7, P8, P9, P10, P11, P12, P13, P14, L1, P15, N1, N2, N3, N4, N5, N6, N7, I1, I2, I3, I4, I5, I6, I7, reduceIte, reduceCtorEq]
  refine QIf.intro (fun d => ?_) (fun d => ?_)
  · have hk : k < ow.length := by omega
    have hw := wrap_succ (k := k) (by show _ < 1000000000000; omega)
    have k0 : (0 : Int) ≤ k := by omega
    obtain ⟨u, g1⟩ := some_of (xs := st) (k := k) (by omega)
    obtain ⟨row, g2⟩ := some_of (xs := su) (k := k) (by omega)
    have ks : (k : Int) < su.length := by omega
    have e2 : su.getD k [] = row := by simp [List.getD, g2]
    rw [drop_some g1, movM, e2] at hmv
    simp only [PP, P1, P2, P3, P4, P5, P6, P7, P8, P9, P10, P11, P12, P13, P14, L1, P15, N1, N2, N3, N4, N5, N6, N7, I1, I2, I3, I4, I5, I6, I7, reduceIte, reduceCtorEq, c4, d, g1, g2, k0, ks]
    refine contains_p T (B.r _ (List.mem_of_getElem? g2)) ?_
    by_cases h1 : u ∈ row
    · rw [if_pos h1] at hmv
      simp only [PP, P1, P2, P3, P4, P5, P6, P7, P8, P9, P10, P11, P12, P13, P14, L1, P15, N1, N2, N3, N4, N5, N6, N7, I1, I2, I3, I4, I5, I6, I7, reduceIte, reduceCtorEq, h1, hw]
      exact SemW_weak (ih (k + 1) ⟨by omega, hmv⟩ (by omega)) (by simp only [PWeak_nil, PWeak_junk, PWeak_same, Int.cast_ofNat_Int, List.length_append, List.length_cons, List.length_nil, Nat.zero_add])
    · rw [if_neg h1] at hmv
      simp only [PP, P1, P2, P3, P4, P5, P6, P7, P8, P9, P10, P11, P12, P13, P14, L1, P15, N1, N2, N3, N4, N5, N6, N7, I1, I2, I3, I4, I5, I6, I7, reduceIte, reduceCtorEq, h1, ← hmv] at hq ⊢
      exact ⟨_, wk_attr _, hq⟩
  · have hkn : k = st.length := by omega
    rw [List.drop_eq_nil_of_le (by omega)] at hmv
    simp only [PP, P1, P2, P3, P4, P5, P6, P7, P8, P9, P10, P11, P12, P13, P14, L1, P15, N1, N2, N3, N4, N5, N6, N7, I1, I2, I3, I4, I5, I6, I7, reduceIte, reduceCtorEq, ← hmv, movM] at hq ⊢
    simp only [PP, P1, P2, P3, P4, P5, P6, P7, P8, P9, P10, P11, P12, P13, P14, L1, P15, N1, N2, N3, N4, N5, N6, N7, I1, I2, I3, I4, I5, I6, I7, reduceIte, reduceCtorEq, d]
    have hst : ∀ (k : Nat) (u : Int), st[k]? = some u → 0 ≤ u ∧ u < ow.length := by
      intro k u hu
      have h1 := movM_get hmv.symm k u hu
      have hks : k < su.length := by have := getSome_lt hu; omega
      obtain ⟨_, _, _, _, q⟩ := V.row k hks
      rw [Nat.zero_add, List.getD, List.getElem?_eq_getElem hks] at h1
      have := (posM_rise q).2 u h1
      omega
    obtain ⟨v0, rfl⟩ : ∃ v0 : Nat, from' = v0 := ⟨from'.toNat, by omega⟩
    refine SemW_re (GStep.nil 13 1 rfl rfl rfl) ?_
    simp only [ptset, List.cons_append, List.nil_append, List.length_cons, List.length_nil, Nat.reduceAdd]
    refine loop3 (fun (v g : Nat) (l : List Nat) => v < ow.length ∧ l.Nodup ∧ (∀ x ∈ l, x < ow.length) ∧ K (.tuple [slI false true .i64 (playL st (ow.length + 1 - l.length) v (natI l)).1, slI false true .i64 (playL st (ow.length + 1 - l.length) v (natI l)).2, p64 0]) M)
      (fun v g l => [.junk, slI f5 o5 .i64 st, .junk, .junk, .junk, .junk, .junk, .junk, .junk, .junk, .junk, .junk, .junk, .ref 1 g 1 0 l.length, p64 v, .junk, .junk, .junk, .junk, .junk, .junk, .junk, .junk, .junk, .junk, .junk, .junk, .junk, .junk, .junk, .junk, .junk, .junk, .junk, .junk, .junk, .junk, .junk, .junk, .junk, .junk, .junk, .junk, .junk, .junk, .junk, .junk, .junk, .junk, .junk, .junk, .junk, .junk, .junk, .junk, .junk, .junk, .junk, .junk, .junk, .junk, .junk, .junk, .junk, .junk, .junk, .junk, .junk, .junk, .junk, .junk, .junk, .junk, .junk, .junk])
      (fun v g l => [.cells 0 0 [slI f1 o1 .u8 ow, slI f2 o2 .i64 pr, slR f3 o3 f4 o4 .i64 su], .cells g 0 ((natI l).map (PV.int .i64))])
      (fun v g l => ow.length + 1 - l.length) v0 0 [] ⟨by omega, List.nodup_nil, by simp, hq⟩ (by simp only [PWeak_nil, PWeak_junk, PWeak_same, Int.cast_ofNat_Int, List.length_append, List.length_cons, List.length_nil, Nat.zero_add]) rfl ?_
    intro v g l ⟨hv, hnd, hlt, hq⟩ ih
    have hll := nodup_lenN _ l hnd hlt
    have hlb : (natI l).length < big := by show _ < 1000000000000; rw [List.length_map]; omega
    obtain ⟨fu, hfu⟩ : ∃ fu, ow.length + 1 - l.length = fu + 1 := ⟨ow.length - l.length, by omega⟩
    rw [hfu, playL] at hq
    refine SemW_go (by kernel_rfl) ?_
    simp only [PP, P1, P2, P3, P4, P5, P6, P7, P8, P9, P10, P11, P12, P13, P14, L1, P15, N1, N2, N3, N4, N5, N6, N7, I1, I2, I3, I4, I5, I6, I7, reduceIte, reduceCtorEq]
    refine SemC_bor (.ints rfl (List.length_map _) (.same rfl .nil)) (index_p T hlb ⟨rfl, ?_⟩)
    rcases idxI_spec v (natI l) 0 with ⟨h1, h2⟩ | ⟨i, h1, h2, h3⟩
    · have hv0 : (0 : Int) ≤ v := by omega
      have hvs : (v : Int) < st.length := by omega
      obtain ⟨u, g1⟩ := some_of (xs := st) (k := v) (by omega)
      obtain ⟨u0, u1⟩ := hst v u g1
      obtain ⟨w, rfl⟩ : ∃ w : Nat, u = w := ⟨u.toNat, by omega⟩
      have e1 : st.getD v 0 = w := by simp [List.getD, g1]
      have b1 : (l.length + 1) * 8 ≤ 140737488355328 := by omega
      have b2 : l.length + 1 ≤ 9223372036854775807 := by omega
      simp only [PP, P1, P2, P3, P4, P5, P6, P7, P8, P9, P10, P11, P12, P13, P14, L1, P15, N1, N2, N3, N4, N5, N6, N7, I1, I2, I3, I4, I5, I6, I7, reduceIte, reduceCtorEq, h2, e1] at hq ⊢
      have b2 : l.length ≤ 9223372036854775806 := by omega
      have hni : v ∉ l := fun h => h1 (mem_natI.2 h)
      have hps : psub ((natI l).map (PV.int .i64)) 0 l.length ++ [.int .i64 (v : Int)] = (natI (l ++ [v])).map (PV.int .i64) := by
        rw [psub_all _ _ (by simp)]; simp
      have hq2 : natI l ++ [(v : Int)] = natI (l ++ [v]) := by simp
      simp only [PP, P1, P2, P3, P4, P5, P6, P7, P8, P9, P10, P11, P12, P13, P14, L1, P15, N1, N2, N3, N4, N5, N6, N7, I1, I2, I3, I4, I5, I6, I7, reduceIte, reduceCtorEq, g1, hv0, hvs, b1, b2]
      refine SemW_to (ih w (g + 1) (l ++ [v]) ⟨by omega, ?_, ?_, ?_⟩ (by rw [List.length_append, List.length_singleton]; omega)) (by simp only [PWeak_nil, PWeak_junk, PWeak_same, Int.cast_ofNat_Int, List.length_append, List.length_cons, List.length_nil, Nat.zero_add]) (by rw [hps])
      · rw [List.nodup_append]
        exact ⟨hnd, by simp, fun a ha b hb e => by rw [List.mem_singleton] at hb; subst hb; subst e; exact hni ha⟩
      · intro x hx
        rcases List.mem_append.1 hx with h | h
        · exact hlt x h
        · rw [List.mem_singleton] at h; subst h; exact hv
      · rw [hq2] at hq
        rw [show ow.length + 1 - (l ++ [v]).length = fu by rw [List.length_append, List.length_singleton]; omega]
        exact hq
    · have i0 : (0 : Int) ≤ ((0 + i : Nat) : Int) := by omega
      have il : i < l.length := by have := getSome_lt h1; rwa [List.length_map] at this
      rw [h3] at hq ⊢
      rw [if_pos i0] at hq
      simp only [PP, P1, P2, P3, P4, P5, P6, P7, P8, P9, P10, P11, P12, P13, P14, L1, P15, N1, N2, N3, N4, N5, N6, N7, I1, I2, I3, I4, I5, I6, I7, reduceIte, reduceCtorEq] at hq i0 ⊢
      have il2 : (i : Int) ≤ l.length := by omega
      have e0 : ((i : Int) - 0).toNat = i := by omega
      have e1 : ((l.length : Int) - i).toNat = l.length - i := by omega
      have ll : (natI l).length = l.length := List.length_map _
      simp only [PP, P1, P2, P3, P4, P5, P6, P7, P8, P9, P10, P11, P12, P13, P14, L1, P15, N1, N2, N3, N4, N5, N6, N7, I1, I2, I3, I4, I5, I6, I7, reduceIte, reduceCtorEq, i0, il2, e0]
      refine clone_r T (xs := natI l) (g := g) (ver := 0) rfl (by omega) hlb (by simp only [PP, P1, P2, P3, P4, P5, P6, P7, P8, P9, P10, P11, P12, P13, P14, L1, P15, N1, N2, N3, N4, N5, N6, N7, I1, I2, I3, I4, I5, I6, I7, reduceIte, reduceCtorEq, cutOk, underL_ints]) ?_
      simp only [PP, P1, P2, P3, P4, P5, P6, P7, P8, P9, P10, P11, P12, P13, P14, L1, P15, N1, N2, N3, N4, N5, N6, N7, I1, I2, I3, I4, I5, I6, I7, reduceIte, reduceCtorEq, i0, il2, e1, Int.le_refl]
      refine clone_r T (xs := natI l) (g := g) (ver := 0) rfl (by omega) hlb (by simp only [PP, P1, P2, P3, P4, P5, P6, P7, P8, P9, P10, P11, P12, P13, P14, L1, P15, N1, N2, N3, N4, N5, N6, N7, I1, I2, I3, I4, I5, I6, I7, reduceIte, reduceCtorEq, cutOk, underL_ints]) ?_
      rw [List.take_of_length_le (show ((natI l).drop i).length ≤ l.length - i by simp)]
      simp only [PP, P1, P2, P3, P4, P5, P6, P7, P8, P9, P10, P11, P12, P13, P14, L1, P15, N1, N2, N3, N4, N5, N6, N7, I1, I2, I3, I4, I5, I6, I7, reduceIte, reduceCtorEq]
      exact ⟨_, PvWk.refl _, hq⟩
end
end Go.Am.Ar

