/- Contracts of the small functions that games are checked with, and what goes with it. -/
import Derived.Test.YtkbdnbmnopmhdaaCertifyRejectsCode
import Derived.Test.YtkbdnbmnopmhdaaPmR
import Derived.Test.YtkbdnbmnopmhdaaPmC
set_option linter.unusedVariables false
set_option linter.unusedSimpArgs false
set_option maxRecDepth 10000
namespace Go.Am.Ar
open Go.Am renaming pchk → P1, pold → P2, PKNo → P3, ppack → P4, PObj.under → P5, pput → P6, ptset → P7, ptget → P8, pev → P9, ofAV → P10, ofAV1 → P11, ppad → P12, pfill → P13, prepl → P14, AO.effect → P15
open List renaming replicate → L1
open Nat renaming reduceAdd → N1, reduceSub → N2, reduceMul → N3, reduceLT → N4, reduceLeDiff → N5, reduceEqDiff → N6, reduceBEq → N7
open Int renaming reduceToNat → I1, reduceLT → I2, reduceLE → I3, reduceEq → I4, reduceAdd → I5, reduceSub → I6, reduceNeg → I7
abbrev big : Nat := 1000000000000
theorem wrap_succ {k : Nat} (h : k < big) : IntKind.i64.wrap ((k : Int) + 1) = ((k + 1 : Nat) : Int) := by
  have h : k < 1000000000000 := h
  rw [wrap64 (by omega) (by omega)]; omega
theorem drop_get' {α : Type} {xs : List α} {k : Nat} (h : k < xs.length) : xs.drop k = xs[k] :: xs.drop (k + 1) := List.drop_eq_getElem_cons h
theorem some_of {α : Type} {xs : List α} {k : Nat} (h : k < xs.length) : ∃ x, xs[k]? = some x := ⟨xs[k], List.getElem?_eq_getElem h⟩
theorem drop_some {α : Type} {xs : List α} {k : Nat} {x : α} (h : xs[k]? = some x) : xs.drop k = x :: xs.drop (k + 1) := by
  have hk := getSome_lt h
  rw [List.drop_eq_getElem_cons hk]
  rw [List.getElem?_eq_getElem hk] at h
  cases h; rfl
theorem take_some {α : Type} {xs : List α} {k : Nat} {x : α} (h : xs[k]? = some x) : xs.take (k + 1) = xs.take k ++ [x] := by simp [List.take_add_one, h]
theorem getD_some {xs : List Int} {k : Nat} {x : Int} (h : xs[k]? = some x) : xs.getD k 0 = x := by simp [List.getD, h]
def posM (n : Int) : Int → List Int → Bool
  | _, [] => true
  | last, v :: l => if v ≤ last then false else if n ≤ v then false else posM n v l
section
variable {tab : FuncId → Option AF} (T : HasA tab)
include T
theorem positions_p {M : Mem} {K : PV → Mem → Prop} {f o : Bool} {xs : List Int} {n : Int} (hm : xs.length < big) (hk : K (.bool (posM n (-1) xs)) M) :
    SemC tab 46 [slI f o .i64 xs, p64 n] M K := by
  refine SemC_pure T.h46 (by simp only [PP, P1, P2, P3, P4, P5, P6, P7, P8, P9, P10, P11, P12, P13, P14, L1, P15, N1, N2, N3, N4, N5, N6, N7, I1, I2, I3, I4, I5, I6, I7, reduceIte, reduceCtorEq]) ?_
  simp only [af46, PP, P1, P2, P3, P4, P5, P6, P7, P8, P9, P10, P11, P12, P13, P14, L1, P15, N1, N2, N3, N4, N5, N6, N7, I1, I2, I3, I4, I5, I6, I7, reduceIte, reduceCtorEq]
  refine loop2 (fun (k : Nat) (last : Int) => k ≤ xs.length ∧ K (.bool (posM n last (xs.drop k))) M) (fun k last => [.junk, p64 n, .junk, .junk, .junk, p64 last, .junk, .junk, slI f o .i64 xs, p64 xs.length, p64 k, .junk, .junk, .junk, .junk, .junk, .junk, .junk, .junk, .junk, .junk, .junk, .junk, .junk]) (fun _ _ => []) (fun k _ => xs.length - k) 0 (-1) ⟨by omega, hk⟩ (by simp only [PWeak_nil, PWeak_junk, PWeak_same, Int.cast_ofNat_Int, List.length_append, List.length_cons, List.length_nil, Nat.zero_add]) rfl ?_
  intro k last ⟨hk, hq⟩ ih
  refine SemW_go (by kernel_rfl) ?_
  simp only [PP, P1, P2, P3, P4, P5, P6, P7, P8, P9, P10, P11, P12, P13, P14, L1, P15, N1, N2, N3, N4, N5, N6, N7, I1, I2, I3, I4, I5, I6, I7, reduceIte, reduceCtorEq]
  refine QIf.intro (fun c => ?_) (fun c => ?_)
  · have hk' : k < xs.length := by omega
    rw [drop_get' hk'] at hq
    have hw := wrap_succ (k := k) (by omega)
    have hg : xs[k]? = some xs[k] := List.getElem?_eq_getElem hk'
    have h0 : (0 : Int) ≤ k := by omega
    simp only [PP, P1, P2, P3, P4, P5, P6, P7, P8, P9, P10, P11, P12, P13, P14, L1, P15, N1, N2, N3, N4, N5, N6, N7, I1, I2, I3, I4, I5, I6, I7, reduceIte, reduceCtorEq, posM, c, hg, hw, h0] at hq ⊢
    refine QIf.intro (fun h1 => ?_) (fun h1 => ?_)
    · simp only [PP, P1, P2, P3, P4, P5, P6, P7, P8, P9, P10, P11, P12, P13, P14, L1, P15, N1, N2, N3, N4, N5, N6, N7, I1, I2, I3, I4, I5, I6, I7, reduceIte, reduceCtorEq, h1] at hq ⊢
      exact hq
    · simp only [PP, P1, P2, P3, P4, P5, P6, P7, P8, P9, P10, P11, P12, P13, P14, L1, P15, N1, N2, N3, N4, N5, N6, N7, I1, I2, I3, I4, I5, I6, I7, reduceIte, reduceCtorEq, h1] at hq ⊢
      refine QIf.intro (fun h2 => ?_) (fun h2 => ?_)
      · simp only [PP, P1, P2, P3, P4, P5, P6, P7, P8, P9, P10, P11, P12, P13, P14, L1, P15, N1, N2, N3, N4, N5, N6, N7, I1, I2, I3, I4, I5, I6, I7, reduceIte, reduceCtorEq, h2] at hq ⊢
        exact hq
      · simp only [PP, P1, P2, P3, P4, P5, P6, P7, P8, P9, P10, P11, P12, P13, P14, L1, P15, N1, N2, N3, N4, N5, N6, N7, I1, I2, I3, I4, I5, I6, I7, reduceIte, reduceCtorEq, h2, hw] at hq ⊢
        exact SemW_weak (ih (k + 1) _ ⟨by omega, hq⟩ (by omega)) (by simp only [PWeak_nil, PWeak_junk, PWeak_same, Int.cast_ofNat_Int, List.length_append, List.length_cons, List.length_nil, Nat.zero_add])
  · simp only [PP, P1, P2, P3, P4, P5, P6, P7, P8, P9, P10, P11, P12, P13, P14, L1, P15, N1, N2, N3, N4, N5, N6, N7, I1, I2, I3, I4, I5, I6, I7, reduceIte, reduceCtorEq, c]
    rw [List.drop_eq_nil_of_le (by omega)] at hq
    exact hq
abbrev gmP (f1 o1 f2 o2 f3 o3 f4 o4 : Bool) (ow pr : List Int) (su : List (List Int)) : PV := .agg [slI f1 o1 .u8 ow, slI f2 o2 .i64 pr, slR f3 o3 f4 o4 .i64 su]
structure Bnd (ow pr : List Int) (su : List (List Int)) : Prop where
  o : ow.length < big
  p : pr.length < big
  s : su.length < big
  r : ∀ row ∈ su, row.length < big
def checkLoop (ow pr : List Int) : Nat → List (List Int) → Int
  | _, [] => 0
  | k, row :: rest => if 1 < ow.getD k 0 then 6 else if pr.getD k 0 < 0 then 1 else if 16 < pr.getD k 0 then 1 else if (row.length : Int) = 0 then 13 else if posM ow.length (-1) row = false then 8 else checkLoop ow pr (k + 1) rest
def checkM (ow pr : List Int) (su : List (List Int)) : Int :=
  if (ow.length : Int) = 0 then 3 else if 4096 < (ow.length : Int) then 10 else if (pr.length : Int) = ow.length then (if (su.length : Int) = ow.length then checkLoop ow pr 0 su else 2) else 2
omit T in
theorem checkM_len {ow pr : List Int} {su : List (List Int)} (h : checkM ow pr su = 0) : 0 < ow.length ∧ ow.length ≤ 4096 ∧ pr.length = ow.length ∧ su.length = ow.length ∧ checkLoop ow pr 0 su = 0 := by
  unfold checkM at h
  split at h
  · simp at h
  · split at h
    · simp at h
    · split at h
      · split at h
        · exact ⟨by omega, by omega, by omega, by omega, h⟩
        · simp at h
      · simp at h
theorem check_p {M : Mem} {K : PV → Mem → Prop} {f1 o1 f2 o2 f3 o3 f4 o4 : Bool} {ow pr : List Int} {su : List (List Int)} (B : Bnd ow pr su) (hq : K (p64 (checkM ow pr su)) M) :
    SemC tab 21 [gmP f1 o1 f2 o2 f3 o3 f4 o4 ow pr su] M K := by
  refine SemC_pure T.h21 (by simp only [PP, P1, P2, P3, P4, P5, P6, P7, P8, P9, P10, P11, P12, P13, P14, L1, P15, N1, N2, N3, N4, N5, N6, N7, I1, I2, I3, I4, I5, I6, I7, reduceIte, reduceCtorEq]) ?_
  simp only [af21, PP, P1, P2, P3, P4, P5, P6, P7, P8, P9, P10, P11, P12, P13, P14, L1, P15, N1, N2, N3, N4, N5, N6, N7, I1, I2, I3, I4, I5, I6, I7, reduceIte, reduceCtorEq, checkM] at hq ⊢
  refine QIf.intro (fun c1 => ?_) (fun c1 => ?_)
  · simp only [PP, P1, P2, P3, P4, P5, P6, P7, P8, P9, P10, P11, P12, P13, P14, L1, P15, N1, N2, N3, N4, N5, N6, N7, I1, I2, I3, I4, I5, I6, I7, reduceIte, reduceCtorEq, c1] at hq ⊢
    exact hq
  simp only [PP, P1, P2, P3, P4, P5, P6, P7, P8, P9, P10, P11, P12, P13, P14, L1, P15, N1, N2, N3, N4, N5, N6, N7, I1, I2, I3, I4, I5, I6, I7, reduceIte, reduceCtorEq, c1] at hq ⊢
  refine QIf.intro (fun c2 => ?_) (fun c2 => ?_)
  · simp only [PP, P1, P2, P3, P4, P5, P6, P7, P8, P9, P10, P11, P12, P13, P14, L1, P15, N1, N2, N3, N4, N5, N6, N7, I1, I2, I3, I4, I5, I6, I7, reduceIte, reduceCtorEq, c2] at hq ⊢
    exact hq
  simp only [PP, P1, P2, P3, P4, P5, P6, P7, P8, P9, P10, P11, P12, P13, P14, L1, P15, N1, N2, N3, N4, N5, N6, N7, I1, I2, I3, I4, I5, I6, I7, reduceIte, reduceCtorEq, c2] at hq ⊢
  refine QIf.intro (fun c3 => ?_) (fun c3 => ?_)
  rotate_left
  · simp only [PP, P1, P2, P3, P4, P5, P6, P7, P8, P9, P10, P11, P12, P13, P14, L1, P15, N1, N2, N3, N4, N5, N6, N7, I1, I2, I3, I4, I5, I6, I7, reduceIte, reduceCtorEq, c3] at hq ⊢
    exact hq
  simp only [PP, P1, P2, P3, P4, P5, P6, P7, P8, P9, P10, P11, P12, P13, P14, L1, P15, N1, N2, N3, N4, N5, N6, N7, I1, I2, I3, I4, I5, I6, I7, reduceIte, reduceCtorEq, c3] at hq ⊢
  refine QIf.intro (fun c4 => ?_) (fun c4 => ?_)
  rotate_left
  · simp only [PP, P1, P2, P3, P4, P5, P6, P7, P8, P9, P10, P11, P12, P13, P14, L1, P15, N1, N2, N3, N4, N5, N6, N7, I1, I2, I3, I4, I5, I6, I7, reduceIte, reduceCtorEq, c4] at hq ⊢
    exact hq
  simp only [PP, P1, P2, P3, P4, P5, P6, P7, P8, P9, P10, P11, P12, P13, P14, L1, P15, N1, N2, N3, N4, N5, N6, N7, I1, I2, I3, I4, I5, I6, I7, reduceIte, reduceCtorEq, c4] at hq ⊢
  have d4 : su.length = ow.length := by omega
  refine loop1 (fun (k : Nat) => k ≤ su.length ∧ K (p64 (checkLoop ow pr k (su.drop k))) M) (fun k => [.junk, .ptr 0 0 0, .junk, p64 ow.length, .junk, .junk, .junk, .junk, .junk, .junk, .junk, .junk, .junk, .junk, .junk, .junk, .junk, .junk, .junk, .junk, .junk, .junk, .junk, .junk, .junk, .junk, .junk, .junk, .junk, slR f3 o3 f4 o4 .i64 su, p64 ow.length, p64 k, .junk, .junk, .junk, .junk, .junk, .junk, .junk, .junk, .junk, .junk, .junk, .junk, .junk, .junk, .junk, .junk, .junk, .junk, .junk, .junk, .junk, .junk, .junk, .junk, .junk, .junk, .junk, .junk, .junk, .junk, .junk, .junk, .junk, .junk, .junk, .junk]) (fun _ => [.cells 0 0 [slI f1 o1 .u8 ow, slI f2 o2 .i64 pr, slR f3 o3 f4 o4 .i64 su]]) (fun k => su.length - k) 0 ⟨by omega, hq⟩ (by simp only [PWeak_nil, PWeak_junk, PWeak_same, Int.cast_ofNat_Int, d4]) rfl ?_
  intro k ⟨hle, hq⟩ ih
  refine SemW_go (by kernel_rfl) ?_
  simp only [PP, P1, P2, P3, P4, P5, P6, P7, P8, P9, P10, P11, P12, P13, P14, L1, P15, N1, N2, N3, N4, N5, N6, N7, I1, I2, I3, I4, I5, I6, I7, reduceIte, reduceCtorEq]
  refine QIf.intro (fun c => ?_) (fun c => ?_)
  · have hk' : k < su.length := by omega
    have g1 : su[k]? = some su[k] := List.getElem?_eq_getElem hk'
    have g2 : ow[k]? = some ow[k] := List.getElem?_eq_getElem (by omega)
    have g3 : pr[k]? = some pr[k] := List.getElem?_eq_getElem (by omega)
    have h0 : (0 : Int) ≤ k := by omega
    have hw := wrap_succ (k := k) (by have := B.s; omega)
    have e2 : ow.getD k 0 = ow[k] := by simp [List.getD, g2]
    have e3 : pr.getD k 0 = pr[k] := by simp [List.getD, g3]
    rw [drop_get' hk'] at hq
    have hks : (k : Int) < su.length := by omega
    have hkp : (k : Int) < pr.length := by omega
    simp only [PP, P1, P2, P3, P4, P5, P6, P7, P8, P9, P10, P11, P12, P13, P14, L1, P15, N1, N2, N3, N4, N5, N6, N7, I1, I2, I3, I4, I5, I6, I7, reduceIte, reduceCtorEq, checkLoop, c, g1, g2, g3, h0, e2, e3, hks, hkp] at hq ⊢
    refine QIf.intro (fun h1 => ?_) (fun h1 => ?_)
    · simp only [PP, P1, P2, P3, P4, P5, P6, P7, P8, P9, P10, P11, P12, P13, P14, L1, P15, N1, N2, N3, N4, N5, N6, N7, I1, I2, I3, I4, I5, I6, I7, reduceIte, reduceCtorEq, h1] at hq ⊢
      exact hq
    simp only [PP, P1, P2, P3, P4, P5, P6, P7, P8, P9, P10, P11, P12, P13, P14, L1, P15, N1, N2, N3, N4, N5, N6, N7, I1, I2, I3, I4, I5, I6, I7, reduceIte, reduceCtorEq, h1, g3, hkp, h0] at hq ⊢
    refine QIf.intro (fun h2 => ?_) (fun h2 => ?_)
    · simp only [PP, P1, P2, P3, P4, P5, P6, P7, P8, P9, P10, P11, P12, P13, P14, L1, P15, N1, N2, N3, N4, N5, N6, N7, I1, I2, I3, I4, I5, I6, I7, reduceIte, reduceCtorEq, h2] at hq ⊢
      exact hq
    simp only [PP, P1, P2, P3, P4, P5, P6, P7, P8, P9, P10, P11, P12, P13, P14, L1, P15, N1, N2, N3, N4, N5, N6, N7, I1, I2, I3, I4, I5, I6, I7, reduceIte, reduceCtorEq, h2, g3, hkp, h0] at hq ⊢
    refine QIf.intro (fun h3 => ?_) (fun h3 => ?_)
    · simp only [PP, P1, P2, P3, P4, P5, P6, P7, P8, P9, P10, P11, P12, P13, P14, L1, P15, N1, N2, N3, N4, N5, N6, N7, I1, I2, I3, I4, I5, I6, I7, reduceIte, reduceCtorEq, h3] at hq ⊢
      exact hq
    simp only [PP, P1, P2, P3, P4, P5, P6, P7, P8, P9, P10, P11, P12, P13, P14, L1, P15, N1, N2, N3, N4, N5, N6, N7, I1, I2, I3, I4, I5, I6, I7, reduceIte, reduceCtorEq, h3] at hq ⊢
    refine QIf.intro (fun h4 => ?_) (fun h4 => ?_)
    · simp only [PP, P1, P2, P3, P4, P5, P6, P7, P8, P9, P10, P11, P12, P13, P14, L1, P15, N1, N2, N3, N4, N5, N6, N7, I1, I2, I3, I4, I5, I6, I7, reduceIte, reduceCtorEq, h4] at hq ⊢
      exact hq
    simp only [PP, P1, P2, P3, P4, P5, P6, P7, P8, P9, P10, P11, P12, P13, P14, L1, P15, N1, N2, N3, N4, N5, N6, N7, I1, I2, I3, I4, I5, I6, I7, reduceIte, reduceCtorEq, h4] at hq ⊢
    refine positions_p T (B.r _ (List.getElem_mem hk')) ?_
    simp only [PP, P1, P2, P3, P4, P5, P6, P7, P8, P9, P10, P11, P12, P13, P14, L1, P15, N1, N2, N3, N4, N5, N6, N7, I1, I2, I3, I4, I5, I6, I7, reduceIte, reduceCtorEq]
    by_cases h5 : posM ow.length (-1) su[k] = true
    · simp only [PP, P1, P2, P3, P4, P5, P6, P7, P8, P9, P10, P11, P12, P13, P14, L1, P15, N1, N2, N3, N4, N5, N6, N7, I1, I2, I3, I4, I5, I6, I7, reduceIte, reduceCtorEq, h5, hw] at hq ⊢
      exact SemW_weak (ih (k + 1) ⟨by omega, hq⟩ (by omega)) (by simp only [PWeak_nil, PWeak_junk, PWeak_same, Int.cast_ofNat_Int, List.length_append, List.length_cons, List.length_nil, Nat.zero_add])
    · simp only [PP, P1, P2, P3, P4, P5, P6, P7, P8, P9, P10, P11, P12, P13, P14, L1, P15, N1, N2, N3, N4, N5, N6, N7, I1, I2, I3, I4, I5, I6, I7, reduceIte, reduceCtorEq, h5] at hq ⊢
      exact hq
  · simp only [PP, P1, P2, P3, P4, P5, P6, P7, P8, P9, P10, P11, P12, P13, P14, L1, P15, N1, N2, N3, N4, N5, N6, N7, I1, I2, I3, I4, I5, I6, I7, reduceIte, reduceCtorEq, c]
    rw [List.drop_eq_nil_of_le (by omega)] at hq
    exact hq
end
end Go.Am.Ar
set_option linter.unusedVariables false
set_option linter.unusedSimpArgs false
set_option maxRecDepth 10000
namespace Go.Am.Ar
open Go.Am renaming pchk → P1, pold → P2, PKNo → P3, ppack → P4, PObj.under → P5, pput → P6, ptset → P7, ptget → P8, pev → P9, ofAV → P10, ofAV1 → P11, ppad → P12, pfill → P13, prepl → P14, AO.effect → P15
open List renaming replicate → L1
open Nat renaming reduceAdd → N1, reduceSub → N2, reduceMul → N3, reduceLT → N4, reduceLeDiff → N5, reduceEqDiff → N6, reduceBEq → N7
open Int renaming reduceToNat → I1, reduceLT → I2, reduceLE → I3, reduceEq → I4, reduceAdd → I5, reduceSub → I6, reduceNeg → I7
section
variable {tab : FuncId → Option AF} (T : HasA tab)
include T
theorem hasInt_p {M : Mem} {K : PV → Mem → Prop} {f o : Bool} {xs : List Int} {v : Int} (hm : xs.length < big) (hk : K (.bool (decide (v ∈ xs))) M) :
    SemC tab 36 [slI f o .i64 xs, p64 v] M K := by
  refine SemC_pure T.h36 (by simp only [PP, P1, P2, P3, P4, P5, P6, P7, P8, P9, P10, P11, P12, P13, P14, L1, P15, N1, N2, N3, N4, N5, N6, N7, I1, I2, I3, I4, I5, I6, I7, reduceIte, reduceCtorEq]) ?_
  simp only [af36, PP, P1, P2, P3, P4, P5, P6, P7, P8, P9, P10, P11, P12, P13, P14, L1, P15, N1, N2, N3, N4, N5, N6, N7, I1, I2, I3, I4, I5, I6, I7, reduceIte, reduceCtorEq]
  refine loop1 (fun (k : Nat) => k ≤ xs.length ∧ K (.bool (decide (v ∈ xs.drop k))) M) (fun k => [slI f o .i64 xs, p64 v, .junk, .junk, .junk, p64 k, .junk, .junk, .junk, .junk, .junk, .junk, .junk, .junk, .junk, .junk, .junk, .junk]) (fun _ => []) (fun k => xs.length - k) 0 ⟨by omega, hk⟩ (by simp only [PWeak_nil, PWeak_junk, PWeak_same, Int.cast_ofNat_Int, List.length_append, List.length_cons, List.length_nil, Nat.zero_add]) rfl ?_
  intro k ⟨hle, hq⟩ ih
  refine SemW_go (by kernel_rfl) ?_
  simp only [PP, P1, P2, P3, P4, P5, P6, P7, P8, P9, P10, P11, P12, P13, P14, L1, P15, N1, N2, N3, N4, N5, N6, N7, I1, I2, I3, I4, I5, I6, I7, reduceIte, reduceCtorEq]
  refine QIf.intro (fun c => ?_) (fun c => ?_)
  · have hk' : k < xs.length := by omega
    rw [drop_get' hk'] at hq
    have hw := wrap_succ (k := k) (by omega)
    have g1 : xs[k]? = some xs[k] := List.getElem?_eq_getElem hk'
    have h0 : (0 : Int) ≤ k := by omega
    simp only [PP, P1, P2, P3, P4, P5, P6, P7, P8, P9, P10, P11, P12, P13, P14, L1, P15, N1, N2, N3, N4, N5, N6, N7, I1, I2, I3, I4, I5, I6, I7, reduceIte, reduceCtorEq, c, g1, hw, h0, List.mem_cons] at hq ⊢
    refine QIf.intro (fun h1 => ?_) (fun h1 => ?_)
    · simp only [PP, P1, P2, P3, P4, P5, P6, P7, P8, P9, P10, P11, P12, P13, P14, L1, P15, N1, N2, N3, N4, N5, N6, N7, I1, I2, I3, I4, I5, I6, I7, reduceIte, reduceCtorEq, h1] at hq ⊢
      exact hq
    · have h1' : ¬ v = xs[k] := fun e => h1 e.symm
      simp only [PP, P1, P2, P3, P4, P5, P6, P7, P8, P9, P10, P11, P12, P13, P14, L1, P15, N1, N2, N3, N4, N5, N6, N7, I1, I2, I3, I4, I5, I6, I7, reduceIte, reduceCtorEq, h1, h1', hw] at hq ⊢
      exact SemW_weak (ih (k + 1) ⟨by omega, hq⟩ (by omega)) (by simp only [PWeak_nil, PWeak_junk, PWeak_same, Int.cast_ofNat_Int, List.length_append, List.length_cons, List.length_nil, Nat.zero_add])
  · simp only [PP, P1, P2, P3, P4, P5, P6, P7, P8, P9, P10, P11, P12, P13, P14, L1, P15, N1, N2, N3, N4, N5, N6, N7, I1, I2, I3, I4, I5, I6, I7, reduceIte, reduceCtorEq, c]
    rw [List.drop_eq_nil_of_le (by omega)] at hq
    simp only [PP, P1, P2, P3, P4, P5, P6, P7, P8, P9, P10, P11, P12, P13, P14, L1, P15, N1, N2, N3, N4, N5, N6, N7, I1, I2, I3, I4, I5, I6, I7, reduceIte, reduceCtorEq, List.not_mem_nil] at hq
    exact hq
end
end Go.Am.Ar
set_option linter.unusedVariables false
set_option linter.unusedSimpArgs false
set_option maxRecDepth 10000
namespace Go.Am.Ar
open Go.Am renaming pchk → P1, pold → P2, PKNo → P3, ppack → P4, PObj.under → P5, pput → P6, ptset → P7, ptget → P8, pev → P9, ofAV → P10, ofAV1 → P11, ppad → P12, pfill → P13, prepl → P14, AO.effect → P15
open List renaming replicate → L1
open Nat renaming reduceAdd → N1, reduceSub → N2, reduceMul → N3, reduceLT → N4, reduceLeDiff → N5, reduceEqDiff → N6, reduceBEq → N7
open Int renaming reduceToNat → I1, reduceLT → I2, reduceLE → I3, reduceEq → I4, reduceAdd → I5, reduceSub → I6, reduceNeg → I7
section
variable {tab : FuncId → Option AF} (T : HasA tab)
include T
end
end Go.Am.Ar
set_option linter.unusedVariables false
set_option linter.unusedSimpArgs false
set_option maxRecDepth 10000
namespace Go.Am.Ar
open Go.Am renaming pchk → P1, pold → P2, PKNo → P3, ppack → P4, PObj.under → P5, pput → P6, ptset → P7, ptget → P8, pev → P9, ofAV → P10, ofAV1 → P11, ppad → P12, pfill → P13, prepl → P14, AO.effect → P15
open List renaming replicate → L1
open Nat renaming reduceAdd → N1, reduceSub → N2, reduceMul → N3, reduceLT → N4, reduceLeDiff → N5, reduceEqDiff → N6, reduceBEq → N7
open Int renaming reduceToNat → I1, reduceLT → I2, reduceLE → I3, reduceEq → I4, reduceAdd → I5, reduceSub → I6, reduceNeg → I7
def anyLong : List (List Int) → Bool
  | [] => false
  | r :: l => if 40 < (r.length : Int) then true else anyLong l
def longM (ow pr : List Int) (su ls : List (List Int)) : Bool :=
  if 30 < (ow.length : Int) then true else if 40 < (pr.length : Int) then true else if 40 < (su.length : Int) then true else if anyLong su = true then true else anyLong ls
theorem anyLong_false : ∀ {l : List (List Int)}, anyLong l = false → ∀ r ∈ l, r.length ≤ 40
  | [], h, r, hr => by cases hr
  | x :: l, h, r, hr => by
    unfold anyLong at h
    split at h
    · cases h
    · rcases List.mem_cons.1 hr with rfl | hr
      · omega
      · exact anyLong_false h r hr
structure Short (ow pr : List Int) (su ls : List (List Int)) : Prop where
  o : ow.length ≤ 30
  p : pr.length ≤ 40
  s : su.length ≤ 40
  r : ∀ row ∈ su, row.length ≤ 40
  l : ∀ row ∈ ls, row.length ≤ 40
theorem longM_false {ow pr : List Int} {su ls : List (List Int)} (h : longM ow pr su ls = false) : Short ow pr su ls := by
  unfold longM at h
  split at h
  · cases h
  · split at h
    · cases h
    · split at h
      · cases h
      · split at h
        · cases h
        · rename_i h4
          exact ⟨by omega, by omega, by omega, anyLong_false (by simpa using h4), anyLong_false h⟩
theorem Short.bnd {ow pr : List Int} {su ls : List (List Int)} (h : Short ow pr su ls) : Bnd ow pr su := by
  obtain ⟨h1, h2, h3, h4, h5⟩ := h
  exact ⟨by show _ < 1000000000000; omega, by show _ < 1000000000000; omega, by show _ < 1000000000000; omega, fun r hr => by show _ < 1000000000000; have := h4 r hr; omega⟩
section
variable {tab : FuncId → Option AF} (T : HasA tab)
include T
theorem long_p {M : Mem} {K : PV → Mem → Prop} {f1 o1 f2 o2 f3 o3 f4 o4 f5 o5 f6 o6 : Bool} {ow pr : List Int} {su ls : List (List Int)} (hl : ls.length < big) (hq : K (.bool (longM ow pr su ls)) M) :
    SemC tab 30 [gmP f1 o1 f2 o2 f3 o3 f4 o4 ow pr su, slR f5 o5 f6 o6 .i64 ls] M K := by
  refine SemC_pure T.h30 (by simp only [PP, P1, P2, P3, P4, P5, P6, P7, P8, P9, P10, P11, P12, P13, P14, L1, P15, N1, N2, N3, N4, N5, N6, N7, I1, I2, I3, I4, I5, I6, I7, reduceIte, reduceCtorEq]) ?_
  simp only [af30, PP, P1, P2, P3, P4, P5, P6, P7, P8, P9, P10, P11, P12, P13, P14, L1, P15, N1, N2, N3, N4, N5, N6, N7, I1, I2, I3, I4, I5, I6, I7, reduceIte, reduceCtorEq, longM] at hq ⊢
  refine QIf.intro (fun c1 => ?_) (fun c1 => ?_)
  · simp only [PP, P1, P2, P3, P4, P5, P6, P7, P8, P9, P10, P11, P12, P13, P14, L1, P15, N1, N2, N3, N4, N5, N6, N7, I1, I2, I3, I4, I5, I6, I7, reduceIte, reduceCtorEq, c1] at hq ⊢
    exact hq
  simp only [PP, P1, P2, P3, P4, P5, P6, P7, P8, P9, P10, P11, P12, P13, P14, L1, P15, N1, N2, N3, N4, N5, N6, N7, I1, I2, I3, I4, I5, I6, I7, reduceIte, reduceCtorEq, c1] at hq ⊢
  refine QIf.intro (fun c2 => ?_) (fun c2 => ?_)
  · simp only [PP, P1, P2, P3, P4, P5, P6, P7, P8, P9, P10, P11, P12, P13, P14, L1, P15, N1, N2, N3, N4, N5, N6, N7, I1, I2, I3, I4, I5, I6, I7, reduceIte, reduceCtorEq, c2] at hq ⊢
    exact hq
  simp only [PP, P1, P2, P3, P4, P5, P6, P7, P8, P9, P10, P11, P12, P13, P14, L1, P15, N1, N2, N3, N4, N5, N6, N7, I1, I2, I3, I4, I5, I6, I7, reduceIte, reduceCtorEq, c2] at hq ⊢
  refine QIf.intro (fun c3 => ?_) (fun c3 => ?_)
  · simp only [PP, P1, P2, P3, P4, P5, P6, P7, P8, P9, P10, P11, P12, P13, P14, L1, P15, N1, N2, N3, N4, N5, N6, N7, I1, I2, I3, I4, I5, I6, I7, reduceIte, reduceCtorEq, c3] at hq ⊢
    exact hq
  simp only [PP, P1, P2, P3, P4, P5, P6, P7, P8, P9, P10, P11, P12, P13, P14, L1, P15, N1, N2, N3, N4, N5, N6, N7, I1, I2, I3, I4, I5, I6, I7, reduceIte, reduceCtorEq, c3] at hq ⊢
  refine loop1 (fun (k : Nat) => k ≤ su.length ∧ K (.bool (if anyLong (su.drop k) = true then true else anyLong ls)) M) (fun k => [.junk, slR f5 o5 f6 o6 .i64 ls, .ptr 0 0 0, .junk, .junk, p64 k, .junk, .junk, .junk, .junk, .junk, .junk, .junk, .junk, .junk, .junk, .junk, .junk, .junk, .junk, .junk, .junk, .junk, .junk, .junk, .junk, .junk, .junk, .junk, .junk, .junk, .junk, .junk, .junk, .junk, .junk, .junk, .junk, .junk, .junk, .junk, .junk, .junk, .junk, .junk, .junk, .junk, .junk, .junk]) (fun _ => [.cells 0 0 [slI f1 o1 .u8 ow, slI f2 o2 .i64 pr, slR f3 o3 f4 o4 .i64 su]]) (fun k => su.length - k) 0 ⟨by omega, hq⟩ (by simp only [PWeak_nil, PWeak_junk, PWeak_same, Int.cast_ofNat_Int, List.length_append, List.length_cons, List.length_nil, Nat.zero_add]) rfl ?_
  intro k ⟨hle, hq⟩ ih
  refine SemW_go (by kernel_rfl) ?_
  simp only [PP, P1, P2, P3, P4, P5, P6, P7, P8, P9, P10, P11, P12, P13, P14, L1, P15, N1, N2, N3, N4, N5, N6, N7, I1, I2, I3, I4, I5, I6, I7, reduceIte, reduceCtorEq]
  refine QIf.intro (fun c => ?_) (fun c => ?_)
  · have hk' : k < su.length := by omega
    have g1 : su[k]? = some su[k] := List.getElem?_eq_getElem hk'
    have h0 : (0 : Int) ≤ k := by omega
    have hw := wrap_succ (k := k) (by show k < 1000000000000; omega)
    rw [drop_get' hk'] at hq
    simp only [PP, P1, P2, P3, P4, P5, P6, P7, P8, P9, P10, P11, P12, P13, P14, L1, P15, N1, N2, N3, N4, N5, N6, N7, I1, I2, I3, I4, I5, I6, I7, reduceIte, reduceCtorEq, c, g1, h0, anyLong] at hq ⊢
    refine QIf.intro (fun h1 => ?_) (fun h1 => ?_)
    · simp only [PP, P1, P2, P3, P4, P5, P6, P7, P8, P9, P10, P11, P12, P13, P14, L1, P15, N1, N2, N3, N4, N5, N6, N7, I1, I2, I3, I4, I5, I6, I7, reduceIte, reduceCtorEq, h1] at hq ⊢
      exact hq
    simp only [PP, P1, P2, P3, P4, P5, P6, P7, P8, P9, P10, P11, P12, P13, P14, L1, P15, N1, N2, N3, N4, N5, N6, N7, I1, I2, I3, I4, I5, I6, I7, reduceIte, reduceCtorEq, h1, hw] at hq ⊢
    exact SemW_weak (ih (k + 1) ⟨by omega, hq⟩ (by omega)) (by simp only [PWeak_nil, PWeak_junk, PWeak_same, Int.cast_ofNat_Int, List.length_append, List.length_cons, List.length_nil, Nat.zero_add])
  · rw [List.drop_eq_nil_of_le (by omega)] at hq
    simp only [PP, P1, P2, P3, P4, P5, P6, P7, P8, P9, P10, P11, P12, P13, P14, L1, P15, N1, N2, N3, N4, N5, N6, N7, I1, I2, I3, I4, I5, I6, I7, reduceIte, reduceCtorEq, c, anyLong] at hq ⊢
    refine loop1 (fun (k : Nat) => k ≤ ls.length ∧ K (.bool (anyLong (ls.drop k))) M) (fun k => [.junk, slR f5 o5 f6 o6 .i64 ls, .junk, .junk, .junk, .junk, p64 k, .junk, .junk, .junk, .junk, .junk, .junk, .junk, .junk, .junk, .junk, .junk, .junk, .junk, .junk, .junk, .junk, .junk, .junk, .junk, .junk, .junk, .junk, .junk, .junk, .junk, .junk, .junk, .junk, .junk, .junk, .junk, .junk, .junk, .junk, .junk, .junk, .junk, .junk, .junk, .junk, .junk, .junk]) (fun _ => [.cells 0 0 [slI f1 o1 .u8 ow, slI f2 o2 .i64 pr, slR f3 o3 f4 o4 .i64 su]]) (fun k => ls.length - k) 0 ⟨by omega, hq⟩ (by simp only [PWeak_nil, PWeak_junk, PWeak_same, Int.cast_ofNat_Int, List.length_append, List.length_cons, List.length_nil, Nat.zero_add]) rfl ?_
    intro k ⟨hle, hq⟩ ih
    refine SemW_go (by kernel_rfl) ?_
    simp only [PP, P1, P2, P3, P4, P5, P6, P7, P8, P9, P10, P11, P12, P13, P14, L1, P15, N1, N2, N3, N4, N5, N6, N7, I1, I2, I3, I4, I5, I6, I7, reduceIte, reduceCtorEq]
    refine QIf.intro (fun c => ?_) (fun c => ?_)
    · have hk' : k < ls.length := by omega
      have g1 : ls[k]? = some ls[k] := List.getElem?_eq_getElem hk'
      have h0 : (0 : Int) ≤ k := by omega
      have hw := wrap_succ (k := k) (by omega)
      rw [drop_get' hk'] at hq
      simp only [PP, P1, P2, P3, P4, P5, P6, P7, P8, P9, P10, P11, P12, P13, P14, L1, P15, N1, N2, N3, N4, N5, N6, N7, I1, I2, I3, I4, I5, I6, I7, reduceIte, reduceCtorEq, c, g1, h0, anyLong] at hq ⊢
      refine QIf.intro (fun h1 => ?_) (fun h1 => ?_)
      · simp only [PP, P1, P2, P3, P4, P5, P6, P7, P8, P9, P10, P11, P12, P13, P14, L1, P15, N1, N2, N3, N4, N5, N6, N7, I1, I2, I3, I4, I5, I6, I7, reduceIte, reduceCtorEq, h1] at hq ⊢
        exact hq
      simp only [PP, P1, P2, P3, P4, P5, P6, P7, P8, P9, P10, P11, P12, P13, P14, L1, P15, N1, N2, N3, N4, N5, N6, N7, I1, I2, I3, I4, I5, I6, I7, reduceIte, reduceCtorEq, h1, hw] at hq ⊢
      exact SemW_weak (ih (k + 1) ⟨by omega, hq⟩ (by omega)) (by simp only [PWeak_nil, PWeak_junk, PWeak_same, Int.cast_ofNat_Int, List.length_append, List.length_cons, List.length_nil, Nat.zero_add])
    · rw [List.drop_eq_nil_of_le (by omega)] at hq
      simp only [PP, P1, P2, P3, P4, P5, P6, P7, P8, P9, P10, P11, P12, P13, P14, L1, P15, N1, N2, N3, N4, N5, N6, N7, I1, I2, I3, I4, I5, I6, I7, reduceIte, reduceCtorEq, c, anyLong] at hq ⊢
      exact hq
end
end Go.Am.Ar
set_option linter.unusedVariables false
set_option linter.unusedSimpArgs false
set_option maxRecDepth 10000
namespace Go.Am.Ar
open Go.Am renaming pchk → P1, pold → P2, PKNo → P3, ppack → P4, PObj.under → P5, pput → P6, ptset → P7, ptget → P8, pev → P9, ofAV → P10, ofAV1 → P11, ppad → P12, pfill → P13, prepl → P14, AO.effect → P15
open List renaming replicate → L1
open Nat renaming reduceAdd → N1, reduceSub → N2, reduceMul → N3, reduceLT → N4, reduceLeDiff → N5, reduceEqDiff → N6, reduceBEq → N7
open Int renaming reduceToNat → I1, reduceLT → I2, reduceLE → I3, reduceEq → I4, reduceAdd → I5, reduceSub → I6, reduceNeg → I7
abbrev gz : PV := .agg [.nils, .nils, .nils]
theorem checkLoop_row {ow pr : List Int} : ∀ {su : List (List Int)} {k : Nat}, checkLoop ow pr k su = 0 → ∀ (i : Nat) (hi : i < su.length), 0 ≤ pr.getD (k + i) 0 ∧ pr.getD (k + i) 0 ≤ 16 ∧ ow.getD (k + i) 0 ≤ 1 ∧ 0 < su[i].length ∧ posM ow.length (-1) su[i] = true
  | [], k, h, i, hi => by simp at hi
  | row :: su, k, h, i, hi => by
    unfold checkLoop at h
    split at h
    · simp at h
    · split at h
      · simp at h
      · split at h
        · simp at h
        · split at h
          · simp at h
          · split at h
            · simp at h
            · rename_i h1 h2 h3 h4 h5
              cases i with
              | zero => exact ⟨by simpa using h2, by simpa using h3, by simpa using h1, by simp only [List.getElem_cons_zero]; omega, by simpa using h5⟩
              | succ i =>
                have := checkLoop_row h i (by simpa using hi)
                simpa [Nat.add_assoc, Nat.add_comm 1 i] using this
structure Valid (ow pr : List Int) (su : List (List Int)) : Prop where
  n0 : 0 < ow.length
  n1 : ow.length ≤ 4096
  p : pr.length = ow.length
  s : su.length = ow.length
  row : ∀ (i : Nat) (hi : i < su.length), 0 ≤ pr.getD i 0 ∧ pr.getD i 0 ≤ 16 ∧ ow.getD i 0 ≤ 1 ∧ 0 < su[i].length ∧ posM ow.length (-1) su[i] = true
theorem valid_of {ow pr : List Int} {su : List (List Int)} (h : checkM ow pr su = 0) : Valid ow pr su := by
  obtain ⟨h1, h2, h3, h4, h5⟩ := checkM_len h
  exact ⟨h1, h2, h3, h4, fun i hi => by simpa using checkLoop_row h5 i hi⟩
theorem nodup_lenN : ∀ (n : Nat) (l : List Nat), l.Nodup → (∀ x ∈ l, x < n) → l.length ≤ n
  | 0, l, _, h => by
    cases l with
    | nil => simp
    | cons x l => have := h x (by simp); omega
  | n + 1, l, hd, h => by
    have := nodup_lenN n (l.filter fun x => x != n) (hd.filter _) (fun x hx => by
      rw [List.mem_filter] at hx
      have := h x hx.1
      have : x ≠ n := by simpa using hx.2
      omega)
    have h2 : l.length ≤ (l.filter fun x => x != n).length + 1 := by
      clear this h
      induction l with
      | nil => simp
      | cons x l ih =>
        rw [List.nodup_cons] at hd
        by_cases e : x = n
        · subst e
          have : l.filter (fun y => y != x) = l := by
            rw [List.filter_eq_self]
            intro y hy
            have : y ≠ x := fun q => hd.1 (q ▸ hy)
            simpa using this
          simp [this]
        · have := ih hd.2
          have hx : (x != n) = true := by simpa using e
          simp only [List.filter_cons, hx, if_true, List.length_cons]
          omega
    omega
theorem prem {k : IntKind} {x y : Int} (h : y ≠ 0) : pbin .rem (.int k x) (.int k y) = some (.int k (x.tmod y)) := by
  simp [pbin, toAV0, abin, ofAV1, h, isShift, binInt]
abbrev natI (l : List Nat) : List Int := l.map fun (v : Nat) => (v : Int)
theorem mem_natI {l : List Nat} {v : Nat} : (v : Int) ∈ natI l ↔ v ∈ l := by
  rw [List.mem_map]
  exact ⟨fun ⟨a, h1, h2⟩ => by rw [show v = a by omega]; exact h1, fun h => ⟨v, h, rfl⟩⟩
theorem posM_rise {n : Int} : ∀ {l : List Int} {last : Int}, posM n last l = true → l.Pairwise (· < ·) ∧ ∀ x ∈ l, last < x ∧ x < n
  | [], _, _ => ⟨.nil, fun x hx => by cases hx⟩
  | v :: l, last, h => by
    unfold posM at h
    split at h
    · simp at h
    · split at h
      · simp at h
      · obtain ⟨h1, h2⟩ := posM_rise h
        refine ⟨.cons (fun x hx => (h2 x hx).1) h1, fun x hx => ?_⟩
        rcases List.mem_cons.1 hx with rfl | hx
        · omega
        · have := h2 x hx; omega
theorem su_range {ow pr : List Int} {su : List (List Int)} (V : Valid ow pr su) {v : Nat} {u : Int} (hv : v < ow.length) (h : u ∈ su.getD v []) : 0 ≤ u ∧ u < ow.length := by
  have hvs : v < su.length := by have := V.s; omega
  obtain ⟨_, _, _, _, hp⟩ := V.row v hvs
  rw [List.getD, List.getElem?_eq_getElem hvs] at h
  have := (posM_rise hp).2 u h
  omega
theorem SemC_true {tab : FuncId → Option AF} {g : FuncId} (hg : tab g = some (.prim primTrue)) {M : Mem} {K : PV → Mem → Prop} (hk : K (.bool true) M) : SemC tab g [] M K := by
  intro w h args' h0 s ha
  have : args' = [] := List.length_eq_zero_iff.1 (by simpa using ha.len.symm)
  subst this
  unfold C
  refine ⟨.bool true, h, ?_, w, .bool true, M, PStp.refl (Nat.le_refl _) w h, s, .bool true, hk⟩
  rw [lim_call]
  simp only [acallF, hg, primTrue]
section
variable {tab : FuncId → Option AF} (T : HasA tab)
include T
end
end Go.Am.Ar
set_option linter.unusedVariables false
set_option linter.unusedSimpArgs false
set_option maxRecDepth 10000
namespace Go.Am.Ar
open Go.Am renaming pchk → P1, pold → P2, PKNo → P3, ppack → P4, PObj.under → P5, pput → P6, ptset → P7, ptget → P8, pev → P9, ofAV → P10, ofAV1 → P11, ppad → P12, pfill → P13, prepl → P14, AO.effect → P15
open List renaming replicate → L1
open Nat renaming reduceAdd → N1, reduceSub → N2, reduceMul → N3, reduceLT → N4, reduceLeDiff → N5, reduceEqDiff → N6, reduceBEq → N7
open Int renaming reduceToNat → I1, reduceLT → I2, reduceLE → I3, reduceEq → I4, reduceAdd → I5, reduceSub → I6, reduceNeg → I7
structure Ck where
  fn : FuncId
  cap : List PV
  e : Int
  P : Nat → Bool
def ckC (l : List Ck) : List PV := l.flatMap fun c => [PV.func (.func c.fn) [] c.cap, p64 c.e]
theorem ckC_len (l : List Ck) : (ckC l).length = l.length * 2 := by
  unfold ckC
  induction l with
  | nil => rfl
  | cons x l ih => rw [List.flatMap_cons, List.length_append, ih]; simp; omega
theorem ckC_sub : ∀ {l : List Ck} {k : Nat} {c : Ck}, l[k]? = some c → psub (ckC l) (k * 2) 2 = [PV.func (.func c.fn) [] c.cap, p64 c.e]
  | x :: l, 0, c, h => by simp at h; subst h; rfl
  | x :: l, k + 1, c, h => by
    have := ckC_sub (l := l) (k := k) (by simpa using h)
    rw [Nat.add_mul]
    exact this
  | [], k, c, h => by simp at h
section
variable {tab : FuncId → Option AF} (T : HasA tab)
include T
theorem all_p {M : Mem} {K : PV → Mem → Prop} {f o : Bool} {n : Nat} {l : List Ck} (hn : n < 1000000000000) (hl : l.length < 1000000) (hu : underL 0 (ckC l) = true)
    (hf : ∀ c ∈ l, ∀ v, v < n → ∀ (M' : Mem) (K' : PV → Mem → Prop), K' (.bool (c.P v)) M' → SemC tab c.fn (p64 v :: c.cap) M' K')
    (hk0 : (∀ v, v < n → ∀ c ∈ l, c.P v = true) → K (p64 0) M)
    (hk1 : ∀ (v j : Nat) (c : Ck), v < n → (∀ u, u < v → ∀ c ∈ l, c.P u = true) → l[j]? = some c → (∀ (i : Nat) (d : Ck), i < j → l[i]? = some d → d.P v = true) → c.P v = false → K (p64 c.e) M) :
    SemC tab 42 [p64 n, .sl f o 2 l.length (ckC l)] M K := by
  refine SemC_pure T.h42 (by simp only [PP, P1, P2, P3, P4, P5, P6, P7, P8, P9, P10, P11, P12, P13, P14, L1, P15, N1, N2, N3, N4, N5, N6, N7, I1, I2, I3, I4, I5, I6, I7, reduceIte, reduceCtorEq, PV.under, hu]) ?_
  simp only [af42, PP, P1, P2, P3, P4, P5, P6, P7, P8, P9, P10, P11, P12, P13, P14, L1, P15, N1, N2, N3, N4, N5, N6, N7, I1, I2, I3, I4, I5, I6, I7, reduceIte, reduceCtorEq]
  refine loop1 (fun (v : Nat) => v ≤ n ∧ ∀ u, u < v → ∀ c ∈ l, c.P u = true) (fun v => [.junk, .sl f o 2 l.length (ckC l), .junk, .junk, .junk, .junk, .junk, .junk, p64 n, p64 v, .junk, .junk, .junk, .junk, .junk, .junk, .junk, .junk, .junk, .junk, .junk, .junk, .junk, .junk, .junk, .junk, .junk]) (fun v => []) (fun v => n - v) 0 ⟨by omega, fun u h => by omega⟩ (by simp only [PWeak_nil, PWeak_junk, PWeak_same, Int.cast_ofNat_Int, List.length_append, List.length_cons, List.length_nil, Nat.zero_add]) rfl ?_
  intro v ⟨hle, hv⟩ ih
  refine SemW_go (by kernel_rfl) ?_
  simp only [PP, P1, P2, P3, P4, P5, P6, P7, P8, P9, P10, P11, P12, P13, P14, L1, P15, N1, N2, N3, N4, N5, N6, N7, I1, I2, I3, I4, I5, I6, I7, reduceIte, reduceCtorEq]
  refine QIf.intro (fun c => ?_) (fun c => ?_)
  · have hvn : v < n := by omega
    have hwv := wrap_succ (k := v) (by show _ < 1000000000000; omega)
    simp only [PP, P1, P2, P3, P4, P5, P6, P7, P8, P9, P10, P11, P12, P13, P14, L1, P15, N1, N2, N3, N4, N5, N6, N7, I1, I2, I3, I4, I5, I6, I7, reduceIte, reduceCtorEq, c]
    refine loop1 (fun (j : Nat) => j ≤ l.length ∧ ∀ (i : Nat) (d : Ck), i < j → l[i]? = some d → d.P v = true) (fun j => [.junk, .sl f o 2 l.length (ckC l), .junk, .junk, .junk, p64 v, .junk, .junk, p64 n, p64 v, .junk, .junk, .sl f o 2 l.length (ckC l), p64 l.length, p64 j, .junk, .junk, .junk, .junk, .junk, .junk, .junk, .junk, .junk, .junk, .junk, .junk]) (fun j => []) (fun j => l.length - j) 0 ⟨by omega, fun u d h => by omega⟩ (by simp only [PWeak_nil, PWeak_junk, PWeak_same, Int.cast_ofNat_Int, List.length_append, List.length_cons, List.length_nil, Nat.zero_add]) rfl ?_
    intro j ⟨hlj, hj⟩ ih2
    refine SemW_go (by kernel_rfl) ?_
    simp only [PP, P1, P2, P3, P4, P5, P6, P7, P8, P9, P10, P11, P12, P13, P14, L1, P15, N1, N2, N3, N4, N5, N6, N7, I1, I2, I3, I4, I5, I6, I7, reduceIte, reduceCtorEq]
    refine QIf.intro (fun d => ?_) (fun d => ?_)
    · have hjl : j < l.length := by omega
      have j0 : (0 : Int) ≤ j := by omega
      have hwj := wrap_succ (k := j) (by show _ < 1000000000000; omega)
      obtain ⟨ck, g⟩ := some_of (xs := l) (k := j) hjl
      have p1 := ckC_sub g
      have p2 : j * 2 + 2 ≤ (ckC l).length := by rw [ckC_len]; omega
      have hm := List.mem_of_getElem? g
      simp only [PP, P1, P2, P3, P4, P5, P6, P7, P8, P9, P10, P11, P12, P13, P14, L1, P15, N1, N2, N3, N4, N5, N6, N7, I1, I2, I3, I4, I5, I6, I7, reduceIte, reduceCtorEq, d, j0, p1, p2]
      refine hf ck hm v hvn _ _ ?_
      simp only [PP, P1, P2, P3, P4, P5, P6, P7, P8, P9, P10, P11, P12, P13, P14, L1, P15, N1, N2, N3, N4, N5, N6, N7, I1, I2, I3, I4, I5, I6, I7, reduceIte, reduceCtorEq]
      cases hp : ck.P v with
      | true =>
        simp only [PP, P1, P2, P3, P4, P5, P6, P7, P8, P9, P10, P11, P12, P13, P14, L1, P15, N1, N2, N3, N4, N5, N6, N7, I1, I2, I3, I4, I5, I6, I7, reduceIte, reduceCtorEq, hwj]
        have hcu : underL 0 ck.cap = true := by
          have h1 : ∀ l : List Ck, underL 0 (ckC l) = true → ∀ c ∈ l, underL 0 c.cap = true := by
            intro l
            induction l with
            | nil => intro _ c hc; cases hc
            | cons x l ih =>
              intro h c hc
              have h : underL 0 ([PV.func (.func x.fn) [] x.cap, p64 x.e] ++ ckC l) = true := h
              rw [underL_append] at h
              simp only [underL_cons, underL_nil, under_func, Bool.and_eq_true] at h
              rcases List.mem_cons.1 hc with rfl | hc
              · exact h.1.1.2
              · exact ih h.2 c hc
          exact h1 l hu ck hm
        refine SemW_re (GStep.drop (b := [.junk, .sl f o 2 l.length (ckC l), .junk, .junk, .junk, p64 v, .junk, .junk, p64 n, p64 v, .junk, .junk, .sl f o 2 l.length (ckC l), p64 l.length, p64 ((j + 1 : Nat) : Int), .junk, .junk, .junk, .junk, .junk, .junk, .junk, .junk, .junk, .junk, .junk, .junk]) 0 (Nat.zero_le _) (by simp) (by simp only [PWeak_nil, PWeak_junk, PWeak_same, Int.cast_ofNat_Int, List.length_append, List.length_cons, List.length_nil, Nat.zero_add]) (by simp only [PP, P1, P2, P3, P4, P5, P6, P7, P8, P9, P10, P11, P12, P13, P14, L1, P15, N1, N2, N3, N4, N5, N6, N7, I1, I2, I3, I4, I5, I6, I7, reduceIte, reduceCtorEq, PV.under, hu]) rfl rfl) ?_
        refine SemW_to (ih2 (j + 1) ⟨hjl, fun i d' hi gi => ?_⟩ (by omega)) (by simp only [PWeak_nil, PWeak_junk, PWeak_same, Int.cast_ofNat_Int, List.length_append, List.length_cons, List.length_nil, Nat.zero_add]) rfl
        by_cases e : i = j
        · subst e; rw [g] at gi; cases gi; exact hp
        · exact hj i d' (by omega) gi
      | false =>
        simp only [PP, P1, P2, P3, P4, P5, P6, P7, P8, P9, P10, P11, P12, P13, P14, L1, P15, N1, N2, N3, N4, N5, N6, N7, I1, I2, I3, I4, I5, I6, I7, reduceIte, reduceCtorEq]
        exact hk1 v j ck hvn hv g hj hp
    · have hjl : j = l.length := by omega
      subst hjl
      simp only [PP, P1, P2, P3, P4, P5, P6, P7, P8, P9, P10, P11, P12, P13, P14, L1, P15, N1, N2, N3, N4, N5, N6, N7, I1, I2, I3, I4, I5, I6, I7, reduceIte, reduceCtorEq, d, hwv]
      refine SemW_weak (ih (v + 1) ⟨hvn, fun u hu' c' hc => ?_⟩ (by omega)) (by simp only [PWeak_nil, PWeak_junk, PWeak_same, Int.cast_ofNat_Int, List.length_append, List.length_cons, List.length_nil, Nat.zero_add])
      by_cases e : u = v
      · subst e
        obtain ⟨i, gi⟩ := List.getElem?_of_mem hc
        exact hj i c' (getSome_lt gi) gi
      · exact hv u (by omega) c' hc
  · have hvn : v = n := by omega
    subst hvn
    simp only [PP, P1, P2, P3, P4, P5, P6, P7, P8, P9, P10, P11, P12, P13, P14, L1, P15, N1, N2, N3, N4, N5, N6, N7, I1, I2, I3, I4, I5, I6, I7, reduceIte, reduceCtorEq, c]
    exact hk0 hv
end
end Go.Am.Ar
set_option linter.unusedVariables false
set_option linter.unusedSimpArgs false
set_option maxRecDepth 10000
namespace Go.Am.Ar
open Go.Am renaming pchk → P1, pold → P2, PKNo → P3, ppack → P4, PObj.under → P5, pput → P6, ptset → P7, ptget → P8, pev → P9, ofAV → P10, ofAV1 → P11, ppad → P12, pfill → P13, prepl → P14, AO.effect → P15
open List renaming replicate → L1
open Nat renaming reduceAdd → N1, reduceSub → N2, reduceMul → N3, reduceLT → N4, reduceLeDiff → N5, reduceEqDiff → N6, reduceBEq → N7
open Int renaming reduceToNat → I1, reduceLT → I2, reduceLE → I3, reduceEq → I4, reduceAdd → I5, reduceSub → I6, reduceNeg → I7
abbrev gC (f1 o1 f2 o2 f3 o3 f4 o4 : Bool) (ow pr : List Int) (su : List (List Int)) : List PV := [slI f1 o1 .u8 ow, slI f2 o2 .i64 pr, slR f3 o3 f4 o4 .i64 su]
def codeAt (ow pr : List Int) (k : Nat) (row : List Int) : Int := if 1 < ow.getD k 0 then 6 else if pr.getD k 0 < 0 then 1 else if 16 < pr.getD k 0 then 1 else if (row.length : Int) = 0 then 13 else if posM ow.length (-1) row = false then 8 else 0
theorem checkLoop_cons (ow pr : List Int) (k : Nat) (row : List Int) (su : List (List Int)) : checkLoop ow pr k (row :: su) = if codeAt ow pr k row = 0 then checkLoop ow pr (k + 1) su else codeAt ow pr k row := by
  show (if _ then _ else _) = _
  unfold codeAt
  split
  · rw [if_neg (by decide)]
  · split
    · rw [if_neg (by decide)]
    · split
      · rw [if_neg (by decide)]
      · split
        · rw [if_neg (by decide)]
        · split
          · rw [if_neg (by decide)]
          · rw [if_pos rfl]
theorem checkLoop_zero {ow pr : List Int} : ∀ {su : List (List Int)} {k : Nat}, (∀ (i : Nat) (row : List Int), su[i]? = some row → codeAt ow pr (k + i) row = 0) → checkLoop ow pr k su = 0
  | [], k, _ => rfl
  | r :: su, k, h => by
    rw [checkLoop_cons, if_pos (show codeAt ow pr k r = 0 from h 0 r rfl)]
    exact checkLoop_zero fun i row hi => by
      have := h (i + 1) row (by simpa using hi)
      rwa [show k + (i + 1) = k + 1 + i by omega] at this
theorem checkLoop_at {ow pr : List Int} : ∀ {su : List (List Int)} {k j : Nat} {r : List Int}, (∀ (i : Nat) (row : List Int), i < j → su[i]? = some row → codeAt ow pr (k + i) row = 0) → su[j]? = some r → codeAt ow pr (k + j) r ≠ 0 → checkLoop ow pr k su = codeAt ow pr (k + j) r
  | [], k, j, r, _, h, _ => by simp at h
  | x :: su, k, 0, r, _, h, hn => by
    simp at h; subst h
    rw [checkLoop_cons, if_neg (show ¬ codeAt ow pr k x = 0 from hn)]; rfl
  | x :: su, k, j + 1, r, h, hr, hn => by
    rw [checkLoop_cons, if_pos (show codeAt ow pr k x = 0 from h 0 x (by omega) rfl)]
    rw [show k + (j + 1) = k + 1 + j by omega] at hn ⊢
    exact checkLoop_at (fun i row hi hrow => by
      have := h (i + 1) row (by omega) (by simpa using hrow)
      rwa [show k + (i + 1) = k + 1 + i by omega] at this) (by simpa using hr) hn
section
variable {tab : FuncId → Option AF} (T : HasA tab)
include T
theorem inc_p {M : Mem} {K : PV → Mem → Prop} {f1 o1 f2 o2 f3 o3 f4 o4 : Bool} {ow pr row : List Int} {su : List (List Int)} {v n : Nat} (g : su[v]? = some row) (hr : row.length < big) (hk : K (.bool (posM n (-1) row)) M) :
    SemC tab 41 [p64 v, .cp (gC f1 o1 f2 o2 f3 o3 f4 o4 ow pr su) 0, .cp [p64 n] 0] M K := by
  have v0 : (0 : Int) ≤ v := by omega
  have vn : (v : Int) < su.length := by have := getSome_lt g; omega
  have hrl : row.length < 1000000000000 := hr
  refine SemC_pure T.h41 (by simp only [PP, P1, P2, P3, P4, P5, P6, P7, P8, P9, P10, P11, P12, P13, P14, L1, P15, N1, N2, N3, N4, N5, N6, N7, I1, I2, I3, I4, I5, I6, I7, reduceIte, reduceCtorEq, PV.under]) ?_
  simp only [af41, PP, P1, P2, P3, P4, P5, P6, P7, P8, P9, P10, P11, P12, P13, P14, L1, P15, N1, N2, N3, N4, N5, N6, N7, I1, I2, I3, I4, I5, I6, I7, reduceIte, reduceCtorEq, v0, vn, g]
  refine loop2 (fun (k : Nat) (last : Int) => k ≤ row.length ∧ posM n last (row.drop k) = posM n (-1) row) (fun k last => [.junk, .junk, .cp [p64 n] 0, .junk, .junk, p64 last, .junk, .junk, .junk, .junk, .junk, .junk, slI f4 o4 .i64 row, p64 row.length, p64 k, .junk, .junk, .junk, .junk, .junk, .junk, .junk, .junk, .junk, .junk, .junk, .junk, .junk]) (fun k _ => []) (fun k _ => row.length - k) 0 (-1) ⟨by omega, by simp⟩ (by simp only [PWeak_nil, PWeak_junk, PWeak_same, Int.cast_ofNat_Int, List.length_append, List.length_cons, List.length_nil, Nat.zero_add]) rfl ?_
  intro k last ⟨hle, hq⟩ ih
  refine SemW_go (by kernel_rfl) ?_
  simp only [PP, P1, P2, P3, P4, P5, P6, P7, P8, P9, P10, P11, P12, P13, P14, L1, P15, N1, N2, N3, N4, N5, N6, N7, I1, I2, I3, I4, I5, I6, I7, reduceIte, reduceCtorEq]
  refine QIf.intro (fun c => ?_) (fun c => ?_)
  · have hk' : k < row.length := by omega
    have k0 : (0 : Int) ≤ k := by omega
    have hwk := wrap_succ (k := k) (by show _ < 1000000000000; omega)
    obtain ⟨x, gx⟩ := some_of (xs := row) (k := k) hk'
    rw [drop_some gx] at hq
    rw [show posM n last (x :: row.drop (k + 1)) = if x ≤ last then false else if (n : Int) ≤ x then false else posM n x (row.drop (k + 1)) from rfl] at hq
    simp only [PP, P1, P2, P3, P4, P5, P6, P7, P8, P9, P10, P11, P12, P13, P14, L1, P15, N1, N2, N3, N4, N5, N6, N7, I1, I2, I3, I4, I5, I6, I7, reduceIte, reduceCtorEq, c, k0, gx]
    refine QIf.intro (fun d => ?_) (fun d => ?_)
    · rw [if_pos d] at hq
      simp only [PP, P1, P2, P3, P4, P5, P6, P7, P8, P9, P10, P11, P12, P13, P14, L1, P15, N1, N2, N3, N4, N5, N6, N7, I1, I2, I3, I4, I5, I6, I7, reduceIte, reduceCtorEq, d]
      rw [hq]; exact hk
    · rw [if_neg d] at hq
      simp only [PP, P1, P2, P3, P4, P5, P6, P7, P8, P9, P10, P11, P12, P13, P14, L1, P15, N1, N2, N3, N4, N5, N6, N7, I1, I2, I3, I4, I5, I6, I7, reduceIte, reduceCtorEq, d]
      refine QIf.intro (fun e => ?_) (fun e => ?_)
      · rw [if_pos e] at hq
        simp only [PP, P1, P2, P3, P4, P5, P6, P7, P8, P9, P10, P11, P12, P13, P14, L1, P15, N1, N2, N3, N4, N5, N6, N7, I1, I2, I3, I4, I5, I6, I7, reduceIte, reduceCtorEq, e]
        rw [hq]; exact hk
      · rw [if_neg e] at hq
        simp only [PP, P1, P2, P3, P4, P5, P6, P7, P8, P9, P10, P11, P12, P13, P14, L1, P15, N1, N2, N3, N4, N5, N6, N7, I1, I2, I3, I4, I5, I6, I7, reduceIte, reduceCtorEq, e, hwk]
        exact SemW_weak (ih (k + 1) x ⟨hk', hq⟩ (by omega)) (by simp only [PWeak_nil, PWeak_junk, PWeak_same, Int.cast_ofNat_Int, List.length_append, List.length_cons, List.length_nil, Nat.zero_add])
  · have hkn : k = row.length := by omega
    subst hkn
    rw [List.drop_of_length_le (Nat.le_refl _)] at hq
    simp only [PP, P1, P2, P3, P4, P5, P6, P7, P8, P9, P10, P11, P12, P13, P14, L1, P15, N1, N2, N3, N4, N5, N6, N7, I1, I2, I3, I4, I5, I6, I7, reduceIte, reduceCtorEq, c]
    rw [← hq] at hk; exact hk
set_option maxHeartbeats 1000000 in
theorem valid33_p {M : Mem} {K : PV → Mem → Prop} {f1 o1 f2 o2 f3 o3 f4 o4 : Bool} {ow pr : List Int} {su : List (List Int)} (B : Bnd ow pr su) (hk : K (p64 (checkM ow pr su)) M) :
    SemC tab 20 [gmP f1 o1 f2 o2 f3 o3 f4 o4 ow pr su] M K := by
  refine SemC_pureS T.h20 (by simp only [PP, P1, P2, P3, P4, P5, P6, P7, P8, P9, P10, P11, P12, P13, P14, L1, P15, N1, N2, N3, N4, N5, N6, N7, I1, I2, I3, I4, I5, I6, I7, reduceIte, reduceCtorEq, PV.under]) ?_
  simp only [af20]
  refine SemW_seq (SemW_of ?_)
  simp only [PP, P1, P2, P3, P4, P5, P6, P7, P8, P9, P10, P11, P12, P13, P14, L1, P15, N1, N2, N3, N4, N5, N6, N7, I1, I2, I3, I4, I5, I6, I7, reduceIte, reduceCtorEq]
  refine SemW_seq (SemW_of ?_)
  simp only [PP, P1, P2, P3, P4, P5, P6, P7, P8, P9, P10, P11, P12, P13, P14, L1, P15, N1, N2, N3, N4, N5, N6, N7, I1, I2, I3, I4, I5, I6, I7, reduceIte, reduceCtorEq]
  refine SemW_re (GStep.freezeP (b := [.junk, .cp (gC f1 o1 f2 o2 f3 o3 f4 o4 ow pr su) 0, p64 0, .ptr 1 0 0, .junk, .junk, .junk, .junk, .junk, .junk, .junk, .junk, .junk, .junk, .junk, .junk, .junk, .junk, .junk, .junk, .junk, .junk, .junk, .junk, .junk, .junk, .junk, .junk, .junk, .junk, .junk, .junk, .junk, .junk, .junk, .junk, .junk, .junk, .junk]) 0 (Nat.zero_le _) rfl (by simp only [PFrzP_nil, PFrzP_junk, PFrzP_same, PFrzP_ptr]) rfl) ?_
  refine SemW_re (GStep.freezeP (b := [.junk, .cp (gC f1 o1 f2 o2 f3 o3 f4 o4 ow pr su) 0, p64 0, .cp [p64 ow.length] 0, .junk, .junk, .junk, .junk, .junk, .junk, .junk, .junk, .junk, .junk, .junk, .junk, .junk, .junk, .junk, .junk, .junk, .junk, .junk, .junk, .junk, .junk, .junk, .junk, .junk, .junk, .junk, .junk, .junk, .junk, .junk, .junk, .junk, .junk, .junk]) 1 (Nat.zero_le _) rfl (by simp only [PFrzP_nil, PFrzP_junk, PFrzP_same, PFrzP_ptr]) rfl) ?_
  refine SemW_of ?_
  simp only [PP, P1, P2, P3, P4, P5, P6, P7, P8, P9, P10, P11, P12, P13, P14, L1, P15, N1, N2, N3, N4, N5, N6, N7, I1, I2, I3, I4, I5, I6, I7, reduceIte, reduceCtorEq]
  unfold checkM at hk
  refine QIf.intro (fun c1 => ?_) (fun c1 => ?_)
  · rw [if_pos c1] at hk
    simp only [PP, P1, P2, P3, P4, P5, P6, P7, P8, P9, P10, P11, P12, P13, P14, L1, P15, N1, N2, N3, N4, N5, N6, N7, I1, I2, I3, I4, I5, I6, I7, reduceIte, reduceCtorEq, c1]
    exact hk
  rw [if_neg c1] at hk
  simp only [PP, P1, P2, P3, P4, P5, P6, P7, P8, P9, P10, P11, P12, P13, P14, L1, P15, N1, N2, N3, N4, N5, N6, N7, I1, I2, I3, I4, I5, I6, I7, reduceIte, reduceCtorEq, c1]
  refine QIf.intro (fun c2 => ?_) (fun c2 => ?_)
  · rw [if_pos c2] at hk
    simp only [PP, P1, P2, P3, P4, P5, P6, P7, P8, P9, P10, P11, P12, P13, P14, L1, P15, N1, N2, N3, N4, N5, N6, N7, I1, I2, I3, I4, I5, I6, I7, reduceIte, reduceCtorEq, c2]
    exact hk
  rw [if_neg c2] at hk
  simp only [PP, P1, P2, P3, P4, P5, P6, P7, P8, P9, P10, P11, P12, P13, P14, L1, P15, N1, N2, N3, N4, N5, N6, N7, I1, I2, I3, I4, I5, I6, I7, reduceIte, reduceCtorEq, c2]
  refine QIf.intro (fun c3 => ?_) (fun c3 => ?_)
  rotate_left
  · rw [if_neg c3] at hk
    simp only [PP, P1, P2, P3, P4, P5, P6, P7, P8, P9, P10, P11, P12, P13, P14, L1, P15, N1, N2, N3, N4, N5, N6, N7, I1, I2, I3, I4, I5, I6, I7, reduceIte, reduceCtorEq, c3]
    exact hk
  rw [if_pos c3] at hk
  simp only [PP, P1, P2, P3, P4, P5, P6, P7, P8, P9, P10, P11, P12, P13, P14, L1, P15, N1, N2, N3, N4, N5, N6, N7, I1, I2, I3, I4, I5, I6, I7, reduceIte, reduceCtorEq, c3]
  refine QIf.intro (fun c4 => ?_) (fun c4 => ?_)
  rotate_left
  · rw [if_neg c4] at hk
    simp only [PP, P1, P2, P3, P4, P5, P6, P7, P8, P9, P10, P11, P12, P13, P14, L1, P15, N1, N2, N3, N4, N5, N6, N7, I1, I2, I3, I4, I5, I6, I7, reduceIte, reduceCtorEq, c4]
    exact hk
  rw [if_pos c4] at hk
  have n1 : ow.length ≤ 4096 := by omega
  have hp : pr.length = ow.length := by omega
  have hs : su.length = ow.length := by omega
  simp only [PP, P1, P2, P3, P4, P5, P6, P7, P8, P9, P10, P11, P12, P13, P14, L1, P15, N1, N2, N3, N4, N5, N6, N7, I1, I2, I3, I4, I5, I6, I7, reduceIte, reduceCtorEq, c4]
  let l : List Ck := [⟨43, [.cp (gC f1 o1 f2 o2 f3 o3 f4 o4 ow pr su) 0], 6, fun v => decide (ow.getD v 0 ≤ 1)⟩, ⟨44, [.cp (gC f1 o1 f2 o2 f3 o3 f4 o4 ow pr su) 0], 1, fun v => decide (0 ≤ pr.getD v 0 ∧ pr.getD v 0 ≤ 16)⟩,
    ⟨45, [.cp (gC f1 o1 f2 o2 f3 o3 f4 o4 ow pr su) 0], 13, fun v => decide (0 < ((su.getD v []).length : Int))⟩, ⟨41, [.cp (gC f1 o1 f2 o2 f3 o3 f4 o4 ow pr su) 0, .cp [p64 ow.length] 0], 8, fun v => posM ow.length (-1) (su.getD v [])⟩]
  have code : ∀ (v : Nat) (row : List Int), su[v]? = some row → su.getD v [] = row := fun v row h => by simp [List.getD, h]
  have cz : ∀ (v : Nat) (row : List Int), su[v]? = some row → (∀ c ∈ l, c.P v = true) → codeAt ow pr v row = 0 := fun v row hrow h => by
    have h1 := of_decide_eq_true (h ⟨43, _, 6, _⟩ (List.mem_cons_self ..))
    have h2 := of_decide_eq_true (h ⟨44, _, 1, _⟩ (List.mem_cons_of_mem _ (List.mem_cons_self ..)))
    have h3 := of_decide_eq_true (h ⟨45, _, 13, _⟩ (List.mem_cons_of_mem _ (List.mem_cons_of_mem _ (List.mem_cons_self ..))))
    have h4 := h ⟨41, _, 8, _⟩ (List.mem_cons_of_mem _ (List.mem_cons_of_mem _ (List.mem_cons_of_mem _ (List.mem_cons_self ..))))
    simp only [code v row hrow] at h3 h4
    unfold codeAt
    rw [if_neg (by omega), if_neg (by omega), if_neg (by omega), if_neg (by omega), if_neg (by rw [h4]; decide)]
  refine all_p T (l := l) (by omega) (by show 4 < _; omega) (by show underL 0 (ckC l) = true; simp only [l, ckC, List.flatMap_cons, List.flatMap_nil, List.append_nil, List.cons_append, List.nil_append, PP, P1, P2, P3, P4, P5, P6, P7, P8, P9, P10, P11, P12, P13, P14, L1, P15, N1, N2, N3, N4, N5, N6, N7, I1, I2, I3, I4, I5, I6, I7, reduceIte, reduceCtorEq, PV.under]) (fun c hc v hv M' K' hK' => ?_) (fun h => ?_) (fun v j c hv hb hj hi hP => ?_)
  · obtain ⟨row, g⟩ := some_of (xs := su) (k := v) (by omega)
    obtain ⟨o, g1⟩ := some_of (xs := ow) (k := v) (by omega)
    obtain ⟨p, g2⟩ := some_of (xs := pr) (k := v) (by omega)
    have v0 : (0 : Int) ≤ v := by omega
    have vn : (v : Int) < ow.length := by omega
    have eo : ow.getD v 0 = o := getD_some g1
    have ep : pr.getD v 0 = p := getD_some g2
    simp only [l, List.mem_cons, List.not_mem_nil, or_false] at hc
    rcases hc with rfl | rfl | rfl | rfl
    · refine SemC_pure T.h43 (by simp only [PP, P1, P2, P3, P4, P5, P6, P7, P8, P9, P10, P11, P12, P13, P14, L1, P15, N1, N2, N3, N4, N5, N6, N7, I1, I2, I3, I4, I5, I6, I7, reduceIte, reduceCtorEq, PV.under]) ?_
      simp only [af43, PP, P1, P2, P3, P4, P5, P6, P7, P8, P9, P10, P11, P12, P13, P14, L1, P15, N1, N2, N3, N4, N5, N6, N7, I1, I2, I3, I4, I5, I6, I7, reduceIte, reduceCtorEq, v0, vn, g1]
      rw [← eo]; exact hK'
    · refine SemC_pure T.h44 (by simp only [PP, P1, P2, P3, P4, P5, P6, P7, P8, P9, P10, P11, P12, P13, P14, L1, P15, N1, N2, N3, N4, N5, N6, N7, I1, I2, I3, I4, I5, I6, I7, reduceIte, reduceCtorEq, PV.under]) ?_
      simp only [af44, PP, P1, P2, P3, P4, P5, P6, P7, P8, P9, P10, P11, P12, P13, P14, L1, P15, N1, N2, N3, N4, N5, N6, N7, I1, I2, I3, I4, I5, I6, I7, reduceIte, reduceCtorEq, v0, vn, hp, g2]
      have hK' : K' (.bool (decide (0 ≤ pr.getD v 0 ∧ pr.getD v 0 ≤ 16))) M' := hK'
      rw [ep] at hK'
      refine QIf.intro (fun d => ?_) (fun d => ?_)
      · simp only [PP, P1, P2, P3, P4, P5, P6, P7, P8, P9, P10, P11, P12, P13, P14, L1, P15, N1, N2, N3, N4, N5, N6, N7, I1, I2, I3, I4, I5, I6, I7, reduceIte, reduceCtorEq, d, v0, vn, hp, g2]
        rw [decide_eq_decide.2 (show (0 ≤ p ∧ p ≤ 16) ↔ p ≤ 16 from ⟨fun q => q.2, fun q => ⟨d, q⟩⟩)] at hK'
        exact hK'
      · simp only [PP, P1, P2, P3, P4, P5, P6, P7, P8, P9, P10, P11, P12, P13, P14, L1, P15, N1, N2, N3, N4, N5, N6, N7, I1, I2, I3, I4, I5, I6, I7, reduceIte, reduceCtorEq, d]
        rw [decide_eq_false (fun q => d q.1)] at hK'
        exact hK'
    · refine SemC_pure T.h45 (by simp only [PP, P1, P2, P3, P4, P5, P6, P7, P8, P9, P10, P11, P12, P13, P14, L1, P15, N1, N2, N3, N4, N5, N6, N7, I1, I2, I3, I4, I5, I6, I7, reduceIte, reduceCtorEq, PV.under]) ?_
      simp only [af45, PP, P1, P2, P3, P4, P5, P6, P7, P8, P9, P10, P11, P12, P13, P14, L1, P15, N1, N2, N3, N4, N5, N6, N7, I1, I2, I3, I4, I5, I6, I7, reduceIte, reduceCtorEq, v0, vn, hs, g]
      have hK' : K' (.bool (decide (0 < ((su.getD v []).length : Int)))) M' := hK'
      rw [code v row g] at hK'
      exact hK'
    · have hK' : K' (.bool (posM ow.length (-1) (su.getD v []))) M' := hK'
      rw [code v row g] at hK'
      exact inc_p T g (B.r row (List.mem_of_getElem? g)) hK'
  · rw [checkLoop_zero fun i row hi => by
      have := getSome_lt hi
      rw [Nat.zero_add]
      exact cz i row hi (h i (by omega))] at hk
    simp only [PP, P1, P2, P3, P4, P5, P6, P7, P8, P9, P10, P11, P12, P13, P14, L1, P15, N1, N2, N3, N4, N5, N6, N7, I1, I2, I3, I4, I5, I6, I7, reduceIte, reduceCtorEq]
    exact hk
  · obtain ⟨row, g⟩ := some_of (xs := su) (k := v) (by omega)
    have hcode : codeAt ow pr v row = c.e ∧ c.e ≠ 0 := by
      have er := code v row g
      match j, hj with
      | 0, hj =>
        cases hj
        have h1 := of_decide_eq_false hP
        unfold codeAt
        rw [if_pos (by omega)]
        exact ⟨rfl, fun q => by cases q⟩
      | 1, hj =>
        cases hj
        have h1 := of_decide_eq_true (hi 0 _ (by omega) rfl)
        have h2 := of_decide_eq_false hP
        unfold codeAt
        rw [if_neg (by omega)]
        refine ⟨?_, fun q => by cases q⟩
        split
        · rfl
        · rw [if_pos (by omega)]
      | 2, hj =>
        cases hj
        have h1 := of_decide_eq_true (hi 0 _ (by omega) rfl)
        have h2 := of_decide_eq_true (hi 1 _ (by omega) rfl)
        have h3 := of_decide_eq_false hP
        simp only [er] at h3
        unfold codeAt
        rw [if_neg (by omega), if_neg (by omega), if_neg (by omega), if_pos (by omega)]
        exact ⟨rfl, fun q => by cases q⟩
      | 3, hj =>
        cases hj
        have h1 := of_decide_eq_true (hi 0 _ (by omega) rfl)
        have h2 := of_decide_eq_true (hi 1 _ (by omega) rfl)
        have h3 := of_decide_eq_true (hi 2 _ (by omega) rfl)
        have h4 : posM ow.length (-1) (su.getD v []) = false := hP
        simp only [er] at h3 h4
        unfold codeAt
        rw [if_neg (by omega), if_neg (by omega), if_neg (by omega), if_neg (by omega), if_pos h4]
        exact ⟨rfl, fun q => by cases q⟩
      | j + 4, hj => simp [l] at hj
    rw [checkLoop_at (j := v) (fun i row hi' hr => by rw [Nat.zero_add]; exact cz i row hr (hb i hi')) g (by rw [Nat.zero_add, hcode.1]; exact hcode.2), Nat.zero_add, hcode.1] at hk
    simp only [PP, P1, P2, P3, P4, P5, P6, P7, P8, P9, P10, P11, P12, P13, P14, L1, P15, N1, N2, N3, N4, N5, N6, N7, I1, I2, I3, I4, I5, I6, I7, reduceIte, reduceCtorEq]
    exact hk
end
end Go.Am.Ar

