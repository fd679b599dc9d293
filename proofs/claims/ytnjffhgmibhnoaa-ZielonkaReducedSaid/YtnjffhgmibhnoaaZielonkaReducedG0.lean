/- Sets of numbers as maps to true: find and put, and what goes with it. -/
import Derived.Test.YtnjffhgmibhnoaaPmC
import Derived.Test.YtnjffhgmibhnoaaZielonkaReducedCode
import Derived.Test.YtnjffhgmibhnoaaPmR
set_option linter.unusedVariables false
set_option linter.unusedSimpArgs false
namespace Go.Am.Ar
def mpB (l : List Nat) : List (PV × PV) := l.map fun (v : Nat) => (PV.int .i64 (v : Int), PV.bool true)
theorem mpB_find (k : Nat) : ∀ l : List Nat, pmapFind 0 (.int .i64 (k : Int)) (mpB l) = some (if k ∈ l then some (PV.bool true) else none)
  | [] => rfl
  | p :: l => by
    show (match (if IntKind.i64 = IntKind.i64 then some ((k : Int) == (p : Int)) else none) with | some true => some (some _) | some false => pmapFind 0 (.int .i64 (k : Int)) (mpB l) | none => none) = _
    rw [if_pos rfl]
    by_cases e : k = p
    · subst e; simp
    · rw [show ((k : Int) == (p : Int)) = false by simp; omega]
      simp only [mpB_find k l, List.mem_cons, e, false_or]
theorem mpB_put (k : Nat) : ∀ l : List Nat, pmapPut 0 (.int .i64 (k : Int)) (.int .i64 (k : Int)) (.bool true) (mpB l) = mpB (if k ∈ l then l else l ++ [k])
  | [] => rfl
  | p :: l => by
    show (match (if IntKind.i64 = IntKind.i64 then some ((k : Int) == (p : Int)) else none) with | some true => _ | _ => _ :: pmapPut 0 (.int .i64 (k : Int)) (.int .i64 (k : Int)) (.bool true) (mpB l)) = _
    rw [if_pos rfl]
    by_cases e : k = p
    · subst e; simp [mpB]
    · rw [show ((k : Int) == (p : Int)) = false by simp; omega, mpB_put k l]
      by_cases q : k ∈ l
      · simp [mpB, q]
      · simp [mpB, q, e]
end Go.Am.Ar
set_option linter.unusedVariables false
set_option linter.unusedSimpArgs false
set_option maxRecDepth 10000
namespace Go.Am.Ar
open Go.Am renaming pchk → P1, pold → P2, PKNo → P3, ppack → P4, PObj.under → P5, pput → P6, ptset → P7, ptget → P8, pev → P9, ofAV → P10, ofAV1 → P11, ppad → P12, pfill → P13, prepl → P14, AO.effect → P15
open List renaming replicate → L1
open Nat renaming reduceAdd → N1, reduceSub → N2, reduceMul → N3, reduceLT → N4, reduceLeDiff → N5, reduceEqDiff → N6, reduceBEq → N7
open Int renaming reduceToNat → I1, reduceLT → I2, reduceLE → I3, reduceEq → I4, reduceAdd → I5, reduceSub → I6, reduceNeg → I7
abbrev big : Nat := 1000000000000
theorem wrap_succ {k : Nat} (h : k < big) : IntKind.i64.wrap ((k : Int) + 1) = ((k + 1 : Nat) : Int) := by
  have h : k < 1000000000000 := h
  rw [wrap64 (by omega) (by omega)]; omega
theorem drop_get' {α : Type} {xs : List α} {k : Nat} (h : k < xs.length) : xs.drop k = xs[k] :: xs.drop (k + 1) := List.drop_eq_getElem_cons h
theorem some_of {α : Type} {xs : List α} {k : Nat} (h : k < xs.length) : ∃ x, xs[k]? = some x := ⟨xs[k], List.getElem?_eq_getElem h⟩
theorem drop_some {α : Type} {xs : List α} {k : Nat} {x : α} (h : xs[k]? = some x) : xs.drop k = x :: xs.drop (k + 1) := by
  have hk := getSome_lt h
  rw [List.drop_eq_getElem_cons hk]
  rw [List.getElem?_eq_getElem hk] at h
  cases h; rfl
theorem take_some {α : Type} {xs : List α} {k : Nat} {x : α} (h : xs[k]? = some x) : xs.take (k + 1) = xs.take k ++ [x] := by simp [List.take_add_one, h]
theorem getD_some {xs : List Int} {k : Nat} {x : Int} (h : xs[k]? = some x) : xs.getD k 0 = x := by simp [List.getD, h]
def posM (n : Int) : Int → List Int → Bool
  | _, [] => true
  | last, v :: l => if v ≤ last then false else if n ≤ v then false else posM n v l
section
variable {tab : FuncId → Option AF} (T : HasA tab)
include T
theorem positions_p {M : Mem} {K : PV → Mem → Prop} {f o : Bool} {xs : List Int} {n : Int} (hm : xs.length < big) (hk : K (.bool (posM n (-1) xs)) M) :
    SemC tab 27 [slI f o .i64 xs, p64 n] M K := by
  refine SemC_pure T.h27 (by simp only [PP, P1, P2, P3, P4, P5, P6, P7, P8, P9, P10, P11, P12, P13, P14, L1, P15, N1, N2, N3, N4, N5, N6, N7, I1, I2, I3, I4, I5, I6, I7, reduceIte, reduceCtorEq]) ?_
  simp only [af27, PP, P1, P2, P3, P4, P5, P6, P7, P8, P9, P10, P11, P12, P13, P14, L1, P15, N1, N2, N3, N4, N5, N6, N7, I1, I2, I3, I4, I5, I6, I7, reduceIte, reduceCtorEq]
  refine loop2 (fun (k : Nat) (last : Int) => k ≤ xs.length ∧ K (.bool (posM n last (xs.drop k))) M) (fun k last => [.junk, p64 n, .junk, .junk, .junk, p64 last, .junk, .junk, slI f o .i64 xs, p64 xs.length, p64 k, .junk, .junk, .junk, .junk, .junk, .junk, .junk, .junk, .junk, .junk, .junk, .junk, .junk]) (fun _ _ => []) (fun k _ => xs.length - k) 0 (-1) ⟨by omega, hk⟩ (by simp only [PWeak_nil, PWeak_junk, PWeak_same, Int.cast_ofNat_Int, List.length_append, List.length_cons, List.length_nil, Nat.zero_add]) rfl ?_
  intro k last ⟨hk, hq⟩ ih
  refine SemW_go (by kernel_rfl) ?_
  simp only [PP, P1, P2, P3, P4, P5, P6, P7, P8, P9, P10, P11, P12, P13, P14, L1, P15, N1, N2, N3, N4, N5, N6, N7, I1, I2, I3, I4, I5, I6, I7, reduceIte, reduceCtorEq]
  refine QIf.intro (fun c => ?_) (fun c => ?_)
  · have hk' : k < xs.length := by omega
    rw [drop_get' hk'] at hq
    have hw := wrap_succ (k := k) (by omega)
    have hg : xs[k]? = some xs[k] := List.getElem?_eq_getElem hk'
    have h0 : (0 : Int) ≤ k := by omega
    simp only [PP, P1, P2, P3, P4, P5, P6, P7, P8, P9, P10, P11, P12, P13, P14, L1, P15, N1, N2, N3, N4, N5, N6, N7, I1, I2, I3, I4, I5, I6, I7, reduceIte, reduceCtorEq, posM, c, hg, hw, h0] at hq ⊢
    refine QIf.intro (fun h1 => ?_) (fun h1 => ?_)
    · simp only [PP, P1, P2, P3, P4, P5, P6, P7, P8, P9, P10, P11, P12, P13, P14, L1, P15, N1, N2, N3, N4, N5, N6, N7, I1, I2, I3, I4, I5, I6, I7, reduceIte, reduceCtorEq, h1] at hq ⊢
      exact hq
    · simp only [PP, P1, P2, P3, P4, P5, P6, P7, P8, P9, P10, P11, P12, P13, P14, L1, P15, N1, N2, N3, N4, N5, N6, N7, I1, I2, I3, I4, I5, I6, I7, reduceIte, reduceCtorEq, h1] at hq ⊢
      refine QIf.intro (fun h2 => ?_) (fun h2 => ?_)
      · simp only [PP, P1, P2, P3, P4, P5, P6, P7, P8, P9, P10, P11, P12, P13, P14, L1, P15, N1, N2, N3, N4, N5, N6, N7, I1, I2, I3, I4, I5, I6, I7, reduceIte, reduceCtorEq, h2] at hq ⊢
        exact hq
      · simp only [PP, P1, P2, P3, P4, P5, P6, P7, P8, P9, P10, P11, P12, P13, P14, L1, P15, N1, N2, N3, N4, N5, N6, N7, I1, I2, I3, I4, I5, I6, I7, reduceIte, reduceCtorEq, h2, hw] at hq ⊢
        exact SemW_weak (ih (k + 1) _ ⟨by omega, hq⟩ (by omega)) (by simp only [PWeak_nil, PWeak_junk, PWeak_same, Int.cast_ofNat_Int, List.length_append, List.length_cons, List.length_nil, Nat.zero_add])
  · simp only [PP, P1, P2, P3, P4, P5, P6, P7, P8, P9, P10, P11, P12, P13, P14, L1, P15, N1, N2, N3, N4, N5, N6, N7, I1, I2, I3, I4, I5, I6, I7, reduceIte, reduceCtorEq, c]
    rw [List.drop_eq_nil_of_le (by omega)] at hq
    exact hq
abbrev gmP (f1 o1 f2 o2 f3 o3 f4 o4 : Bool) (ow pr : List Int) (su : List (List Int)) : PV := .agg [slI f1 o1 .u8 ow, slI f2 o2 .i64 pr, slR f3 o3 f4 o4 .i64 su]
structure Bnd (ow pr : List Int) (su : List (List Int)) : Prop where
  o : ow.length < big
  p : pr.length < big
  s : su.length < big
  r : ∀ row ∈ su, row.length < big
def checkLoop (ow pr : List Int) : Nat → List (List Int) → Int
  | _, [] => 0
  | k, row :: rest => if 1 < ow.getD k 0 then 6 else if pr.getD k 0 < 0 then 1 else if 16 < pr.getD k 0 then 1 else if (row.length : Int) = 0 then 13 else if posM ow.length (-1) row = false then 8 else checkLoop ow pr (k + 1) rest
def checkM (ow pr : List Int) (su : List (List Int)) : Int :=
  if (ow.length : Int) = 0 then 3 else if 4096 < (ow.length : Int) then 10 else if (pr.length : Int) = ow.length then (if (su.length : Int) = ow.length then checkLoop ow pr 0 su else 2) else 2
omit T in
theorem checkM_len {ow pr : List Int} {su : List (List Int)} (h : checkM ow pr su = 0) : 0 < ow.length ∧ ow.length ≤ 4096 ∧ pr.length = ow.length ∧ su.length = ow.length ∧ checkLoop ow pr 0 su = 0 := by
  unfold checkM at h
  split at h
  · simp at h
  · split at h
    · simp at h
    · split at h
      · split at h
        · exact ⟨by omega, by omega, by omega, by omega, h⟩
        · simp at h
      · simp at h
theorem check_p {M : Mem} {K : PV → Mem → Prop} {f1 o1 f2 o2 f3 o3 f4 o4 : Bool} {ow pr : List Int} {su : List (List Int)} (B : Bnd ow pr su) (hq : K (p64 (checkM ow pr su)) M) :
    SemC tab 14 [gmP f1 o1 f2 o2 f3 o3 f4 o4 ow pr su] M K := by
  refine SemC_pure T.h14 (by simp only [PP, P1, P2, P3, P4, P5, P6, P7, P8, P9, P10, P11, P12, P13, P14, L1, P15, N1, N2, N3, N4, N5, N6, N7, I1, I2, I3, I4, I5, I6, I7, reduceIte, reduceCtorEq]) ?_
  simp only [af14, PP, P1, P2, P3, P4, P5, P6, P7, P8, P9, P10, P11, P12, P13, P14, L1, P15, N1, N2, N3, N4, N5, N6, N7, I1, I2, I3, I4, I5, I6, I7, reduceIte, reduceCtorEq, checkM] at hq ⊢
  refine QIf.intro (fun c1 => ?_) (fun c1 => ?_)
  · simp only [PP, P1, P2, P3, P4, P5, P6, P7, P8, P9, P10, P11, P12, P13, P14, L1, P15, N1, N2, N3, N4, N5, N6, N7, I1, I2, I3, I4, I5, I6, I7, reduceIte, reduceCtorEq, c1] at hq ⊢
    exact hq
  simp only [PP, P1, P2, P3, P4, P5, P6, P7, P8, P9, P10, P11, P12, P13, P14, L1, P15, N1, N2, N3, N4, N5, N6, N7, I1, I2, I3, I4, I5, I6, I7, reduceIte, reduceCtorEq, c1] at hq ⊢
  refine QIf.intro (fun c2 => ?_) (fun c2 => ?_)
  · simp only [PP, P1, P2, P3, P4, P5, P6, P7, P8, P9, P10, P11, P12, P13, P14, L1, P15, N1, N2, N3, N4, N5, N6, N7, I1, I2, I3, I4, I5, I6, I7, reduceIte, reduceCtorEq, c2] at hq ⊢
    exact hq
  simp only [PP, P1, P2, P3, P4, P5, P6, P7, P8, P9, P10, P11, P12, P13, P14, L1, P15, N1, N2, N3, N4, N5, N6, N7, I1, I2, I3, I4, I5, I6, I7, reduceIte, reduceCtorEq, c2] at hq ⊢
  refine QIf.intro (fun c3 => ?_) (fun c3 => ?_)
  rotate_left
  · simp only [PP, P1, P2, P3, P4, P5, P6, P7, P8, P9, P10, P11, P12, P13, P14, L1, P15, N1, N2, N3, N4, N5, N6, N7, I1, I2, I3, I4, I5, I6, I7, reduceIte, reduceCtorEq, c3] at hq ⊢
    exact hq
  simp only [PP, P1, P2, P3, P4, P5, P6, P7, P8, P9, P10, P11, P12, P13, P14, L1, P15, N1, N2, N3, N4, N5, N6, N7, I1, I2, I3, I4, I5, I6, I7, reduceIte, reduceCtorEq, c3] at hq ⊢
  refine QIf.intro (fun c4 => ?_) (fun c4 => ?_)
  rotate_left
  · simp only [PP, P1, P2, P3, P4, P5, P6, P7, P8, P9, P10, P11, P12, P13, P14, L1, P15, N1, N2, N3, N4, N5, N6, N7, I1, I2, I3, I4, I5, I6, I7, reduceIte, reduceCtorEq, c4] at hq ⊢
    exact hq
  simp only [PP, P1, P2, P3, P4, P5, P6, P7, P8, P9, P10, P11, P12, P13, P14, L1, P15, N1, N2, N3, N4, N5, N6, N7, I1, I2, I3, I4, I5, I6, I7, reduceIte, reduceCtorEq, c4] at hq ⊢
  have d4 : su.length = ow.length := by omega
  refine loop1 (fun (k : Nat) => k ≤ su.length ∧ K (p64 (checkLoop ow pr k (su.drop k))) M) (fun k => [.junk, .ptr 0 0 0, .junk, p64 ow.length, .junk, .junk, .junk, .junk, .junk, .junk, .junk, .junk, .junk, .junk, .junk, .junk, .junk, .junk, .junk, .junk, .junk, .junk, .junk, .junk, .junk, .junk, .junk, .junk, .junk, slR f3 o3 f4 o4 .i64 su, p64 ow.length, p64 k, .junk, .junk, .junk, .junk, .junk, .junk, .junk, .junk, .junk, .junk, .junk, .junk, .junk, .junk, .junk, .junk, .junk, .junk, .junk, .junk, .junk, .junk, .junk, .junk, .junk, .junk, .junk, .junk, .junk, .junk, .junk, .junk, .junk, .junk, .junk, .junk]) (fun _ => [.cells 0 0 [slI f1 o1 .u8 ow, slI f2 o2 .i64 pr, slR f3 o3 f4 o4 .i64 su]]) (fun k => su.length - k) 0 ⟨by omega, hq⟩ (by simp only [PWeak_nil, PWeak_junk, PWeak_same, Int.cast_ofNat_Int, d4]) rfl ?_
  intro k ⟨hle, hq⟩ ih
  refine SemW_go (by kernel_rfl) ?_
  simp only [PP, P1, P2, P3, P4, P5, P6, P7, P8, P9, P10, P11, P12, P13, P14, L1, P15, N1, N2, N3, N4, N5, N6, N7, I1, I2, I3, I4, I5, I6, I7, reduceIte, reduceCtorEq]
  refine QIf.intro (fun c => ?_) (fun c => ?_)
  · have hk' : k < su.length := by omega
    have g1 : su[k]? = some su[k] := List.getElem?_eq_getElem hk'
    have g2 : ow[k]? = some ow[k] := List.getElem?_eq_getElem (by omega)
    have g3 : pr[k]? = some pr[k] := List.getElem?_eq_getElem (by omega)
    have h0 : (0 : Int) ≤ k := by omega
    have hw := wrap_succ (k := k) (by have := B.s; omega)
    have e2 : ow.getD k 0 = ow[k] := by simp [List.getD, g2]
    have e3 : pr.getD k 0 = pr[k] := by simp [List.getD, g3]
    rw [drop_get' hk'] at hq
    have hks : (k : Int) < su.length := by omega
    have hkp : (k : Int) < pr.length := by omega
    simp only [PP, P1, P2, P3, P4, P5, P6, P7, P8, P9, P10, P11, P12, P13, P14, L1, P15, N1, N2, N3, N4, N5, N6, N7, I1, I2, I3, I4, I5, I6, I7, reduceIte, reduceCtorEq, checkLoop, c, g1, g2, g3, h0, e2, e3, hks, hkp] at hq ⊢
    refine QIf.intro (fun h1 => ?_) (fun h1 => ?_)
    · simp only [PP, P1, P2, P3, P4, P5, P6, P7, P8, P9, P10, P11, P12, P13, P14, L1, P15, N1, N2, N3, N4, N5, N6, N7, I1, I2, I3, I4, I5, I6, I7, reduceIte, reduceCtorEq, h1] at hq ⊢
      exact hq
    simp only [PP, P1, P2, P3, P4, P5, P6, P7, P8, P9, P10, P11, P12, P13, P14, L1, P15, N1, N2, N3, N4, N5, N6, N7, I1, I2, I3, I4, I5, I6, I7, reduceIte, reduceCtorEq, h1, g3, hkp, h0] at hq ⊢
    refine QIf.intro (fun h2 => ?_) (fun h2 => ?_)
    · simp only [PP, P1, P2, P3, P4, P5, P6, P7, P8, P9, P10, P11, P12, P13, P14, L1, P15, N1, N2, N3, N4, N5, N6, N7, I1, I2, I3, I4, I5, I6, I7, reduceIte, reduceCtorEq, h2] at hq ⊢
      exact hq
    simp only [PP, P1, P2, P3, P4, P5, P6, P7, P8, P9, P10, P11, P12, P13, P14, L1, P15, N1, N2, N3, N4, N5, N6, N7, I1, I2, I3, I4, I5, I6, I7, reduceIte, reduceCtorEq, h2, g3, hkp, h0] at hq ⊢
    refine QIf.intro (fun h3 => ?_) (fun h3 => ?_)
    · simp only [PP, P1, P2, P3, P4, P5, P6, P7, P8, P9, P10, P11, P12, P13, P14, L1, P15, N1, N2, N3, N4, N5, N6, N7, I1, I2, I3, I4, I5, I6, I7, reduceIte, reduceCtorEq, h3] at hq ⊢
      exact hq
    simp only [PP, P1, P2, P3, P4, P5, P6, P7, P8, P9, P10, P11, P12, P13, P14, L1, P15, N1, N2, N3, N4, N5, N6, N7, I1, I2, I3, I4, I5, I6, I7, reduceIte, reduceCtorEq, h3] at hq ⊢
    refine QIf.intro (fun h4 => ?_) (fun h4 => ?_)
    · simp only [PP, P1, P2, P3, P4, P5, P6, P7, P8, P9, P10, P11, P12, P13, P14, L1, P15, N1, N2, N3, N4, N5, N6, N7, I1, I2, I3, I4, I5, I6, I7, reduceIte, reduceCtorEq, h4] at hq ⊢
      exact hq
    simp only [PP, P1, P2, P3, P4, P5, P6, P7, P8, P9, P10, P11, P12, P13, P14, L1, P15, N1, N2, N3, N4, N5, N6, N7, I1, I2, I3, I4, I5, I6, I7, reduceIte, reduceCtorEq, h4] at hq ⊢
    refine positions_p T (B.r _ (List.getElem_mem hk')) ?_
    simp only [PP, P1, P2, P3, P4, P5, P6, P7, P8, P9, P10, P11, P12, P13, P14, L1, P15, N1, N2, N3, N4, N5, N6, N7, I1, I2, I3, I4, I5, I6, I7, reduceIte, reduceCtorEq]
    by_cases h5 : posM ow.length (-1) su[k] = true
    · simp only [PP, P1, P2, P3, P4, P5, P6, P7, P8, P9, P10, P11, P12, P13, P14, L1, P15, N1, N2, N3, N4, N5, N6, N7, I1, I2, I3, I4, I5, I6, I7, reduceIte, reduceCtorEq, h5, hw] at hq ⊢
      exact SemW_weak (ih (k + 1) ⟨by omega, hq⟩ (by omega)) (by simp only [PWeak_nil, PWeak_junk, PWeak_same, Int.cast_ofNat_Int, List.length_append, List.length_cons, List.length_nil, Nat.zero_add])
    · simp only [PP, P1, P2, P3, P4, P5, P6, P7, P8, P9, P10, P11, P12, P13, P14, L1, P15, N1, N2, N3, N4, N5, N6, N7, I1, I2, I3, I4, I5, I6, I7, reduceIte, reduceCtorEq, h5] at hq ⊢
      exact hq
  · simp only [PP, P1, P2, P3, P4, P5, P6, P7, P8, P9, P10, P11, P12, P13, P14, L1, P15, N1, N2, N3, N4, N5, N6, N7, I1, I2, I3, I4, I5, I6, I7, reduceIte, reduceCtorEq, c]
    rw [List.drop_eq_nil_of_le (by omega)] at hq
    exact hq
end
end Go.Am.Ar
set_option linter.unusedVariables false
set_option linter.unusedSimpArgs false
set_option maxRecDepth 10000
namespace Go.Am.Ar
open Go.Am renaming pchk → P1, pold → P2, PKNo → P3, ppack → P4, PObj.under → P5, pput → P6, ptset → P7, ptget → P8, pev → P9, ofAV → P10, ofAV1 → P11, ppad → P12, pfill → P13, prepl → P14, AO.effect → P15
open List renaming replicate → L1
open Nat renaming reduceAdd → N1, reduceSub → N2, reduceMul → N3, reduceLT → N4, reduceLeDiff → N5, reduceEqDiff → N6, reduceBEq → N7
open Int renaming reduceToNat → I1, reduceLT → I2, reduceLE → I3, reduceEq → I4, reduceAdd → I5, reduceSub → I6, reduceNeg → I7
section
variable {tab : FuncId → Option AF} (T : HasA tab)
include T
theorem equalBytes_p {M : Mem} {K : PV → Mem → Prop} {f o f' o' : Bool} {xs ys : List Int} (hm : xs.length < big) (hk : K (.bool (decide (xs = ys))) M) :
    SemC tab 26 [slI f o .u8 xs, slI f' o' .u8 ys] M K := by
  refine SemC_pure T.h26 (by simp only [PP, P1, P2, P3, P4, P5, P6, P7, P8, P9, P10, P11, P12, P13, P14, L1, P15, N1, N2, N3, N4, N5, N6, N7, I1, I2, I3, I4, I5, I6, I7, reduceIte, reduceCtorEq]) ?_
  simp only [af26, PP, P1, P2, P3, P4, P5, P6, P7, P8, P9, P10, P11, P12, P13, P14, L1, P15, N1, N2, N3, N4, N5, N6, N7, I1, I2, I3, I4, I5, I6, I7, reduceIte, reduceCtorEq]
  refine QIf.intro (fun c1 => ?_) (fun c1 => ?_)
  · simp only [PP, P1, P2, P3, P4, P5, P6, P7, P8, P9, P10, P11, P12, P13, P14, L1, P15, N1, N2, N3, N4, N5, N6, N7, I1, I2, I3, I4, I5, I6, I7, reduceIte, reduceCtorEq, c1]
    have hl : xs.length = ys.length := by omega
    refine loop1 (fun (k : Nat) => k ≤ xs.length ∧ K (.bool (decide (xs.drop k = ys.drop k))) M) (fun k => [slI f o .u8 xs, slI f' o' .u8 ys, .junk, .junk, .junk, p64 k, .junk, .junk, .junk, .junk, .junk, .junk, .junk, .junk, .junk, .junk, .junk, .junk, .junk, .junk, .junk, .junk, .junk, .junk, .junk, .junk]) (fun _ => []) (fun k => xs.length - k) 0 ⟨by omega, hk⟩ (by simp only [PWeak_nil, PWeak_junk, PWeak_same, Int.cast_ofNat_Int, List.length_append, List.length_cons, List.length_nil, Nat.zero_add]) rfl ?_
    intro k ⟨hle, hq⟩ ih
    refine SemW_go (by kernel_rfl) ?_
    simp only [PP, P1, P2, P3, P4, P5, P6, P7, P8, P9, P10, P11, P12, P13, P14, L1, P15, N1, N2, N3, N4, N5, N6, N7, I1, I2, I3, I4, I5, I6, I7, reduceIte, reduceCtorEq]
    refine QIf.intro (fun c => ?_) (fun c => ?_)
    · have hk' : k < xs.length := by omega
      have hk2 : k < ys.length := by omega
      rw [drop_get' hk', drop_get' hk2] at hq
      have hw := wrap_succ (k := k) (by omega)
      have g1 : xs[k]? = some xs[k] := List.getElem?_eq_getElem hk'
      have g2 : ys[k]? = some ys[k] := List.getElem?_eq_getElem hk2
      have h0 : (0 : Int) ≤ k := by omega
      have cy : (k : Int) < ys.length := by omega
      simp only [PP, P1, P2, P3, P4, P5, P6, P7, P8, P9, P10, P11, P12, P13, P14, L1, P15, N1, N2, N3, N4, N5, N6, N7, I1, I2, I3, I4, I5, I6, I7, reduceIte, reduceCtorEq, c, g1, g2, hw, h0, cy] at hq ⊢
      refine QIf.intro (fun h1 => ?_) (fun h1 => ?_)
      · simp only [PP, P1, P2, P3, P4, P5, P6, P7, P8, P9, P10, P11, P12, P13, P14, L1, P15, N1, N2, N3, N4, N5, N6, N7, I1, I2, I3, I4, I5, I6, I7, reduceIte, reduceCtorEq, h1, hw, List.cons.injEq] at hq ⊢
        exact SemW_weak (ih (k + 1) ⟨by omega, hq⟩ (by omega)) (by simp only [PWeak_nil, PWeak_junk, PWeak_same, Int.cast_ofNat_Int, List.length_append, List.length_cons, List.length_nil, Nat.zero_add])
      · simp only [PP, P1, P2, P3, P4, P5, P6, P7, P8, P9, P10, P11, P12, P13, P14, L1, P15, N1, N2, N3, N4, N5, N6, N7, I1, I2, I3, I4, I5, I6, I7, reduceIte, reduceCtorEq, h1, List.cons.injEq] at hq ⊢
        exact hq
    · simp only [PP, P1, P2, P3, P4, P5, P6, P7, P8, P9, P10, P11, P12, P13, P14, L1, P15, N1, N2, N3, N4, N5, N6, N7, I1, I2, I3, I4, I5, I6, I7, reduceIte, reduceCtorEq, c]
      rw [List.drop_eq_nil_of_le (by omega), List.drop_eq_nil_of_le (by omega)] at hq
      simp only [PP, P1, P2, P3, P4, P5, P6, P7, P8, P9, P10, P11, P12, P13, P14, L1, P15, N1, N2, N3, N4, N5, N6, N7, I1, I2, I3, I4, I5, I6, I7, reduceIte, reduceCtorEq] at hq
      exact hq
  · simp only [PP, P1, P2, P3, P4, P5, P6, P7, P8, P9, P10, P11, P12, P13, P14, L1, P15, N1, N2, N3, N4, N5, N6, N7, I1, I2, I3, I4, I5, I6, I7, reduceIte, reduceCtorEq, c1]
    have hne : ¬ xs = ys := by rintro rfl; exact c1 rfl
    simp only [PP, P1, P2, P3, P4, P5, P6, P7, P8, P9, P10, P11, P12, P13, P14, L1, P15, N1, N2, N3, N4, N5, N6, N7, I1, I2, I3, I4, I5, I6, I7, reduceIte, reduceCtorEq, hne] at hk
    exact hk
theorem copyInts_p {M : Mem} {K : PV → Mem → Prop} {f o : Bool} {xs : List Int} (hm : xs.length < big) (hk : K (slI false true .i64 xs) M) :
    SemC tab 8 [slI f o .i64 xs] M K := by
  refine SemC_pure T.h8 (by simp only [PP, P1, P2, P3, P4, P5, P6, P7, P8, P9, P10, P11, P12, P13, P14, L1, P15, N1, N2, N3, N4, N5, N6, N7, I1, I2, I3, I4, I5, I6, I7, reduceIte, reduceCtorEq]) ?_
  have hb : xs.length < 1000000000000 := hm
  have b1 : xs.length * 8 ≤ 140737488355328 := by omega
  have b2 : xs.length ≤ 9223372036854775807 := by omega
  simp only [af8, PP, P1, P2, P3, P4, P5, P6, P7, P8, P9, P10, P11, P12, P13, P14, L1, P15, N1, N2, N3, N4, N5, N6, N7, I1, I2, I3, I4, I5, I6, I7, reduceIte, reduceCtorEq, b1, b2]
  exact hk
theorem copyBytes_p {M : Mem} {K : PV → Mem → Prop} {f o : Bool} {xs : List Int} (hm : xs.length < big) (hk : K (slI false true .u8 xs) M) :
    SemC tab 24 [slI f o .u8 xs] M K := by
  refine SemC_pure T.h24 (by simp only [PP, P1, P2, P3, P4, P5, P6, P7, P8, P9, P10, P11, P12, P13, P14, L1, P15, N1, N2, N3, N4, N5, N6, N7, I1, I2, I3, I4, I5, I6, I7, reduceIte, reduceCtorEq]) ?_
  have hb : xs.length < 1000000000000 := hm
  have b1 : xs.length ≤ 140737488355328 := by omega
  have b2 : xs.length ≤ 9223372036854775807 := by omega
  simp only [af24, PP, P1, P2, P3, P4, P5, P6, P7, P8, P9, P10, P11, P12, P13, P14, L1, P15, N1, N2, N3, N4, N5, N6, N7, I1, I2, I3, I4, I5, I6, I7, reduceIte, reduceCtorEq, b1, b2]
  exact hk
theorem copyRows_p {M : Mem} {K : PV → Mem → Prop} {f o g1 g2 : Bool} {su : List (List Int)} (hm : su.length < big) (hr : ∀ r ∈ su, r.length < big) (hk : K (slR false true false true .i64 su) M) :
    SemC tab 25 [slR f o g1 g2 .i64 su] M K := by
  refine SemC_pure T.h25 (by simp only [PP, P1, P2, P3, P4, P5, P6, P7, P8, P9, P10, P11, P12, P13, P14, L1, P15, N1, N2, N3, N4, N5, N6, N7, I1, I2, I3, I4, I5, I6, I7, reduceIte, reduceCtorEq]) ?_
  simp only [af25, PP, P1, P2, P3, P4, P5, P6, P7, P8, P9, P10, P11, P12, P13, P14, L1, P15, N1, N2, N3, N4, N5, N6, N7, I1, I2, I3, I4, I5, I6, I7, reduceIte, reduceCtorEq]
  refine SemW_re (GStep.nil 3 1 rfl rfl rfl) ?_
  refine loop3 (fun (k g : Nat) (acc : List (List Int)) => k ≤ su.length ∧ acc = su.take k) (fun k g acc => [slR f o g1 g2 .i64 su, .junk, .junk, .ref 0 g 1 0 acc.length, p64 k, .junk, .junk, .junk, .junk, .junk, .junk, .junk, .junk, .junk, .junk, .junk, .junk, .junk, .junk, .junk]) (fun k g acc => [.cells g 0 (acc.map (slI false true .i64))]) (fun k _ _ => su.length - k) 0 0 [] ⟨by omega, by simp⟩ (by simp only [ptset, PP, P1, P2, P3, P4, P5, P6, P7, P8, P9, P10, P11, P12, P13, P14, L1, P15, N1, N2, N3, N4, N5, N6, N7, I1, I2, I3, I4, I5, I6, I7, reduceIte, reduceCtorEq, PWeak_nil, PWeak_junk, PWeak_same]) rfl ?_
  intro k g acc ⟨hle, hacc⟩ ih
  refine SemW_go (by kernel_rfl) ?_
  simp only [PP, P1, P2, P3, P4, P5, P6, P7, P8, P9, P10, P11, P12, P13, P14, L1, P15, N1, N2, N3, N4, N5, N6, N7, I1, I2, I3, I4, I5, I6, I7, reduceIte, reduceCtorEq]
  refine QIf.intro (fun c => ?_) (fun c => ?_)
  · have hk' : k < su.length := by omega
    have hw := wrap_succ (k := k) (by omega)
    have q1 : su[k]? = some su[k] := List.getElem?_eq_getElem hk'
    have h0 : (0 : Int) ≤ k := by omega
    simp only [PP, P1, P2, P3, P4, P5, P6, P7, P8, P9, P10, P11, P12, P13, P14, L1, P15, N1, N2, N3, N4, N5, N6, N7, I1, I2, I3, I4, I5, I6, I7, reduceIte, reduceCtorEq, c, q1, h0]
    refine copyInts_p T (hr _ (List.getElem_mem hk')) ?_
    have hl : acc.length = k := by rw [hacc]; simp; omega
    have hb : su.length < 1000000000000 := hm
    have b1 : (acc.length + 1) * 24 ≤ 140737488355328 := by omega
    have b2 : acc.length + 1 ≤ 9223372036854775807 := by omega
    simp only [PP, P1, P2, P3, P4, P5, P6, P7, P8, P9, P10, P11, P12, P13, P14, L1, P15, N1, N2, N3, N4, N5, N6, N7, I1, I2, I3, I4, I5, I6, I7, reduceIte, reduceCtorEq, b1, b2, hw]
    refine SemW_to (ih (k + 1) (g + 1) (acc ++ [su[k]]) ⟨by omega, ?_⟩ (by omega)) (by simp only [PWeak_nil, PWeak_junk, PWeak_same, Int.cast_ofNat_Int, List.length_append, List.length_cons, List.length_nil, Nat.zero_add]) (by simp only [List.map_append, List.map_cons, List.map_nil])
    rw [hacc, List.take_add_one]; simp [hk']
  · have : acc = su := by rw [hacc]; exact List.take_of_length_le (by omega)
    subst this
    simp only [PP, P1, P2, P3, P4, P5, P6, P7, P8, P9, P10, P11, P12, P13, P14, L1, P15, N1, N2, N3, N4, N5, N6, N7, I1, I2, I3, I4, I5, I6, I7, reduceIte, reduceCtorEq, c]
    exact hk
end
end Go.Am.Ar
set_option linter.unusedVariables false
set_option linter.unusedSimpArgs false
set_option maxRecDepth 10000
namespace Go.Am.Ar
open Go.Am renaming pchk → P1, pold → P2, PKNo → P3, ppack → P4, PObj.under → P5, pput → P6, ptset → P7, ptget → P8, pev → P9, ofAV → P10, ofAV1 → P11, ppad → P12, pfill → P13, prepl → P14, AO.effect → P15
open List renaming replicate → L1
open Nat renaming reduceAdd → N1, reduceSub → N2, reduceMul → N3, reduceLT → N4, reduceLeDiff → N5, reduceEqDiff → N6, reduceBEq → N7
open Int renaming reduceToNat → I1, reduceLT → I2, reduceLE → I3, reduceEq → I4, reduceAdd → I5, reduceSub → I6, reduceNeg → I7
section
variable {tab : FuncId → Option AF} (T : HasA tab)
include T
theorem copyGame_p {M : Mem} {K : PV → Mem → Prop} {f1 o1 f2 o2 f3 o3 f4 o4 : Bool} {ow pr : List Int} {su : List (List Int)} (B : Bnd ow pr su) (hk : K (gmP false true false true false true false true ow pr su) M) :
    SemC tab 10 [gmP f1 o1 f2 o2 f3 o3 f4 o4 ow pr su] M K := by
  refine SemC_pure T.h10 (by simp only [PP, P1, P2, P3, P4, P5, P6, P7, P8, P9, P10, P11, P12, P13, P14, L1, P15, N1, N2, N3, N4, N5, N6, N7, I1, I2, I3, I4, I5, I6, I7, reduceIte, reduceCtorEq]) ?_
  simp only [af10, PP, P1, P2, P3, P4, P5, P6, P7, P8, P9, P10, P11, P12, P13, P14, L1, P15, N1, N2, N3, N4, N5, N6, N7, I1, I2, I3, I4, I5, I6, I7, reduceIte, reduceCtorEq]
  refine copyBytes_p T B.o ?_
  simp only [PP, P1, P2, P3, P4, P5, P6, P7, P8, P9, P10, P11, P12, P13, P14, L1, P15, N1, N2, N3, N4, N5, N6, N7, I1, I2, I3, I4, I5, I6, I7, reduceIte, reduceCtorEq]
  refine copyInts_p T B.p ?_
  simp only [PP, P1, P2, P3, P4, P5, P6, P7, P8, P9, P10, P11, P12, P13, P14, L1, P15, N1, N2, N3, N4, N5, N6, N7, I1, I2, I3, I4, I5, I6, I7, reduceIte, reduceCtorEq]
  refine copyRows_p T B.s B.r ?_
  simp only [PP, P1, P2, P3, P4, P5, P6, P7, P8, P9, P10, P11, P12, P13, P14, L1, P15, N1, N2, N3, N4, N5, N6, N7, I1, I2, I3, I4, I5, I6, I7, reduceIte, reduceCtorEq]
  exact hk
end
end Go.Am.Ar
set_option linter.unusedVariables false
set_option linter.unusedSimpArgs false
set_option maxRecDepth 10000
namespace Go.Am.Ar
open Go.Am renaming pchk → P1, pold → P2, PKNo → P3, ppack → P4, PObj.under → P5, pput → P6, ptset → P7, ptget → P8, pev → P9, ofAV → P10, ofAV1 → P11, ppad → P12, pfill → P13, prepl → P14, AO.effect → P15
open List renaming replicate → L1
open Nat renaming reduceAdd → N1, reduceSub → N2, reduceMul → N3, reduceLT → N4, reduceLeDiff → N5, reduceEqDiff → N6, reduceBEq → N7
open Int renaming reduceToNat → I1, reduceLT → I2, reduceLE → I3, reduceEq → I4, reduceAdd → I5, reduceSub → I6, reduceNeg → I7
def anyLong : List (List Int) → Bool
  | [] => false
  | r :: l => if 40 < (r.length : Int) then true else anyLong l
def longM (ow pr : List Int) (su ls : List (List Int)) : Bool :=
  if 30 < (ow.length : Int) then true else if 40 < (pr.length : Int) then true else if 40 < (su.length : Int) then true else if anyLong su = true then true else anyLong ls
theorem anyLong_false : ∀ {l : List (List Int)}, anyLong l = false → ∀ r ∈ l, r.length ≤ 40
  | [], h, r, hr => by cases hr
  | x :: l, h, r, hr => by
    unfold anyLong at h
    split at h
    · cases h
    · rcases List.mem_cons.1 hr with rfl | hr
      · omega
      · exact anyLong_false h r hr
structure Short (ow pr : List Int) (su ls : List (List Int)) : Prop where
  o : ow.length ≤ 30
  p : pr.length ≤ 40
  s : su.length ≤ 40
  r : ∀ row ∈ su, row.length ≤ 40
  l : ∀ row ∈ ls, row.length ≤ 40
theorem longM_false {ow pr : List Int} {su ls : List (List Int)} (h : longM ow pr su ls = false) : Short ow pr su ls := by
  unfold longM at h
  split at h
  · cases h
  · split at h
    · cases h
    · split at h
      · cases h
      · split at h
        · cases h
        · rename_i h4
          exact ⟨by omega, by omega, by omega, anyLong_false (by simpa using h4), anyLong_false h⟩
theorem Short.bnd {ow pr : List Int} {su ls : List (List Int)} (h : Short ow pr su ls) : Bnd ow pr su := by
  obtain ⟨h1, h2, h3, h4, h5⟩ := h
  exact ⟨by show _ < 1000000000000; omega, by show _ < 1000000000000; omega, by show _ < 1000000000000; omega, fun r hr => by show _ < 1000000000000; have := h4 r hr; omega⟩
section
variable {tab : FuncId → Option AF} (T : HasA tab)
include T
theorem rises_p {M : Mem} {K : PV → Mem → Prop} {f o : Bool} {xs : List Int} {n : Int} (hm : xs.length < big) (hk : K (.bool (posM n (-1) xs)) M) :
    SemC tab 16 [slI f o .i64 xs, p64 n] M K := by
  refine SemC_pure T.h16 (by simp only [PP, P1, P2, P3, P4, P5, P6, P7, P8, P9, P10, P11, P12, P13, P14, L1, P15, N1, N2, N3, N4, N5, N6, N7, I1, I2, I3, I4, I5, I6, I7, reduceIte, reduceCtorEq]) ?_
  simp only [af16, PP, P1, P2, P3, P4, P5, P6, P7, P8, P9, P10, P11, P12, P13, P14, L1, P15, N1, N2, N3, N4, N5, N6, N7, I1, I2, I3, I4, I5, I6, I7, reduceIte, reduceCtorEq]
  refine loop2 (fun (k : Nat) (last : Int) => k ≤ xs.length ∧ -1 ≤ last ∧ ((k = 0 ∧ last = -1) ∨ (0 < k ∧ xs[k - 1]? = some last)) ∧ K (.bool (posM n last (xs.drop k))) M) (fun k last => [slI f o .i64 xs, p64 n, .junk, .junk, .junk, p64 k, .junk, .junk, .junk, .junk, .junk, .junk, .junk, .junk, .junk, .junk, .junk, .junk, .junk, .junk, .junk, .junk, .junk, .junk, .junk, .junk, .junk, .junk, .junk, .junk, .junk, .junk, .junk, .junk, .junk, .junk, .junk, .junk, .junk, .junk, .junk]) (fun _ _ => []) (fun k _ => xs.length - k) 0 (-1) ⟨by omega, by omega, .inl ⟨rfl, rfl⟩, hk⟩ (by simp only [PWeak_nil, PWeak_junk, PWeak_same, Int.cast_ofNat_Int, List.length_append, List.length_cons, List.length_nil, Nat.zero_add]) rfl ?_
  intro k last ⟨hle, hl1, hi, hq⟩ ih
  refine SemW_go (by kernel_rfl) ?_
  simp only [PP, P1, P2, P3, P4, P5, P6, P7, P8, P9, P10, P11, P12, P13, P14, L1, P15, N1, N2, N3, N4, N5, N6, N7, I1, I2, I3, I4, I5, I6, I7, reduceIte, reduceCtorEq]
  refine QIf.intro (fun c => ?_) (fun c => ?_)
  · have hk' : k < xs.length := by omega
    rw [drop_get' hk'] at hq
    have hw := wrap_succ (k := k) (by omega)
    have g1 : xs[k]? = some xs[k] := List.getElem?_eq_getElem hk'
    have h0 : (0 : Int) ≤ k := by omega
    simp only [PP, P1, P2, P3, P4, P5, P6, P7, P8, P9, P10, P11, P12, P13, P14, L1, P15, N1, N2, N3, N4, N5, N6, N7, I1, I2, I3, I4, I5, I6, I7, reduceIte, reduceCtorEq, c, g1, hw, h0, posM] at hq ⊢
    refine QIf.intro (fun h1 => ?_) (fun h1 => ?_)
    · have : xs[k] ≤ last := by omega
      simp only [PP, P1, P2, P3, P4, P5, P6, P7, P8, P9, P10, P11, P12, P13, P14, L1, P15, N1, N2, N3, N4, N5, N6, N7, I1, I2, I3, I4, I5, I6, I7, reduceIte, reduceCtorEq, h1, this] at hq ⊢
      exact hq
    simp only [PP, P1, P2, P3, P4, P5, P6, P7, P8, P9, P10, P11, P12, P13, P14, L1, P15, N1, N2, N3, N4, N5, N6, N7, I1, I2, I3, I4, I5, I6, I7, reduceIte, reduceCtorEq, h1, g1, c, h0] at hq ⊢
    refine QIf.intro (fun h2 => ?_) (fun h2 => ?_)
    · by_cases h3 : xs[k] ≤ last
      · simp only [PP, P1, P2, P3, P4, P5, P6, P7, P8, P9, P10, P11, P12, P13, P14, L1, P15, N1, N2, N3, N4, N5, N6, N7, I1, I2, I3, I4, I5, I6, I7, reduceIte, reduceCtorEq, h2, h3] at hq ⊢
        exact hq
      · simp only [PP, P1, P2, P3, P4, P5, P6, P7, P8, P9, P10, P11, P12, P13, P14, L1, P15, N1, N2, N3, N4, N5, N6, N7, I1, I2, I3, I4, I5, I6, I7, reduceIte, reduceCtorEq, h2, h3] at hq ⊢
        exact hq
    simp only [PP, P1, P2, P3, P4, P5, P6, P7, P8, P9, P10, P11, P12, P13, P14, L1, P15, N1, N2, N3, N4, N5, N6, N7, I1, I2, I3, I4, I5, I6, I7, reduceIte, reduceCtorEq, h2, g1, c, h0] at hq ⊢
    rcases hi with ⟨rfl, rfl⟩ | ⟨hk0, hlast⟩
    · have h3 : ¬ xs[0] ≤ -1 := by omega
      have hw1 : IntKind.i64.wrap 1 = 1 := by decide
      simp only [PP, P1, P2, P3, P4, P5, P6, P7, P8, P9, P10, P11, P12, P13, P14, L1, P15, N1, N2, N3, N4, N5, N6, N7, I1, I2, I3, I4, I5, I6, I7, reduceIte, reduceCtorEq, h3, hw1, Int.lt_irrefl, Nat.lt_irrefl] at hq ⊢
      exact SemW_weak (ih 1 xs[0] ⟨by omega, by omega, .inr ⟨by omega, by simp⟩, hq⟩ (by omega)) (by simp only [PWeak_nil, PWeak_junk, PWeak_same, Int.cast_ofNat_Int, List.length_append, List.length_cons, List.length_nil, Nat.zero_add])
    · have h4 : (0 : Int) < k := by omega
      have hw2 : IntKind.i64.wrap ((k : Int) - 1) = ((k - 1 : Nat) : Int) := by
        have : k < 1000000000000 := by have : xs.length < 1000000000000 := hm; omega
        rw [wrap64 (by omega) (by omega)]; omega
      have c2 : ((k - 1 : Nat) : Int) < xs.length := by omega
      have c3 : (0 : Int) ≤ ((k - 1 : Nat) : Int) := by omega
      simp only [PP, P1, P2, P3, P4, P5, P6, P7, P8, P9, P10, P11, P12, P13, P14, L1, P15, N1, N2, N3, N4, N5, N6, N7, I1, I2, I3, I4, I5, I6, I7, reduceIte, reduceCtorEq, h4, g1, c, h0, hw2, c2, c3, hlast] at hq ⊢
      by_cases h3 : xs[k] ≤ last
      · simp only [PP, P1, P2, P3, P4, P5, P6, P7, P8, P9, P10, P11, P12, P13, P14, L1, P15, N1, N2, N3, N4, N5, N6, N7, I1, I2, I3, I4, I5, I6, I7, reduceIte, reduceCtorEq, h3] at hq ⊢
        exact hq
      · simp only [PP, P1, P2, P3, P4, P5, P6, P7, P8, P9, P10, P11, P12, P13, P14, L1, P15, N1, N2, N3, N4, N5, N6, N7, I1, I2, I3, I4, I5, I6, I7, reduceIte, reduceCtorEq, h3, hw] at hq ⊢
        exact SemW_weak (ih (k + 1) xs[k] ⟨by omega, by omega, .inr ⟨by omega, by simp [hk']⟩, hq⟩ (by omega)) (by simp only [PWeak_nil, PWeak_junk, PWeak_same, Int.cast_ofNat_Int, List.length_append, List.length_cons, List.length_nil, Nat.zero_add])
  · simp only [PP, P1, P2, P3, P4, P5, P6, P7, P8, P9, P10, P11, P12, P13, P14, L1, P15, N1, N2, N3, N4, N5, N6, N7, I1, I2, I3, I4, I5, I6, I7, reduceIte, reduceCtorEq, c]
    rw [List.drop_eq_nil_of_le (by omega)] at hq
    exact hq
theorem refCheck_p {M : Mem} {K : PV → Mem → Prop} {f1 o1 f2 o2 f3 o3 f4 o4 : Bool} {ow pr : List Int} {su : List (List Int)} (B : Bnd ow pr su) (hq : K (p64 (checkM ow pr su)) M) :
    SemC tab 7 [gmP f1 o1 f2 o2 f3 o3 f4 o4 ow pr su] M K := by
  refine SemC_pure T.h7 (by simp only [PP, P1, P2, P3, P4, P5, P6, P7, P8, P9, P10, P11, P12, P13, P14, L1, P15, N1, N2, N3, N4, N5, N6, N7, I1, I2, I3, I4, I5, I6, I7, reduceIte, reduceCtorEq]) ?_
  simp only [af7, PP, P1, P2, P3, P4, P5, P6, P7, P8, P9, P10, P11, P12, P13, P14, L1, P15, N1, N2, N3, N4, N5, N6, N7, I1, I2, I3, I4, I5, I6, I7, reduceIte, reduceCtorEq, checkM] at hq ⊢
  refine QIf.intro (fun c1 => ?_) (fun c1 => ?_)
  · simp only [PP, P1, P2, P3, P4, P5, P6, P7, P8, P9, P10, P11, P12, P13, P14, L1, P15, N1, N2, N3, N4, N5, N6, N7, I1, I2, I3, I4, I5, I6, I7, reduceIte, reduceCtorEq, c1] at hq ⊢
    exact hq
  simp only [PP, P1, P2, P3, P4, P5, P6, P7, P8, P9, P10, P11, P12, P13, P14, L1, P15, N1, N2, N3, N4, N5, N6, N7, I1, I2, I3, I4, I5, I6, I7, reduceIte, reduceCtorEq, c1] at hq ⊢
  refine QIf.intro (fun c2 => ?_) (fun c2 => ?_)
  · simp only [PP, P1, P2, P3, P4, P5, P6, P7, P8, P9, P10, P11, P12, P13, P14, L1, P15, N1, N2, N3, N4, N5, N6, N7, I1, I2, I3, I4, I5, I6, I7, reduceIte, reduceCtorEq, c2] at hq ⊢
    exact hq
  simp only [PP, P1, P2, P3, P4, P5, P6, P7, P8, P9, P10, P11, P12, P13, P14, L1, P15, N1, N2, N3, N4, N5, N6, N7, I1, I2, I3, I4, I5, I6, I7, reduceIte, reduceCtorEq, c2] at hq ⊢
  refine QIf.intro (fun c3 => ?_) (fun c3 => ?_)
  rotate_left
  · simp only [PP, P1, P2, P3, P4, P5, P6, P7, P8, P9, P10, P11, P12, P13, P14, L1, P15, N1, N2, N3, N4, N5, N6, N7, I1, I2, I3, I4, I5, I6, I7, reduceIte, reduceCtorEq, c3] at hq ⊢
    exact hq
  simp only [PP, P1, P2, P3, P4, P5, P6, P7, P8, P9, P10, P11, P12, P13, P14, L1, P15, N1, N2, N3, N4, N5, N6, N7, I1, I2, I3, I4, I5, I6, I7, reduceIte, reduceCtorEq, c3] at hq ⊢
  refine QIf.intro (fun c4 => ?_) (fun c4 => ?_)
  rotate_left
  · simp only [PP, P1, P2, P3, P4, P5, P6, P7, P8, P9, P10, P11, P12, P13, P14, L1, P15, N1, N2, N3, N4, N5, N6, N7, I1, I2, I3, I4, I5, I6, I7, reduceIte, reduceCtorEq, c4] at hq ⊢
    exact hq
  simp only [PP, P1, P2, P3, P4, P5, P6, P7, P8, P9, P10, P11, P12, P13, P14, L1, P15, N1, N2, N3, N4, N5, N6, N7, I1, I2, I3, I4, I5, I6, I7, reduceIte, reduceCtorEq, c4] at hq ⊢
  have d4 : su.length = ow.length := by omega
  refine loop1 (fun (k : Nat) => k ≤ su.length ∧ K (p64 (checkLoop ow pr k (su.drop k))) M) (fun k => [.junk, .ptr 0 0 0, .junk, p64 ow.length, p64 k, .junk, .junk, .junk, .junk, .junk, .junk, .junk, .junk, .junk, .junk, .junk, .junk, .junk, .junk, .junk, .junk, .junk, .junk, .junk, .junk, .junk, .junk, .junk, .junk, .junk, .junk, .junk, .junk, .junk, .junk, .junk, .junk, .junk, .junk, .junk, .junk, .junk, .junk, .junk, .junk, .junk, .junk, .junk, .junk, .junk, .junk, .junk, .junk, .junk, .junk, .junk, .junk, .junk, .junk, .junk, .junk, .junk, .junk, .junk]) (fun _ => [.cells 0 0 [slI f1 o1 .u8 ow, slI f2 o2 .i64 pr, slR f3 o3 f4 o4 .i64 su]]) (fun k => su.length - k) 0 ⟨by omega, hq⟩ (by simp only [PWeak_nil, PWeak_junk, PWeak_same, Int.cast_ofNat_Int, d4]) rfl ?_
  intro k ⟨hle, hq⟩ ih
  refine SemW_go (by kernel_rfl) ?_
  simp only [PP, P1, P2, P3, P4, P5, P6, P7, P8, P9, P10, P11, P12, P13, P14, L1, P15, N1, N2, N3, N4, N5, N6, N7, I1, I2, I3, I4, I5, I6, I7, reduceIte, reduceCtorEq]
  refine QIf.intro (fun c => ?_) (fun c => ?_)
  · have hk' : k < su.length := by omega
    have g1 : su[k]? = some su[k] := List.getElem?_eq_getElem hk'
    have g2 : ow[k]? = some ow[k] := List.getElem?_eq_getElem (by omega)
    have g3 : pr[k]? = some pr[k] := List.getElem?_eq_getElem (by omega)
    have h0 : (0 : Int) ≤ k := by omega
    have hw := wrap_succ (k := k) (by have := B.s; omega)
    have e2 : ow.getD k 0 = ow[k] := by simp [List.getD, g2]
    have e3 : pr.getD k 0 = pr[k] := by simp [List.getD, g3]
    rw [drop_get' hk'] at hq
    have hks : (k : Int) < su.length := by omega
    have hkp : (k : Int) < pr.length := by omega
    simp only [PP, P1, P2, P3, P4, P5, P6, P7, P8, P9, P10, P11, P12, P13, P14, L1, P15, N1, N2, N3, N4, N5, N6, N7, I1, I2, I3, I4, I5, I6, I7, reduceIte, reduceCtorEq, checkLoop, c, g1, g2, g3, h0, e2, e3, hks, hkp] at hq ⊢
    refine QIf.intro (fun h1 => ?_) (fun h1 => ?_)
    · simp only [PP, P1, P2, P3, P4, P5, P6, P7, P8, P9, P10, P11, P12, P13, P14, L1, P15, N1, N2, N3, N4, N5, N6, N7, I1, I2, I3, I4, I5, I6, I7, reduceIte, reduceCtorEq, h1] at hq ⊢
      exact hq
    simp only [PP, P1, P2, P3, P4, P5, P6, P7, P8, P9, P10, P11, P12, P13, P14, L1, P15, N1, N2, N3, N4, N5, N6, N7, I1, I2, I3, I4, I5, I6, I7, reduceIte, reduceCtorEq, h1, g3, hkp, h0] at hq ⊢
    refine QIf.intro (fun h2 => ?_) (fun h2 => ?_)
    · simp only [PP, P1, P2, P3, P4, P5, P6, P7, P8, P9, P10, P11, P12, P13, P14, L1, P15, N1, N2, N3, N4, N5, N6, N7, I1, I2, I3, I4, I5, I6, I7, reduceIte, reduceCtorEq, h2] at hq ⊢
      exact hq
    simp only [PP, P1, P2, P3, P4, P5, P6, P7, P8, P9, P10, P11, P12, P13, P14, L1, P15, N1, N2, N3, N4, N5, N6, N7, I1, I2, I3, I4, I5, I6, I7, reduceIte, reduceCtorEq, h2, g3, hkp, h0] at hq ⊢
    refine QIf.intro (fun h3 => ?_) (fun h3 => ?_)
    · simp only [PP, P1, P2, P3, P4, P5, P6, P7, P8, P9, P10, P11, P12, P13, P14, L1, P15, N1, N2, N3, N4, N5, N6, N7, I1, I2, I3, I4, I5, I6, I7, reduceIte, reduceCtorEq, h3] at hq ⊢
      exact hq
    simp only [PP, P1, P2, P3, P4, P5, P6, P7, P8, P9, P10, P11, P12, P13, P14, L1, P15, N1, N2, N3, N4, N5, N6, N7, I1, I2, I3, I4, I5, I6, I7, reduceIte, reduceCtorEq, h3, g1, hks, h0] at hq ⊢
    refine QIf.intro (fun h4 => ?_) (fun h4 => ?_)
    · simp only [PP, P1, P2, P3, P4, P5, P6, P7, P8, P9, P10, P11, P12, P13, P14, L1, P15, N1, N2, N3, N4, N5, N6, N7, I1, I2, I3, I4, I5, I6, I7, reduceIte, reduceCtorEq, h4] at hq ⊢
      exact hq
    simp only [PP, P1, P2, P3, P4, P5, P6, P7, P8, P9, P10, P11, P12, P13, P14, L1, P15, N1, N2, N3, N4, N5, N6, N7, I1, I2, I3, I4, I5, I6, I7, reduceIte, reduceCtorEq, h4, g1, hks, h0] at hq ⊢
    refine rises_p T (B.r _ (List.getElem_mem hk')) ?_
    simp only [PP, P1, P2, P3, P4, P5, P6, P7, P8, P9, P10, P11, P12, P13, P14, L1, P15, N1, N2, N3, N4, N5, N6, N7, I1, I2, I3, I4, I5, I6, I7, reduceIte, reduceCtorEq]
    by_cases h5 : posM ow.length (-1) su[k] = true
    · simp only [PP, P1, P2, P3, P4, P5, P6, P7, P8, P9, P10, P11, P12, P13, P14, L1, P15, N1, N2, N3, N4, N5, N6, N7, I1, I2, I3, I4, I5, I6, I7, reduceIte, reduceCtorEq, h5, hw] at hq ⊢
      exact SemW_weak (ih (k + 1) ⟨by omega, hq⟩ (by omega)) (by simp only [PWeak_nil, PWeak_junk, PWeak_same, Int.cast_ofNat_Int, List.length_append, List.length_cons, List.length_nil, Nat.zero_add])
    · simp only [PP, P1, P2, P3, P4, P5, P6, P7, P8, P9, P10, P11, P12, P13, P14, L1, P15, N1, N2, N3, N4, N5, N6, N7, I1, I2, I3, I4, I5, I6, I7, reduceIte, reduceCtorEq, h5] at hq ⊢
      exact hq
  · simp only [PP, P1, P2, P3, P4, P5, P6, P7, P8, P9, P10, P11, P12, P13, P14, L1, P15, N1, N2, N3, N4, N5, N6, N7, I1, I2, I3, I4, I5, I6, I7, reduceIte, reduceCtorEq, c]
    rw [List.drop_eq_nil_of_le (by omega)] at hq
    exact hq
theorem long_p {M : Mem} {K : PV → Mem → Prop} {f1 o1 f2 o2 f3 o3 f4 o4 f5 o5 f6 o6 : Bool} {ow pr : List Int} {su ls : List (List Int)} (hl : ls.length < big) (hq : K (.bool (longM ow pr su ls)) M) :
    SemC tab 4 [gmP f1 o1 f2 o2 f3 o3 f4 o4 ow pr su, slR f5 o5 f6 o6 .i64 ls] M K := by
  refine SemC_pure T.h4 (by simp only [PP, P1, P2, P3, P4, P5, P6, P7, P8, P9, P10, P11, P12, P13, P14, L1, P15, N1, N2, N3, N4, N5, N6, N7, I1, I2, I3, I4, I5, I6, I7, reduceIte, reduceCtorEq]) ?_
  simp only [af4, PP, P1, P2, P3, P4, P5, P6, P7, P8, P9, P10, P11, P12, P13, P14, L1, P15, N1, N2, N3, N4, N5, N6, N7, I1, I2, I3, I4, I5, I6, I7, reduceIte, reduceCtorEq, longM] at hq ⊢
  refine QIf.intro (fun c1 => ?_) (fun c1 => ?_)
  · simp only [PP, P1, P2, P3, P4, P5, P6, P7, P8, P9, P10, P11, P12, P13, P14, L1, P15, N1, N2, N3, N4, N5, N6, N7, I1, I2, I3, I4, I5, I6, I7, reduceIte, reduceCtorEq, c1] at hq ⊢
    exact hq
  simp only [PP, P1, P2, P3, P4, P5, P6, P7, P8, P9, P10, P11, P12, P13, P14, L1, P15, N1, N2, N3, N4, N5, N6, N7, I1, I2, I3, I4, I5, I6, I7, reduceIte, reduceCtorEq, c1] at hq ⊢
  refine QIf.intro (fun c2 => ?_) (fun c2 => ?_)
  · simp only [PP, P1, P2, P3, P4, P5, P6, P7, P8, P9, P10, P11, P12, P13, P14, L1, P15, N1, N2, N3, N4, N5, N6, N7, I1, I2, I3, I4, I5, I6, I7, reduceIte, reduceCtorEq, c2] at hq ⊢
    exact hq
  simp only [PP, P1, P2, P3, P4, P5, P6, P7, P8, P9, P10, P11, P12, P13, P14, L1, P15, N1, N2, N3, N4, N5, N6, N7, I1, I2, I3, I4, I5, I6, I7, reduceIte, reduceCtorEq, c2] at hq ⊢
  refine QIf.intro (fun c3 => ?_) (fun c3 => ?_)
  · simp only [PP, P1, P2, P3, P4, P5, P6, P7, P8, P9, P10, P11, P12, P13, P14, L1, P15, N1, N2, N3, N4, N5, N6, N7, I1, I2, I3, I4, I5, I6, I7, reduceIte, reduceCtorEq, c3] at hq ⊢
    exact hq
  simp only [PP, P1, P2, P3, P4, P5, P6, P7, P8, P9, P10, P11, P12, P13, P14, L1, P15, N1, N2, N3, N4, N5, N6, N7, I1, I2, I3, I4, I5, I6, I7, reduceIte, reduceCtorEq, c3] at hq ⊢
  refine loop1 (fun (k : Nat) => k ≤ su.length ∧ K (.bool (if anyLong (su.drop k) = true then true else anyLong ls)) M) (fun k => [.junk, slR f5 o5 f6 o6 .i64 ls, .ptr 0 0 0, .junk, .junk, p64 k, .junk, .junk, .junk, .junk, .junk, .junk, .junk, .junk, .junk, .junk, .junk, .junk, .junk, .junk, .junk, .junk, .junk, .junk, .junk, .junk, .junk, .junk, .junk, .junk, .junk, .junk, .junk, .junk, .junk, .junk, .junk, .junk, .junk, .junk, .junk, .junk, .junk, .junk, .junk, .junk, .junk, .junk, .junk]) (fun _ => [.cells 0 0 [slI f1 o1 .u8 ow, slI f2 o2 .i64 pr, slR f3 o3 f4 o4 .i64 su]]) (fun k => su.length - k) 0 ⟨by omega, hq⟩ (by simp only [PWeak_nil, PWeak_junk, PWeak_same, Int.cast_ofNat_Int, List.length_append, List.length_cons, List.length_nil, Nat.zero_add]) rfl ?_
  intro k ⟨hle, hq⟩ ih
  refine SemW_go (by kernel_rfl) ?_
  simp only [PP, P1, P2, P3, P4, P5, P6, P7, P8, P9, P10, P11, P12, P13, P14, L1, P15, N1, N2, N3, N4, N5, N6, N7, I1, I2, I3, I4, I5, I6, I7, reduceIte, reduceCtorEq]
  refine QIf.intro (fun c => ?_) (fun c => ?_)
  · have hk' : k < su.length := by omega
    have g1 : su[k]? = some su[k] := List.getElem?_eq_getElem hk'
    have h0 : (0 : Int) ≤ k := by omega
    have hw := wrap_succ (k := k) (by show k < 1000000000000; omega)
    rw [drop_get' hk'] at hq
    simp only [PP, P1, P2, P3, P4, P5, P6, P7, P8, P9, P10, P11, P12, P13, P14, L1, P15, N1, N2, N3, N4, N5, N6, N7, I1, I2, I3, I4, I5, I6, I7, reduceIte, reduceCtorEq, c, g1, h0, anyLong] at hq ⊢
    refine QIf.intro (fun h1 => ?_) (fun h1 => ?_)
    · simp only [PP, P1, P2, P3, P4, P5, P6, P7, P8, P9, P10, P11, P12, P13, P14, L1, P15, N1, N2, N3, N4, N5, N6, N7, I1, I2, I3, I4, I5, I6, I7, reduceIte, reduceCtorEq, h1] at hq ⊢
      exact hq
    simp only [PP, P1, P2, P3, P4, P5, P6, P7, P8, P9, P10, P11, P12, P13, P14, L1, P15, N1, N2, N3, N4, N5, N6, N7, I1, I2, I3, I4, I5, I6, I7, reduceIte, reduceCtorEq, h1, hw] at hq ⊢
    exact SemW_weak (ih (k + 1) ⟨by omega, hq⟩ (by omega)) (by simp only [PWeak_nil, PWeak_junk, PWeak_same, Int.cast_ofNat_Int, List.length_append, List.length_cons, List.length_nil, Nat.zero_add])
  · rw [List.drop_eq_nil_of_le (by omega)] at hq
    simp only [PP, P1, P2, P3, P4, P5, P6, P7, P8, P9, P10, P11, P12, P13, P14, L1, P15, N1, N2, N3, N4, N5, N6, N7, I1, I2, I3, I4, I5, I6, I7, reduceIte, reduceCtorEq, c, anyLong] at hq ⊢
    refine loop1 (fun (k : Nat) => k ≤ ls.length ∧ K (.bool (anyLong (ls.drop k))) M) (fun k => [.junk, slR f5 o5 f6 o6 .i64 ls, .junk, .junk, .junk, .junk, p64 k, .junk, .junk, .junk, .junk, .junk, .junk, .junk, .junk, .junk, .junk, .junk, .junk, .junk, .junk, .junk, .junk, .junk, .junk, .junk, .junk, .junk, .junk, .junk, .junk, .junk, .junk, .junk, .junk, .junk, .junk, .junk, .junk, .junk, .junk, .junk, .junk, .junk, .junk, .junk, .junk, .junk, .junk]) (fun _ => [.cells 0 0 [slI f1 o1 .u8 ow, slI f2 o2 .i64 pr, slR f3 o3 f4 o4 .i64 su]]) (fun k => ls.length - k) 0 ⟨by omega, hq⟩ (by simp only [PWeak_nil, PWeak_junk, PWeak_same, Int.cast_ofNat_Int, List.length_append, List.length_cons, List.length_nil, Nat.zero_add]) rfl ?_
    intro k ⟨hle, hq⟩ ih
    refine SemW_go (by kernel_rfl) ?_
    simp only [PP, P1, P2, P3, P4, P5, P6, P7, P8, P9, P10, P11, P12, P13, P14, L1, P15, N1, N2, N3, N4, N5, N6, N7, I1, I2, I3, I4, I5, I6, I7, reduceIte, reduceCtorEq]
    refine QIf.intro (fun c => ?_) (fun c => ?_)
    · have hk' : k < ls.length := by omega
      have g1 : ls[k]? = some ls[k] := List.getElem?_eq_getElem hk'
      have h0 : (0 : Int) ≤ k := by omega
      have hw := wrap_succ (k := k) (by omega)
      rw [drop_get' hk'] at hq
      simp only [PP, P1, P2, P3, P4, P5, P6, P7, P8, P9, P10, P11, P12, P13, P14, L1, P15, N1, N2, N3, N4, N5, N6, N7, I1, I2, I3, I4, I5, I6, I7, reduceIte, reduceCtorEq, c, g1, h0, anyLong] at hq ⊢
      refine QIf.intro (fun h1 => ?_) (fun h1 => ?_)
      · simp only [PP, P1, P2, P3, P4, P5, P6, P7, P8, P9, P10, P11, P12, P13, P14, L1, P15, N1, N2, N3, N4, N5, N6, N7, I1, I2, I3, I4, I5, I6, I7, reduceIte, reduceCtorEq, h1] at hq ⊢
        exact hq
      simp only [PP, P1, P2, P3, P4, P5, P6, P7, P8, P9, P10, P11, P12, P13, P14, L1, P15, N1, N2, N3, N4, N5, N6, N7, I1, I2, I3, I4, I5, I6, I7, reduceIte, reduceCtorEq, h1, hw] at hq ⊢
      exact SemW_weak (ih (k + 1) ⟨by omega, hq⟩ (by omega)) (by simp only [PWeak_nil, PWeak_junk, PWeak_same, Int.cast_ofNat_Int, List.length_append, List.length_cons, List.length_nil, Nat.zero_add])
    · rw [List.drop_eq_nil_of_le (by omega)] at hq
      simp only [PP, P1, P2, P3, P4, P5, P6, P7, P8, P9, P10, P11, P12, P13, P14, L1, P15, N1, N2, N3, N4, N5, N6, N7, I1, I2, I3, I4, I5, I6, I7, reduceIte, reduceCtorEq, c, anyLong] at hq ⊢
      exact hq
end
end Go.Am.Ar
set_option linter.unusedVariables false
set_option linter.unusedSimpArgs false
set_option maxRecDepth 10000
namespace Go.Am.Ar
open Go.Am renaming pchk → P1, pold → P2, PKNo → P3, ppack → P4, PObj.under → P5, pput → P6, ptset → P7, ptget → P8, pev → P9, ofAV → P10, ofAV1 → P11, ppad → P12, pfill → P13, prepl → P14, AO.effect → P15
open List renaming replicate → L1
open Nat renaming reduceAdd → N1, reduceSub → N2, reduceMul → N3, reduceLT → N4, reduceLeDiff → N5, reduceEqDiff → N6, reduceBEq → N7
open Int renaming reduceToNat → I1, reduceLT → I2, reduceLE → I3, reduceEq → I4, reduceAdd → I5, reduceSub → I6, reduceNeg → I7
abbrev gz : PV := .agg [.nils, .nils, .nils]
theorem checkLoop_row {ow pr : List Int} : ∀ {su : List (List Int)} {k : Nat}, checkLoop ow pr k su = 0 → ∀ (i : Nat) (hi : i < su.length), 0 ≤ pr.getD (k + i) 0 ∧ pr.getD (k + i) 0 ≤ 16 ∧ ow.getD (k + i) 0 ≤ 1 ∧ 0 < su[i].length ∧ posM ow.length (-1) su[i] = true
  | [], k, h, i, hi => by simp at hi
  | row :: su, k, h, i, hi => by
    unfold checkLoop at h
    split at h
    · simp at h
    · split at h
      · simp at h
      · split at h
        · simp at h
        · split at h
          · simp at h
          · split at h
            · simp at h
            · rename_i h1 h2 h3 h4 h5
              cases i with
              | zero => exact ⟨by simpa using h2, by simpa using h3, by simpa using h1, by simp only [List.getElem_cons_zero]; omega, by simpa using h5⟩
              | succ i =>
                have := checkLoop_row h i (by simpa using hi)
                simpa [Nat.add_assoc, Nat.add_comm 1 i] using this
structure Valid (ow pr : List Int) (su : List (List Int)) : Prop where
  n0 : 0 < ow.length
  n1 : ow.length ≤ 4096
  p : pr.length = ow.length
  s : su.length = ow.length
  row : ∀ (i : Nat) (hi : i < su.length), 0 ≤ pr.getD i 0 ∧ pr.getD i 0 ≤ 16 ∧ ow.getD i 0 ≤ 1 ∧ 0 < su[i].length ∧ posM ow.length (-1) su[i] = true
theorem valid_of {ow pr : List Int} {su : List (List Int)} (h : checkM ow pr su = 0) : Valid ow pr su := by
  obtain ⟨h1, h2, h3, h4, h5⟩ := checkM_len h
  exact ⟨h1, h2, h3, h4, fun i hi => by simpa using checkLoop_row h5 i hi⟩
theorem nodup_lenN : ∀ (n : Nat) (l : List Nat), l.Nodup → (∀ x ∈ l, x < n) → l.length ≤ n
  | 0, l, _, h => by
    cases l with
    | nil => simp
    | cons x l => have := h x (by simp); omega
  | n + 1, l, hd, h => by
    have := nodup_lenN n (l.filter fun x => x != n) (hd.filter _) (fun x hx => by
      rw [List.mem_filter] at hx
      have := h x hx.1
      have : x ≠ n := by simpa using hx.2
      omega)
    have h2 : l.length ≤ (l.filter fun x => x != n).length + 1 := by
      clear this h
      induction l with
      | nil => simp
      | cons x l ih =>
        rw [List.nodup_cons] at hd
        by_cases e : x = n
        · subst e
          have : l.filter (fun y => y != x) = l := by
            rw [List.filter_eq_self]
            intro y hy
            have : y ≠ x := fun q => hd.1 (q ▸ hy)
            simpa using this
          simp [this]
        · have := ih hd.2
          have hx : (x != n) = true := by simpa using e
          simp only [List.filter_cons, hx, if_true, List.length_cons]
          omega
    omega
theorem prem {k : IntKind} {x y : Int} (h : y ≠ 0) : pbin .rem (.int k x) (.int k y) = some (.int k (x.tmod y)) := by
  simp [pbin, toAV0, abin, ofAV1, h, isShift, binInt]
abbrev natI (l : List Nat) : List Int := l.map fun (v : Nat) => (v : Int)
theorem mem_natI {l : List Nat} {v : Nat} : (v : Int) ∈ natI l ↔ v ∈ l := by
  rw [List.mem_map]
  exact ⟨fun ⟨a, h1, h2⟩ => by rw [show v = a by omega]; exact h1, fun h => ⟨v, h, rfl⟩⟩
theorem posM_rise {n : Int} : ∀ {l : List Int} {last : Int}, posM n last l = true → l.Pairwise (· < ·) ∧ ∀ x ∈ l, last < x ∧ x < n
  | [], _, _ => ⟨.nil, fun x hx => by cases hx⟩
  | v :: l, last, h => by
    unfold posM at h
    split at h
    · simp at h
    · split at h
      · simp at h
      · obtain ⟨h1, h2⟩ := posM_rise h
        refine ⟨.cons (fun x hx => (h2 x hx).1) h1, fun x hx => ?_⟩
        rcases List.mem_cons.1 hx with rfl | hx
        · omega
        · have := h2 x hx; omega
theorem su_range {ow pr : List Int} {su : List (List Int)} (V : Valid ow pr su) {v : Nat} {u : Int} (hv : v < ow.length) (h : u ∈ su.getD v []) : 0 ≤ u ∧ u < ow.length := by
  have hvs : v < su.length := by have := V.s; omega
  obtain ⟨_, _, _, _, hp⟩ := V.row v hvs
  rw [List.getD, List.getElem?_eq_getElem hvs] at h
  have := (posM_rise hp).2 u h
  omega
theorem SemC_true {tab : FuncId → Option AF} {g : FuncId} (hg : tab g = some (.prim primTrue)) {M : Mem} {K : PV → Mem → Prop} (hk : K (.bool true) M) : SemC tab g [] M K := by
  intro w h args' h0 s ha
  have : args' = [] := List.length_eq_zero_iff.1 (by simpa using ha.len.symm)
  subst this
  unfold C
  refine ⟨.bool true, h, ?_, w, .bool true, M, PStp.refl (Nat.le_refl _) w h, s, .bool true, hk⟩
  rw [lim_call]
  simp only [acallF, hg, primTrue]
section
variable {tab : FuncId → Option AF} (T : HasA tab)
include T
theorem clone_p {M : Mem} {K : PV → Mem → Prop} {f o : Bool} {xs : List Int} (hm : xs.length < big) (hk : K (slI false true .i64 xs) M) :
    SemC tab 40 [slI f o .i64 xs] M K := by
  refine SemC_wk ?_
  refine SemC_pure T.h40 (by simp only [PP, P1, P2, P3, P4, P5, P6, P7, P8, P9, P10, P11, P12, P13, P14, L1, P15, N1, N2, N3, N4, N5, N6, N7, I1, I2, I3, I4, I5, I6, I7, reduceIte, reduceCtorEq]) ?_
  have hb : xs.length < 1000000000000 := hm
  have b1 : xs.length * 8 ≤ 140737488355328 := by omega
  have b2 : xs.length ≤ 9223372036854775807 := by omega
  simp only [af40, PP, P1, P2, P3, P4, P5, P6, P7, P8, P9, P10, P11, P12, P13, P14, L1, P15, N1, N2, N3, N4, N5, N6, N7, I1, I2, I3, I4, I5, I6, I7, reduceIte, reduceCtorEq]
  refine QIf.intro (fun c => ?_) (fun c => ?_)
  · have : xs = [] := List.length_eq_zero_iff.1 c
    subst this
    constructor
    · simp only [PP, P1, P2, P3, P4, P5, P6, P7, P8, P9, P10, P11, P12, P13, P14, L1, P15, N1, N2, N3, N4, N5, N6, N7, I1, I2, I3, I4, I5, I6, I7, reduceIte, reduceCtorEq]
      exact ⟨_, PvWk.nils _ _ _, hk⟩
    · simp only [PP, P1, P2, P3, P4, P5, P6, P7, P8, P9, P10, P11, P12, P13, P14, L1, P15, N1, N2, N3, N4, N5, N6, N7, I1, I2, I3, I4, I5, I6, I7, reduceIte, reduceCtorEq]
      exact ⟨_, PvWk.sl _ _ _ _, hk⟩
  · simp only [PP, P1, P2, P3, P4, P5, P6, P7, P8, P9, P10, P11, P12, P13, P14, L1, P15, N1, N2, N3, N4, N5, N6, N7, I1, I2, I3, I4, I5, I6, I7, reduceIte, reduceCtorEq, c, b1, b2]
    exact ⟨_, PvWk.refl _, hk⟩
end
end Go.Am.Ar
set_option linter.unusedVariables false
set_option linter.unusedSimpArgs false
set_option maxRecDepth 10000
namespace Go.Am.Ar
open Go.Am renaming pchk → P1, pold → P2, PKNo → P3, ppack → P4, PObj.under → P5, pput → P6, ptset → P7, ptget → P8, pev → P9, ofAV → P10, ofAV1 → P11, ppad → P12, pfill → P13, prepl → P14, AO.effect → P15
open List renaming replicate → L1
open Nat renaming reduceAdd → N1, reduceSub → N2, reduceMul → N3, reduceLT → N4, reduceLeDiff → N5, reduceEqDiff → N6, reduceBEq → N7
open Int renaming reduceToNat → I1, reduceLT → I2, reduceLE → I3, reduceEq → I4, reduceAdd → I5, reduceSub → I6, reduceNeg → I7
section
variable {tab : FuncId → Option AF} (T : HasA tab)
include T
theorem inSet_p {N : Mem} {K : PV → Mem → Prop} {b id g vb ver v : Nat} {l : List Nat} (hb : N[b]? = some (.cells 0 vb [.map id])) (hm : N[id]? = some (.map ver (mpB l))) (hk : K (.bool (decide (v ∈ l))) N) :
    SemC tab 21 [p64 v, .ptr b 0 0] N K := by
  refine SemC_fn T.h21 ?_
  simp only [af21, PP, P1, P2, P3, P4, P5, P6, P7, P8, P9, P10, P11, P12, P13, P14, L1, P15, N1, N2, N3, N4, N5, N6, N7, I1, I2, I3, I4, I5, I6, I7, reduceIte, reduceCtorEq, PS_makeMap, PS_lookup, PS_mapUpdate, ZMp_map, ZLook_map, ZMapU_map, plook_st, plook_sf, plook_nt, plook_nf, mpE_find, hb, hm, mpB_find]
  by_cases q : v ∈ l
  · rw [decide_eq_true q] at hk
    simp only [PP, P1, P2, P3, P4, P5, P6, P7, P8, P9, P10, P11, P12, P13, P14, L1, P15, N1, N2, N3, N4, N5, N6, N7, I1, I2, I3, I4, I5, I6, I7, reduceIte, reduceCtorEq, PS_makeMap, PS_lookup, PS_mapUpdate, ZMp_map, ZLook_map, ZMapU_map, plook_st, plook_sf, plook_nt, plook_nf, mpE_find, q]
    exact hk
  · rw [decide_eq_false q] at hk
    simp only [PP, P1, P2, P3, P4, P5, P6, P7, P8, P9, P10, P11, P12, P13, P14, L1, P15, N1, N2, N3, N4, N5, N6, N7, I1, I2, I3, I4, I5, I6, I7, reduceIte, reduceCtorEq, PS_makeMap, PS_lookup, PS_mapUpdate, ZMp_map, ZLook_map, ZMapU_map, plook_st, plook_sf, plook_nt, plook_nf, mpE_find, q]
    exact hk
theorem newPri_p {M : Mem} {K : PV → Mem → Prop} {f o : Bool} {out : List Int} {v : Nat} {x : Int} (g : out[v]? = some x) (hk : K (p64 x) M) :
    SemC tab 23 [p64 v, .cp [slI f o .i64 out] 0] M K := by
  have v0 : (0 : Int) ≤ v := by omega
  have vn : (v : Int) < out.length := by have := getSome_lt g; omega
  refine SemC_pure T.h23 (by simp only [PP, P1, P2, P3, P4, P5, P6, P7, P8, P9, P10, P11, P12, P13, P14, L1, P15, N1, N2, N3, N4, N5, N6, N7, I1, I2, I3, I4, I5, I6, I7, reduceIte, reduceCtorEq, PV.under]) ?_
  simp only [af23, PP, P1, P2, P3, P4, P5, P6, P7, P8, P9, P10, P11, P12, P13, P14, L1, P15, N1, N2, N3, N4, N5, N6, N7, I1, I2, I3, I4, I5, I6, I7, reduceIte, reduceCtorEq, v0, vn, g]
  exact hk
end
end Go.Am.Ar
set_option linter.unusedVariables false
set_option linter.unusedSimpArgs false
set_option maxRecDepth 10000
namespace Go.Am.Ar
open Go.Am renaming pchk → P1, pold → P2, PKNo → P3, ppack → P4, PObj.under → P5, pput → P6, ptset → P7, ptget → P8, pev → P9, ofAV → P10, ofAV1 → P11, ppad → P12, pfill → P13, prepl → P14, AO.effect → P15
open List renaming replicate → L1
open Nat renaming reduceAdd → N1, reduceSub → N2, reduceMul → N3, reduceLT → N4, reduceLeDiff → N5, reduceEqDiff → N6, reduceBEq → N7
open Int renaming reduceToNat → I1, reduceLT → I2, reduceLE → I3, reduceEq → I4, reduceAdd → I5, reduceSub → I6, reduceNeg → I7
def idxI (v : Int) : Nat → List Int → Int
  | _, [] => -1
  | k, x :: l => if v = x then (k : Int) else idxI v (k + 1) l
theorem idxI_spec (v : Int) : ∀ (l : List Int) (k : Nat), (v ∉ l ∧ idxI v k l = -1) ∨ ∃ i, l[i]? = some v ∧ v ∉ l.take i ∧ idxI v k l = ((k + i : Nat) : Int)
  | [], k => .inl ⟨by simp, rfl⟩
  | x :: l, k => by
    unfold idxI
    by_cases h : v = x
    · rw [if_pos h]; exact .inr ⟨0, by simp [h], by simp, rfl⟩
    · rw [if_neg h]
      rcases idxI_spec v l (k + 1) with ⟨h1, h2⟩ | ⟨i, h1, h2, h3⟩
      · exact .inl ⟨by simp [h, h1], h2⟩
      · refine .inr ⟨i + 1, by simpa using h1, by simp [h, h2], ?_⟩
        rw [h3]; congr 1; omega
def playL (st : List Int) : Nat → Int → List Int → List Int × List Int
  | 0, _, all => (all, [])
  | n + 1, v, all => if 0 ≤ idxI v 0 all then (all.take (idxI v 0 all).toNat, all.drop (idxI v 0 all).toNat) else playL st n (st.getD v.toNat 0) (all ++ [v])
section
variable {tab : FuncId → Option AF} (T : HasA tab)
include T
theorem index_p {M : Mem} {K : PV → Mem → Prop} {f o : Bool} {xs : List Int} {v : Int} (hm : xs.length < big) (hk : K (p64 (idxI v 0 xs)) M) :
    SemC tab 39 [slI f o .i64 xs, p64 v] M K := by
  refine SemC_pure T.h39 (by simp only [PP, P1, P2, P3, P4, P5, P6, P7, P8, P9, P10, P11, P12, P13, P14, L1, P15, N1, N2, N3, N4, N5, N6, N7, I1, I2, I3, I4, I5, I6, I7, reduceIte, reduceCtorEq]) ?_
  simp only [af39, PP, P1, P2, P3, P4, P5, P6, P7, P8, P9, P10, P11, P12, P13, P14, L1, P15, N1, N2, N3, N4, N5, N6, N7, I1, I2, I3, I4, I5, I6, I7, reduceIte, reduceCtorEq]
  refine loop1 (fun (k : Nat) => k ≤ xs.length ∧ K (p64 (idxI v k (xs.drop k))) M) (fun k => [slI f o .i64 xs, p64 v, .junk, .junk, .junk, .junk, .junk, p64 xs.length, p64 k, .junk, .junk, .junk, .junk, .junk, .junk, .junk, .junk, .junk, .junk]) (fun _ => []) (fun k => xs.length - k) 0 ⟨by omega, hk⟩ (by simp only [PWeak_nil, PWeak_junk, PWeak_same, Int.cast_ofNat_Int, List.length_append, List.length_cons, List.length_nil, Nat.zero_add]) rfl ?_
  intro k ⟨hle, hq⟩ ih
  refine SemW_go (by kernel_rfl) ?_
  simp only [PP, P1, P2, P3, P4, P5, P6, P7, P8, P9, P10, P11, P12, P13, P14, L1, P15, N1, N2, N3, N4, N5, N6, N7, I1, I2, I3, I4, I5, I6, I7, reduceIte, reduceCtorEq]
  refine QIf.intro (fun c => ?_) (fun c => ?_)
  · have hk' : k < xs.length := by omega
    obtain ⟨x, g⟩ := some_of hk'
    rw [drop_some g] at hq
    have hw := wrap_succ (k := k) (by omega)
    have h0 : (0 : Int) ≤ k := by omega
    simp only [PP, P1, P2, P3, P4, P5, P6, P7, P8, P9, P10, P11, P12, P13, P14, L1, P15, N1, N2, N3, N4, N5, N6, N7, I1, I2, I3, I4, I5, I6, I7, reduceIte, reduceCtorEq, idxI, c, g, h0] at hq ⊢
    refine QIf.intro (fun h1 => ?_) (fun h1 => ?_)
    · simp only [PP, P1, P2, P3, P4, P5, P6, P7, P8, P9, P10, P11, P12, P13, P14, L1, P15, N1, N2, N3, N4, N5, N6, N7, I1, I2, I3, I4, I5, I6, I7, reduceIte, reduceCtorEq, h1] at hq ⊢
      exact hq
    simp only [PP, P1, P2, P3, P4, P5, P6, P7, P8, P9, P10, P11, P12, P13, P14, L1, P15, N1, N2, N3, N4, N5, N6, N7, I1, I2, I3, I4, I5, I6, I7, reduceIte, reduceCtorEq, h1] at hq ⊢
    simp only [hw]
    exact SemW_weak (ih (k + 1) ⟨by omega, hq⟩ (by omega)) (by simp only [PWeak_nil, PWeak_junk, PWeak_same, Int.cast_ofNat_Int, List.length_append, List.length_cons, List.length_nil, Nat.zero_add])
  · rw [List.drop_eq_nil_of_le (by omega)] at hq
    simp only [PP, P1, P2, P3, P4, P5, P6, P7, P8, P9, P10, P11, P12, P13, P14, L1, P15, N1, N2, N3, N4, N5, N6, N7, I1, I2, I3, I4, I5, I6, I7, reduceIte, reduceCtorEq, c]
    exact hq
theorem clone_r {M : Mem} {K : PV → Mem → Prop} {id g ver off n : Nat} {xs : List Int} (hM : M[id]? = some (.cells g ver (xs.map (PV.int .i64)))) (hl : off + n ≤ xs.length) (hb : xs.length < big) (hc : M.all (cutOk M.length) = true)
    (hk : K (slI false true .i64 ((xs.drop off).take n)) M) : SemC tab 40 [.ref id g 1 off n] M K := by
  have hb' : xs.length < 1000000000000 := hb
  have b1 : n * 8 ≤ 140737488355328 := by omega
  have b2 : n ≤ 9223372036854775807 := by omega
  have hlt : (id == M.length) = false := beq_eq_false_iff_ne.2 (by have := getSome_lt hM; omega)
  have hps : psub (xs.map (PV.int .i64)) off n = ((xs.drop off).take n).map (PV.int .i64) := by simp [psub, List.map_drop, List.map_take]
  have hln : ((xs.drop off).take n).length = n := by rw [List.length_take, List.length_drop]; omega
  refine SemC_wk (SemC_gh (SemC_fn T.h40 ?_))
  simp only [af40, PP, P1, P2, P3, P4, P5, P6, P7, P8, P9, P10, P11, P12, P13, P14, L1, P15, N1, N2, N3, N4, N5, N6, N7, I1, I2, I3, I4, I5, I6, I7, reduceIte, reduceCtorEq, hM]
  refine QIf.intro (fun c => ?_) (fun c => ?_)
  · subst c
    constructor
    · simp only [PP, P1, P2, P3, P4, P5, P6, P7, P8, P9, P10, P11, P12, P13, P14, L1, P15, N1, N2, N3, N4, N5, N6, N7, I1, I2, I3, I4, I5, I6, I7, reduceIte, reduceCtorEq]
      exact Gh.same ⟨_, rfl, _, PvWk.nils _ _ _, hk⟩
    · simp only [PP, P1, P2, P3, P4, P5, P6, P7, P8, P9, P10, P11, P12, P13, P14, L1, P15, N1, N2, N3, N4, N5, N6, N7, I1, I2, I3, I4, I5, I6, I7, reduceIte, reduceCtorEq, hM, hl]
      exact ⟨by omega, Gh.same ⟨_, rfl, _, PvWk.sl _ _ _ _, by simpa [slI] using hk⟩⟩
  · simp only [PP, P1, P2, P3, P4, P5, P6, P7, P8, P9, P10, P11, P12, P13, P14, L1, P15, N1, N2, N3, N4, N5, N6, N7, I1, I2, I3, I4, I5, I6, I7, reduceIte, reduceCtorEq, c, hM, hl, b1, b2, List.length_map]
    rw [hps]
    exact ⟨all_one_ints _ _, Gh_ret hc hln ⟨_, PvWk.refl _, hk⟩⟩
end
end Go.Am.Ar
set_option linter.unusedVariables false
namespace Go.Am.Ar
def itr (f : Nat → Nat) (v : Nat) : Nat → Nat
  | 0 => v
  | j + 1 => f (itr f v j)
theorem itr_lt {f : Nat → Nat} {n v : Nat} (hf : ∀ v, v < n → f v < n) (hv : v < n) : ∀ j, itr f v j < n
  | 0 => hv
  | j + 1 => hf _ (itr_lt hf hv j)
def its (f : Nat → Nat) (v m : Nat) : List Nat := (List.range m).map (itr f v)
theorem its_len (f : Nat → Nat) (v m : Nat) : (its f v m).length = m := by simp [its]
theorem its_get {f : Nat → Nat} {v m j : Nat} (h : j < m) : (its f v m)[j]? = some (itr f v j) := by simp [its, h]
theorem its_succ (f : Nat → Nat) (v m : Nat) : its f v (m + 1) = its f v m ++ [itr f v m] := by simp [its, List.range_succ]
theorem its_mem {f : Nat → Nat} {v m x : Nat} : x ∈ its f v m ↔ ∃ j, j < m ∧ itr f v j = x := by simp [its]
theorem its_lt {f : Nat → Nat} {n v m : Nat} (hf : ∀ v, v < n → f v < n) (hv : v < n) : ∀ x ∈ its f v m, x < n := by
  intro x hx
  obtain ⟨j, _, rfl⟩ := its_mem.1 hx
  exact itr_lt hf hv j
structure IsPlay (f : Nat → Nat) (v n : Nat) (p l : List Int) (m k : Nat) : Prop where
  km : k < m
  mn : m ≤ n
  nd : (its f v m).Nodup
  back : itr f v m = itr f v k
  p : p = natI ((its f v m).take k)
  l : l = natI ((its f v m).drop k)
theorem natI_inj {l : List Nat} {i : Nat} {v : Nat} (h : (natI l)[i]? = some (v : Int)) : l[i]? = some v := by
  rw [List.getElem?_map] at h
  cases h1 : l[i]? with
  | none => rw [h1] at h; cases h
  | some a =>
    rw [h1] at h
    have : (a : Int) = v := by simpa using h
    rw [show a = v by omega]
theorem playL_spec {st : List Int} {f : Nat → Nat} {n v : Nat} (hst : ∀ v, v < n → st[v]? = some ((f v : Nat) : Int)) (hf : ∀ v, v < n → f v < n) (hv : v < n) :
    ∀ (fuel m : Nat), m + fuel = n + 1 → (its f v m).Nodup → ∃ m' k, m ≤ m' ∧ IsPlay f v n (playL st fuel (itr f v m : Nat) (natI (its f v m))).1 (playL st fuel (itr f v m : Nat) (natI (its f v m))).2 m' k
  | 0, m, hm, hnd => by
    have := nodup_lenN n _ hnd (its_lt hf hv)
    rw [its_len] at this
    omega
  | fuel + 1, m, hm, hnd => by
    have hlen := nodup_lenN n _ hnd (its_lt hf hv)
    rw [its_len] at hlen
    unfold playL
    rcases idxI_spec (itr f v m : Nat) (natI (its f v m)) 0 with ⟨h1, h2⟩ | ⟨i, h1, h2, h3⟩
    · rw [h2, if_neg (by omega)]
      have hn : itr f v m ∉ its f v m := fun h => h1 (mem_natI.2 h)
      have e1 : st.getD (itr f v m : Int).toNat 0 = ((itr f v (m + 1) : Nat) : Int) := by
        rw [Int.toNat_natCast, List.getD, hst _ (itr_lt hf hv m)]; rfl
      have e2 : natI (its f v m) ++ [((itr f v m : Nat) : Int)] = natI (its f v (m + 1)) := by rw [its_succ]; simp
      rw [e1, e2]
      have hnd' : (its f v (m + 1)).Nodup := by
        rw [its_succ, List.nodup_append]
        exact ⟨hnd, by simp, fun a ha b hb e => by rw [List.mem_singleton] at hb; subst hb; subst e; exact hn ha⟩
      obtain ⟨m', k, h4, h5⟩ := playL_spec hst hf hv fuel (m + 1) (by omega) hnd'
      exact ⟨m', k, by omega, h5⟩
    · rw [h3, if_pos (by omega)]
      have h1' := natI_inj h1
      have hi := getSome_lt h1'
      rw [its_len] at hi
      rw [its_get hi] at h1'
      refine ⟨m, i, Nat.le_refl _, hi, hlen, hnd, ?_, ?_, ?_⟩
      · simp only [Option.some.injEq] at h1'; exact h1'.symm
      · simp [natI, List.map_take]
      · simp [natI, List.map_drop]
theorem play_spec {st : List Int} {f : Nat → Nat} {n v : Nat} (hst : ∀ v, v < n → st[v]? = some ((f v : Nat) : Int)) (hf : ∀ v, v < n → f v < n) (hv : v < n) :
    ∃ m k, IsPlay f v n (playL st (n + 1) v []).1 (playL st (n + 1) v []).2 m k := by
  obtain ⟨m, k, _, h⟩ := playL_spec hst hf hv (n + 1) 0 (by omega) (by simp [its])
  exact ⟨m, k, h⟩
theorem IsPlay.len {f : Nat → Nat} {n v m k : Nat} {p l : List Int} (h : IsPlay f v n p l m k) : p.length = k ∧ l.length = m - k := by
  rw [h.p, h.l]
  simp [its_len]
  have := h.km
  omega
theorem IsPlay.mem {f : Nat → Nat} {n v m k : Nat} {p l : List Int} (h : IsPlay f v n p l m k) (hf : ∀ v, v < n → f v < n) (hv : v < n) : ∀ x ∈ l, 0 ≤ x ∧ x < n := by
  intro x hx
  rw [h.l] at hx
  obtain ⟨y, hy, rfl⟩ := List.mem_map.1 hx
  have := its_lt hf hv y (List.mem_of_mem_drop hy)
  omega
end Go.Am.Ar
set_option linter.unusedVariables false
namespace Go.Am.Ar
def CycIn (O : Nat → Int) (S : Nat → List Nat) (R : Nat → Int) (p : Int) (W : Nat → Prop) (s : Nat → Nat) : Prop :=
  ∀ (c : Nat → Nat) (k : Nat), 0 < k → (∀ i, c (i + k) = c i) → (∀ i, W (c i)) → (∀ i, c (i + 1) ∈ S (c i)) → (∀ i, O (c i) = p → c (i + 1) = s (c i)) → ∃ j, (∀ i, R (c i) ≤ R (c j)) ∧ R (c j) % 2 = p
structure SolIn (O : Nat → Int) (S : Nat → List Nat) (R : Nat → Int) (D : Nat → Prop) (p : Int) (W : Nat → Prop) (s : Nat → Nat) : Prop where
  sub : ∀ v, W v → D v
  own : ∀ v, W v → O v = p → s v ∈ S v ∧ W (s v)
  opp : ∀ v, W v → ¬ O v = p → ∀ u ∈ S v, D u → W u
  cyc : CycIn O S R p W s
structure AttIn (O : Nat → Int) (S : Nat → List Nat) (D : Nat → Prop) (p : Int) (X A : Nat → Prop) (s0 s : Nat → Nat) (r : Nat → Nat) : Prop where
  sub : ∀ v, A v → D v
  tgt : ∀ v, X v → A v
  own : ∀ v, A v → ¬ X v → O v = p → s v ∈ S v ∧ A (s v) ∧ r (s v) < r v
  opp : ∀ v, A v → ¬ X v → ¬ O v = p → ∀ u ∈ S v, D u → A u ∧ r u < r v
  same : ∀ v, ¬ A v ∨ X v → s v = s0 v
  clo : ∀ v, D v → ¬ A v → O v = p → ∀ u ∈ S v, ¬ A u
  clp : ∀ v, D v → ¬ A v → ¬ O v = p → ∃ u ∈ S v, D u ∧ ¬ A u
theorem per_mul {c : Nat → Nat} {k : Nat} (h : ∀ i, c (i + k) = c i) (i : Nat) : ∀ m, c (i + m * k) = c i
  | 0 => by simp
  | m + 1 => by rw [Nat.succ_mul, ← Nat.add_assoc, h, per_mul h i m]
theorem per_all {c : Nat → Nat} {k : Nat} (hk : 0 < k) (h : ∀ i, c (i + k) = c i) {P : Nat → Prop} (hs : ∀ i, P (c i) → P (c (i + 1))) {i0 : Nat} (h0 : P (c i0)) : ∀ i, P (c i) := by
  have fw : ∀ d, P (c (i0 + d)) := by
    intro d
    induction d with
    | zero => exact h0
    | succ d ih => exact hs _ ih
  intro i
  rw [← per_mul h i i0]
  have : i0 ≤ i0 * k := Nat.le_mul_of_pos_right _ hk
  obtain ⟨d, hd⟩ : ∃ d, i + i0 * k = i0 + d := ⟨i + i0 * k - i0, by omega⟩
  rw [hd]; exact fw d
theorem no_fall {c : Nat → Nat} {r : Nat → Nat} (h : ∀ i, r (c (i + 1)) < r (c i)) : False := by
  have : ∀ i, r (c i) + i ≤ r (c 0) := by
    intro i
    induction i with
    | zero => exact Nat.le_refl _
    | succ i ih => have := h i; omega
  have := this (r (c 0) + 1)
  omega
section
variable {O : Nat → Int} {S : Nat → List Nat} {R : Nat → Int} {D : Nat → Prop} {p q : Int}
theorem AttIn.tot {X A : Nat → Prop} {s0 s : Nat → Nat} {r : Nat → Nat} (a : AttIn O S D p X A s0 s r) (ht : ∀ v, D v → ∃ u ∈ S v, D u) : ∀ v, D v ∧ ¬ A v → ∃ u ∈ S v, D u ∧ ¬ A u := by
  intro v ⟨hv, hn⟩
  by_cases h : O v = p
  · obtain ⟨u, hu, hd⟩ := ht v hv
    exact ⟨u, hu, hd, a.clo v hv hn h u hu⟩
  · exact a.clp v hv hn h
theorem zk_one {X A : Nat → Prop} {s0 s1 s2 s3 : Nat → Nat} {r : Nat → Nat} {top : Int} (a : AttIn O S D p X A s0 s1 r) (hX : ∀ v, X v ↔ D v ∧ R v = top) (hm : ∀ v, D v → R v ≤ top) (hp : top % 2 = p)
    (sub : SolIn O S R (fun v => D v ∧ ¬ A v) p (fun v => D v ∧ ¬ A v) s2) (h2 : ∀ v, ¬ (D v ∧ ¬ A v) → s2 v = s1 v) (h3 : ∀ v, X v → O v = p → s3 v ∈ S v ∧ D (s3 v)) (h3' : ∀ v, ¬ X v → s3 v = s2 v) : SolIn O S R D p D s3 := by
  have own : ∀ v, D v → O v = p → s3 v ∈ S v ∧ D (s3 v) := by
    intro v hv ho
    by_cases hx : X v
    · exact h3 v hx ho
    · rw [h3' v hx]
      by_cases ha : A v
      · rw [h2 v (fun h => h.2 ha)]
        obtain ⟨q1, q2, _⟩ := a.own v ha hx ho
        exact ⟨q1, a.sub _ q2⟩
      · obtain ⟨q1, q2⟩ := sub.own v ⟨hv, ha⟩ ho
        exact ⟨q1, q2.1⟩
  refine ⟨fun _ h => h, own, fun v _ _ u _ h => h, fun c k hk hper hW hS hs => ?_⟩
  by_cases hx : ∃ i, X (c i)
  · obtain ⟨i, hi⟩ := hx
    have := (hX _).1 hi
    exact ⟨i, fun j => by rw [this.2]; exact hm _ (hW j), by rw [this.2]; exact hp⟩
  · have hx : ∀ i, ¬ X (c i) := fun i h => hx ⟨i, h⟩
    by_cases ha : ∃ i, A (c i)
    · exfalso
      obtain ⟨i, hi⟩ := ha
      have step : ∀ i, A (c i) → A (c (i + 1)) ∧ r (c (i + 1)) < r (c i) := fun i hi => by
        by_cases ho : O (c i) = p
        · rw [hs i ho, h3' _ (hx i), h2 _ (fun h => h.2 hi)]
          exact (a.own _ hi (hx i) ho).2
        · exact a.opp _ hi (hx i) ho _ (hS i) (hW _)
      have hall := per_all hk hper (P := A) (fun i h => (step i h).1) hi
      exact no_fall (c := c) (r := r) fun i => (step i (hall i)).2
    · have ha : ∀ i, ¬ A (c i) := fun i h => ha ⟨i, h⟩
      exact sub.cyc c k hk hper (fun i => ⟨hW i, ha i⟩) hS fun i ho => by rw [hs i ho, h3' _ (hx i)]
theorem zk_two {X A W L Wp Wq : Nat → Prop} {s0 s1 s2 s3 s4 : Nat → Nat} {r r2 : Nat → Nat} (hpq : p ≠ q) (hO : ∀ v, D v → O v = p ∨ O v = q) (a : AttIn O S D p X A s0 s1 r)
    (sub : SolIn O S R (fun v => D v ∧ ¬ A v) q W s2) (b : AttIn O S D q W L s2 s3 r2)
    (subp : SolIn O S R (fun v => D v ∧ ¬ L v) p Wp s4) (subq : SolIn O S R (fun v => D v ∧ ¬ L v) q Wq s4) (h4 : ∀ v, ¬ (D v ∧ ¬ L v) → s4 v = s3 v) :
    SolIn O S R D p Wp s4 ∧ SolIn O S R D q (fun v => Wq v ∨ L v) s4 := by
  have wclo : ∀ v, W v → ¬ O v = q → ∀ u ∈ S v, D u → W u := fun v hv ho u hu hd => by
    have hDA := sub.sub v hv
    have hp : O v = p := (hO v hDA.1).resolve_right ho
    exact sub.opp v hv ho u hu ⟨hd, a.clo v hDA.1 hDA.2 hp u hu⟩
  have lown : ∀ v, L v → O v = q → s4 v ∈ S v ∧ L (s4 v) := fun v hv ho => by
    rw [h4 v (fun h => h.2 hv)]
    by_cases hw : W v
    · rw [b.same v (.inr hw)]
      obtain ⟨q1, q2⟩ := sub.own v hw ho
      exact ⟨q1, b.tgt _ q2⟩
    · obtain ⟨q1, q2, _⟩ := b.own v hv hw ho
      exact ⟨q1, q2⟩
  have lopp : ∀ v, L v → ¬ O v = q → ∀ u ∈ S v, D u → L u := fun v hv ho u hu hd => by
    by_cases hw : W v
    · exact b.tgt _ (wclo v hw ho u hu hd)
    · exact (b.opp v hv hw ho u hu hd).1
  constructor
  · refine ⟨fun v h => (subp.sub v h).1, subp.own, fun v hv ho u hu hd => ?_, subp.cyc⟩
    have hDL := subp.sub v hv
    exact subp.opp v hv ho u hu ⟨hd, b.clo v hDL.1 hDL.2 ((hO v hDL.1).resolve_left ho) u hu⟩
  · have hsub : ∀ v, Wq v ∨ L v → D v := fun v h => h.elim (fun h => (subq.sub v h).1) (b.sub v)
    refine ⟨hsub, fun v hv ho => ?_, fun v hv ho u hu hd => ?_, fun c k hk hper hW hS hs => ?_⟩
    · rcases hv with hv | hv
      · obtain ⟨q1, q2⟩ := subq.own v hv ho
        exact ⟨q1, .inl q2⟩
      · obtain ⟨q1, q2⟩ := lown v hv ho
        exact ⟨q1, .inr q2⟩
    · rcases hv with hv | hv
      · by_cases hl : L u
        · exact .inr hl
        · exact .inl (subq.opp v hv ho u hu ⟨hd, hl⟩)
      · exact .inr (lopp v hv ho u hu hd)
    · by_cases hl : ∃ i, L (c i)
      · obtain ⟨i, hi⟩ := hl
        have hall := per_all hk hper (P := L) (fun i h => by
          by_cases ho : O (c i) = q
          · rw [hs i ho]; exact (lown _ h ho).2
          · exact lopp _ h ho _ (hS i) (hsub _ (hW _))) hi
        by_cases hw : ∃ i, W (c i)
        · obtain ⟨i, hi⟩ := hw
          have s42 : ∀ v, W v → s4 v = s2 v := fun v hv => by rw [h4 v (fun h => h.2 (b.tgt v hv)), b.same v (.inr hv)]
          have hallw := per_all hk hper (P := W) (fun i h => by
            by_cases ho : O (c i) = q
            · rw [hs i ho, s42 _ h]; exact (sub.own _ h ho).2
            · exact wclo _ h ho _ (hS i) (hsub _ (hW _))) hi
          exact sub.cyc c k hk hper hallw hS fun i ho => by rw [hs i ho, s42 _ (hallw i)]
        · exfalso
          have hw : ∀ i, ¬ W (c i) := fun i h => hw ⟨i, h⟩
          refine no_fall (c := c) (r := r2) fun i => ?_
          by_cases ho : O (c i) = q
          · rw [hs i ho, h4 _ (fun h => h.2 (hall i))]
            exact (b.own _ (hall i) (hw i) ho).2.2
          · exact (b.opp _ (hall i) (hw i) ho _ (hS i) (hsub _ (hW _))).2
      · have hl : ∀ i, ¬ L (c i) := fun i h => hl ⟨i, h⟩
        exact subq.cyc c k hk hper (fun i => (hW i).resolve_right (hl i)) hS hs
end
structure IsSol (n : Nat) (O : Nat → Int) (S : Nat → List Nat) (R : Nat → Int) (w : Nat → Int) (s : Nat → Nat) : Prop where
  r01 : ∀ v, v < n → w v = 0 ∨ w v = 1
  p0 : SolIn O S R (fun v => v < n) 0 (fun v => v < n ∧ w v = 0) s
  p1 : SolIn O S R (fun v => v < n) 1 (fun v => v < n ∧ w v = 1) s
theorem IsSol.of {n : Nat} {O : Nat → Int} {S : Nat → List Nat} {R : Nat → Int} {w : Nat → Int} {s : Nat → Nat} (h : IsSol n O S R w s) {p : Int} (hp : p = 0 ∨ p = 1) : SolIn O S R (fun v => v < n) p (fun v => v < n ∧ w v = p) s := by
  rcases hp with rfl | rfl
  · exact h.p0
  · exact h.p1
theorem itr_add (f : Nat → Nat) (v : Nat) : ∀ i j, itr f v (i + j) = itr f (itr f v i) j
  | i, 0 => rfl
  | i, j + 1 => by show f (itr f v (i + j)) = f _; rw [itr_add f v i j]
theorem itr_per {f : Nat → Nat} {v m k : Nat} (hk : k ≤ m) (h : itr f v m = itr f v k) (i : Nat) : itr f v (k + (i + (m - k))) = itr f v (k + i) := by
  rw [show k + (i + (m - k)) = m + i by omega, itr_add, itr_add, h]
theorem orbit {f : Nat → Nat} {n v : Nat} (hf : ∀ v, v < n → f v < n) (hv : v < n) : ∃ m k, k < m ∧ itr f v m = itr f v k := by
  obtain ⟨m, k, h⟩ := play_spec (st := (List.range n).map fun v => ((f v : Nat) : Int)) (f := f) (n := n) (v := v) (fun v hv => by simp [hv]) hf hv
  exact ⟨m, k, h.km, h.back⟩
theorem no_both {O O' : Nat → Int} {S S' : Nat → List Nat} {R R' : Nat → Int} {D D' W W' : Nat → Prop} {p q : Int} {s s' : Nat → Nat} {n : Nat} {ph : Nat → Nat} (a : SolIn O S R D p W s) (b : SolIn O' S' R' D' q W' s') (hpq : p ≠ q)
    (hn : ∀ v, W' v → v < n) (hR : ∀ v, W' v → R' v = R (ph v))
    (hst : ∀ u, W (ph u) → W' u → ∃ u', ph u' ∈ S (ph u) ∧ u' ∈ S' u ∧ D (ph u') ∧ D' u' ∧ (O (ph u) = p → ph u' = s (ph u)) ∧ (O' u = q → u' = s' u)) {v : Nat} (h1 : W (ph v)) (h2 : W' v) : False := by
  classical
  have hst' : ∀ u, ∃ u', W (ph u) → W' u → ph u' ∈ S (ph u) ∧ u' ∈ S' u ∧ D (ph u') ∧ D' u' ∧ (O (ph u) = p → ph u' = s (ph u)) ∧ (O' u = q → u' = s' u) := fun u => by
    by_cases h : W (ph u) ∧ W' u
    · obtain ⟨u', h'⟩ := hst u h.1 h.2
      exact ⟨u', fun _ _ => h'⟩
    · exact ⟨0, fun q1 q2 => absurd ⟨q1, q2⟩ h⟩
  let f : Nat → Nat := fun u => Classical.choose (hst' u)
  have hf : ∀ u, W (ph u) → W' u → ph (f u) ∈ S (ph u) ∧ f u ∈ S' u ∧ D (ph (f u)) ∧ D' (f u) ∧ (O (ph u) = p → ph (f u) = s (ph u)) ∧ (O' u = q → f u = s' u) := fun u => Classical.choose_spec (hst' u)
  have inv : ∀ i, W (ph (itr f v i)) ∧ W' (itr f v i) := by
    intro i
    induction i with
    | zero => exact ⟨h1, h2⟩
    | succ i ih =>
      obtain ⟨q1, q2, q3, q4, q5, q6⟩ := hf _ ih.1 ih.2
      constructor
      · show W (ph (f _))
        by_cases ho : O (ph (itr f v i)) = p
        · rw [q5 ho]; exact (a.own _ ih.1 ho).2
        · exact a.opp _ ih.1 ho _ q1 q3
      · show W' (f _)
        by_cases ho : O' (itr f v i) = q
        · rw [q6 ho]; exact (b.own _ ih.2 ho).2
        · exact b.opp _ ih.2 ho _ q2 q4
  -- the orbit is a cycle in the end
  let f' : Nat → Nat := fun u => if W (ph u) ∧ W' u then f u else u
  have ff : ∀ i, itr f' v i = itr f v i := by
    intro i
    induction i with
    | zero => rfl
    | succ i ih => show f' _ = f _; rw [ih]; show (if _ then _ else _) = _; rw [if_pos (inv i)]
  have hf' : ∀ u, u < n → f' u < n := fun u hu => by
    show (if _ then _ else _) < n
    split
    · rename_i h
      obtain ⟨q1, q2, q3, q4, q5, q6⟩ := hf u h.1 h.2
      have : W' (f u) := by
        by_cases ho : O' u = q
        · rw [q6 ho]; exact (b.own _ h.2 ho).2
        · exact b.opp _ h.2 ho _ q2 q4
      exact hn _ this
    · exact hu
  obtain ⟨m, k, hkm, hback⟩ := orbit hf' (hn v h2)
  rw [ff, ff] at hback
  have hper := itr_per (by omega) hback
  obtain ⟨j, j1, j2⟩ := a.cyc (fun i => ph (itr f v (k + i))) (m - k) (by omega) (fun i => by show ph _ = ph _; rw [hper i]) (fun i => (inv _).1) (fun i => (hf _ (inv (k + i)).1 (inv (k + i)).2).1) (fun i => (hf _ (inv (k + i)).1 (inv (k + i)).2).2.2.2.2.1)
  obtain ⟨j', j3, j4⟩ := b.cyc (fun i => itr f v (k + i)) (m - k) (by omega) hper (fun i => (inv _).2) (fun i => (hf _ (inv (k + i)).1 (inv (k + i)).2).2.1) (fun i => (hf _ (inv (k + i)).1 (inv (k + i)).2).2.2.2.2.2)
  have e1 := j1 j'
  have e2 := j3 j
  rw [hR _ (inv _).2, hR _ (inv _).2] at e2
  rw [hR _ (inv _).2] at j4
  apply hpq
  rw [← j2, ← j4]
  congr 1
  omega
theorem IsSol.unique {n : Nat} {O : Nat → Int} {S : Nat → List Nat} {R : Nat → Int} {w w' : Nat → Int} {s s' : Nat → Nat} (hO : ∀ v, v < n → O v = 0 ∨ O v = 1) (hS : ∀ v, v < n → ∀ u ∈ S v, u < n) (h : IsSol n O S R w s) (h' : IsSol n O S R w' s') : ∀ v, v < n → w v = w' v := by
  have key : ∀ (p q : Int), (p = 0 ∨ p = 1) → (q = 0 ∨ q = 1) → p ≠ q → ∀ v, v < n → w v = p → w' v = q → False := by
    intro p q hp hq hpq v hv h1 h2
    refine no_both (h.of hp) (h'.of hq) hpq (n := n) (ph := id) (fun v h => h.1) (fun v _ => rfl) (fun u hu hu' => ?_) (v := v) ⟨hv, h1⟩ ⟨hv, h2⟩
    simp only [id] at hu ⊢
    by_cases ho : O u = p
    · obtain ⟨q1, q2⟩ := (h.of hp).own u hu ho
      exact ⟨s u, q1, q1, q2.1, q2.1, fun _ => rfl, fun e => absurd (ho.symm.trans e) hpq⟩
    · have hoq : O u = q := by have := hO u hu.1; omega
      obtain ⟨q1, q2⟩ := (h'.of hq).own u hu' hoq
      exact ⟨s' u, q1, q1, q2.1, q2.1, fun e => absurd e ho, fun _ => rfl⟩
  intro v hv
  have h1 := h.r01 v hv
  have h2 := h'.r01 v hv
  rcases h1 with e1 | e1 <;> rcases h2 with e2 | e2
  · rw [e1, e2]
  · exact (key 0 1 (.inl rfl) (.inr rfl) (by omega) v hv e1 e2).elim
  · exact (key 1 0 (.inr rfl) (.inl rfl) (by omega) v hv e1 e2).elim
  · rw [e1, e2]
end Go.Am.Ar
set_option linter.unusedVariables false
namespace Go.Am.Ar
def CycP (S : Nat → List Nat) (X : Nat → Prop) (R R' : Nat → Int) : Prop :=
  ∀ (c : Nat → Nat) (k : Nat), 0 < k → (∀ i, c (i + k) = c i) → (∀ i, X (c i)) → (∀ i, c (i + 1) ∈ S (c i)) → ∃ j j', (∀ i, R (c i) ≤ R (c j)) ∧ (∀ i, R' (c i) ≤ R' (c j')) ∧ R (c j) % 2 = R' (c j') % 2
structure RSpec (S : Nat → List Nat) (R : Nat → Int) (X : Nat → Prop) (out : Nat → Int) (most : Int) : Prop where
  nn : ∀ v, X v → 0 ≤ out v ∧ out v ≤ most
  m0 : 0 ≤ most
  up : ∀ b, 0 ≤ b → (∀ v, X v → R v ≤ b) → most ≤ b
  cyc : CycP S X R out
section
variable {S : Nat → List Nat} {R out out' : Nat → Int} {X : Nat → Prop} {most : Int}
theorem RSpec.congr (h : RSpec S R X out most) (e : ∀ v, X v → out' v = out v) : RSpec S R X out' most := by
  refine ⟨fun v hv => by rw [e v hv]; exact h.nn v hv, h.m0, h.up, fun c k hk hp hX hS => ?_⟩
  obtain ⟨j, j', h1, h2, h3⟩ := h.cyc c k hk hp hX hS
  exact ⟨j, j', h1, fun i => by rw [e _ (hX i), e _ (hX j')]; exact h2 i, by rw [e _ (hX j')]; exact h3⟩
theorem RSpec.none (h : ∀ v, ¬ X v) : RSpec S R X out 0 :=
  ⟨fun v hv => absurd hv (h v), Int.le_refl _, fun b hb _ => hb, fun c k hk hp hX hS => absurd (hX 0) (h _)⟩
theorem RSpec.part {m k0 : Int} (hm0 : 0 ≤ m) (hm : ∀ v, X v → R v ≤ m) (hex : ∃ v, X v ∧ R v = m) (h : RSpec S R (fun v => X v ∧ R v < m) out k0) (ho : ∀ v, X v → ¬ R v < m → out v = k0 + (k0 + m) % 2) : RSpec S R X out (k0 + (k0 + m) % 2) := by
  have h0 := h.m0
  refine ⟨fun v hv => ?_, by omega, fun b hb hall => ?_, fun c k hk hp hX hS => ?_⟩
  · by_cases q : R v < m
    · have := h.nn v ⟨hv, q⟩; omega
    · have := ho v hv q; omega
  · obtain ⟨v, hv, e⟩ := hex
    have h1 := hall v hv
    have h2 := h.up (max 0 (m - 1)) (by omega) (fun u hu => by have := hu.2; omega)
    omega
  · by_cases q : ∃ i, ¬ R (c i) < m
    · obtain ⟨i, q⟩ := q
      have e1 := hm _ (hX i)
      have e2 := ho _ (hX i) q
      refine ⟨i, i, fun j => ?_, fun j => ?_, ?_⟩
      · have := hm _ (hX j); omega
      · by_cases r : R (c j) < m
        · have := h.nn _ ⟨hX j, r⟩; omega
        · have := ho _ (hX j) r; omega
      · rw [e2]; omega
    · have q : ∀ i, R (c i) < m := fun i => Classical.byContradiction fun z => q ⟨i, z⟩
      exact h.cyc c k hk hp (fun i => ⟨hX i, q i⟩) hS
theorem RSpec.join {r : Nat} {P : Nat → Nat → Prop} {ks : Nat → Int} (h : ∀ i, i < r → RSpec S R (P i) out (ks i)) (hsub : ∀ i, i < r → ∀ v, P i v → X v) (hz : ∀ v, X v → (∃ i, i < r ∧ P i v) ∨ out v = 0)
    (hc : ∀ (c : Nat → Nat) (k : Nat), 0 < k → (∀ i, c (i + k) = c i) → (∀ i, X (c i)) → (∀ i, c (i + 1) ∈ S (c i)) → ∃ i, i < r ∧ ∀ j, P i (c j))
    (h0 : 0 ≤ most) (hge : ∀ i, i < r → ks i ≤ most) (hle : most = 0 ∨ ∃ i, i < r ∧ most = ks i) : RSpec S R X out most := by
  refine ⟨fun v hv => ?_, h0, fun b hb hall => ?_, fun c k hk hp hX hS => ?_⟩
  · rcases hz v hv with ⟨i, hi, hp⟩ | e
    · have h1 := (h i hi).nn v hp
      have h2 := hge i hi
      omega
    · omega
  · rcases hle with e | ⟨i, hi, e⟩
    · omega
    · rw [e]; exact (h i hi).up b hb fun v hv => hall v (hsub i hi v hv)
  · obtain ⟨i, hi, hall⟩ := hc c k hk hp hX hS
    exact (h i hi).cyc c k hk hp hall hS
end
theorem CycP.sub {S S' : Nat → List Nat} {X : Nat → Prop} {R R' : Nat → Int} (h : CycP S' X R R') (hs : ∀ v, X v → ∀ u ∈ S v, u ∈ S' v) : CycP S X R R' :=
  fun c k hk hp hX hS => h c k hk hp hX fun i => hs _ (hX i) _ (hS i)
theorem RSpec.sub {S S' : Nat → List Nat} {R out : Nat → Int} {X : Nat → Prop} {most : Int} (h : RSpec S' R X out most) (hs : ∀ v, X v → ∀ u ∈ S v, u ∈ S' v) : RSpec S R X out most := ⟨h.nn, h.m0, h.up, h.cyc.sub hs⟩
theorem IsSol.reduce {n : Nat} {O : Nat → Int} {S : Nat → List Nat} {R R' : Nat → Int} {w : Nat → Int} {s : Nat → Nat} (h : IsSol n O S R w s) (hc : CycP S (fun v => v < n) R R') : IsSol n O S R' w s := by
  have key : ∀ {p : Int} {W : Nat → Prop}, SolIn O S R (fun v => v < n) p W s → SolIn O S R' (fun v => v < n) p W s := fun {p W} a =>
    ⟨a.sub, a.own, a.opp, fun c k hk hp hW hS hs => by
      obtain ⟨j, h1, h2⟩ := a.cyc c k hk hp hW hS hs
      obtain ⟨i, i', g1, g2, g3⟩ := hc c k hk hp (fun i => a.sub _ (hW i)) hS
      refine ⟨i', g2, ?_⟩
      rw [← g3]
      have := h1 i
      have := g1 j
      rw [show R (c i) = R (c j) by omega]
      exact h2⟩
  exact ⟨h.r01, key h.p0, key h.p1⟩
end Go.Am.Ar
set_option linter.unusedVariables false
namespace Go.Am.Ar
def bm (L : List Bool) (v : Nat) : Prop := L[v]? = some true
instance (L : List Bool) (v : Nat) : Decidable (bm L v) := by unfold bm; infer_instance
def stN (st : List Int) (v : Nat) : Nat := (st.getD v 0).toNat
theorem bm_lt {L : List Bool} {v : Nat} (h : bm L v) : v < L.length := getSome_lt h
theorem bm_of {L : List Bool} {v : Nat} {b : Bool} (h : L[v]? = some b) : bm L v ↔ b = true := by
  unfold bm; rw [h]; simp
theorem bm_set {L : List Bool} {v w : Nat} (hv : v < L.length) : bm (L.set v true) w ↔ w = v ∨ bm L w := by
  unfold bm
  by_cases e : w = v
  · subst e; simp [hv]
  · rw [List.getElem?_set_ne (by omega)]; simp [e]
theorem stN_set {st : List Int} {v w : Nat} {x : Int} (hv : v < st.length) : stN (st.set v x) w = if w = v then x.toNat else stN st w := by
  unfold stN
  rw [List.getD, List.getD]
  by_cases e : w = v
  · subst e; simp [hv]
  · rw [List.getElem?_set_ne (by omega), if_neg e]
theorem count_add {L : List Bool} {v : Nat} (h : L[v]? = some false) : (L.set v true).count true = L.count true + 1 := by
  have hv := getSome_lt h
  rw [List.getElem?_eq_getElem hv] at h
  have h : L[v] = false := by simpa using h
  rw [List.count_set hv, h]
  simp
structure AJ (O : Nat → Int) (S : Nat → List Nat) (D X : Nat → Prop) (p : Int) (s0 : Nat → Nat) (n : Nat) (out : List Bool) (st : List Int) (r : Nat → Nat) (c : Nat) : Prop where
  lo : out.length = n
  ls : st.length = n
  nn : ∀ x ∈ st, 0 ≤ x
  sub : ∀ v, bm out v → D v
  tgt : ∀ v, X v → bm out v
  own : ∀ v, bm out v → ¬ X v → O v = p → stN st v ∈ S v ∧ bm out (stN st v) ∧ r (stN st v) < r v
  opp : ∀ v, bm out v → ¬ X v → ¬ O v = p → ∀ u ∈ S v, D u → bm out u ∧ r u < r v
  same : ∀ v, ¬ bm out v ∨ X v → stN st v = s0 v
  rk : ∀ v, bm out v → r v < c
def Stab (O : Nat → Int) (S : Nat → List Nat) (D : Nat → Prop) (p : Int) (out : List Bool) (v : Nat) : Prop :=
  D v → ¬ bm out v → (O v = p → ∀ u ∈ S v, ¬ bm out u) ∧ (¬ O v = p → ∃ u ∈ S v, D u ∧ ¬ bm out u)
section
variable {O : Nat → Int} {S : Nat → List Nat} {D X : Nat → Prop} {p : Int} {s0 : Nat → Nat} {n : Nat} {out : List Bool} {st : List Int} {r : Nat → Nat} {c : Nat}
theorem AJ.start {tgt : List Bool} {st : List Int} (h1 : tgt.length = n) (h2 : st.length = n) (h3 : ∀ x ∈ st, 0 ≤ x) (h4 : ∀ v, bm tgt v → D v) : AJ O S D (bm tgt) p (stN st) n tgt st (fun _ => 0) 1 :=
  ⟨h1, h2, h3, h4, fun v h => h, fun v h q => absurd h q, fun v h q => absurd h q, fun v _ => rfl, fun v _ => by omega⟩
theorem AJ.addOwn (j : AJ O S D X p s0 n out st r c) {v : Nat} {x : Int} (hv : v < n) (hn : ¬ bm out v) (hd : D v) (ho : O v = p) (hx : 0 ≤ x) (h1 : x.toNat ∈ S v) (h2 : bm out x.toNat) :
    AJ O S D X p s0 n (out.set v true) (st.set v x) (fun w => if w = v then c else r w) (c + 1) := by
  have hvo : v < out.length := by rw [j.lo]; exact hv
  have hvs : v < st.length := by rw [j.ls]; exact hv
  have hxv : x.toNat ≠ v := fun e => hn (e ▸ h2)
  have hXv : ¬ X v := fun h => hn (j.tgt v h)
  refine ⟨by simp [j.lo], by simp [j.ls], fun y hy => ?_, fun w hw => ?_, fun w hw => (bm_set hvo).2 (.inr (j.tgt w hw)), fun w hw hxw how => ?_, fun w hw hxw how u hu hdu => ?_, fun w hw => ?_, fun w hw => ?_⟩
  · rcases List.mem_or_eq_of_mem_set hy with h | h
    · exact j.nn y h
    · subst h; exact hx
  · rcases (bm_set hvo).1 hw with h | h
    · subst h; exact hd
    · exact j.sub w h
  · rw [stN_set hvs]
    by_cases e : w = v
    · subst e
      simp only [if_true]
      exact ⟨h1, (bm_set hvo).2 (.inr h2), by simp only [if_neg hxv]; exact j.rk _ h2⟩
    · have hb := ((bm_set hvo).1 hw).resolve_left e
      obtain ⟨q1, q2, q3⟩ := j.own w hb hxw how
      have e2 : stN st w ≠ v := fun e => hn (e ▸ q2)
      simp only [if_neg e, if_neg e2]
      exact ⟨q1, (bm_set hvo).2 (.inr q2), q3⟩
  · have e : w ≠ v := by rintro rfl; exact how ho
    have hb := ((bm_set hvo).1 hw).resolve_left e
    obtain ⟨q1, q2⟩ := j.opp w hb hxw how u hu hdu
    have e2 : u ≠ v := fun e => hn (e ▸ q1)
    simp only [if_neg e, if_neg e2]
    exact ⟨(bm_set hvo).2 (.inr q1), q2⟩
  · have e : w ≠ v := by
      rintro rfl
      rcases hw with h | h
      · exact h ((bm_set hvo).2 (.inl rfl))
      · exact hXv h
    rw [stN_set hvs, if_neg e]
    exact j.same w (hw.imp (fun h q => h ((bm_set hvo).2 (.inr q))) id)
  · rcases (bm_set hvo).1 hw with h | h
    · subst h; simp
    · have := j.rk w h
      by_cases e : w = v
      · simp [e]
      · simp only [if_neg e]; omega
theorem AJ.addOpp (j : AJ O S D X p s0 n out st r c) {v : Nat} (hv : v < n) (hn : ¬ bm out v) (hd : D v) (ho : ¬ O v = p) (h1 : ∀ u ∈ S v, D u → bm out u) :
    AJ O S D X p s0 n (out.set v true) st (fun w => if w = v then c else r w) (c + 1) := by
  have hvo : v < out.length := by rw [j.lo]; exact hv
  have hXv : ¬ X v := fun h => hn (j.tgt v h)
  refine ⟨by simp [j.lo], j.ls, j.nn, fun w hw => ?_, fun w hw => (bm_set hvo).2 (.inr (j.tgt w hw)), fun w hw hxw how => ?_, fun w hw hxw how u hu hdu => ?_, fun w hw => ?_, fun w hw => ?_⟩
  · rcases (bm_set hvo).1 hw with h | h
    · subst h; exact hd
    · exact j.sub w h
  · have e : w ≠ v := by rintro rfl; exact ho how
    have hb := ((bm_set hvo).1 hw).resolve_left e
    obtain ⟨q1, q2, q3⟩ := j.own w hb hxw how
    have e2 : stN st w ≠ v := fun e => hn (e ▸ q2)
    simp only [if_neg e, if_neg e2]
    exact ⟨q1, (bm_set hvo).2 (.inr q2), q3⟩
  · by_cases e : w = v
    · subst e
      have q1 := h1 u hu hdu
      have e2 : u ≠ w := fun e => hn (e ▸ q1)
      simp only [if_true, if_neg e2]
      exact ⟨(bm_set hvo).2 (.inr q1), j.rk u q1⟩
    · have hb := ((bm_set hvo).1 hw).resolve_left e
      obtain ⟨q1, q2⟩ := j.opp w hb hxw how u hu hdu
      have e2 : u ≠ v := fun e => hn (e ▸ q1)
      simp only [if_neg e, if_neg e2]
      exact ⟨(bm_set hvo).2 (.inr q1), q2⟩
  · exact j.same w (hw.imp (fun h q => h ((bm_set hvo).2 (.inr q))) id)
  · rcases (bm_set hvo).1 hw with h | h
    · subst h; simp
    · have := j.rk w h
      by_cases e : w = v
      · simp [e]
      · simp only [if_neg e]; omega
theorem AJ.fin (j : AJ O S D X p s0 n out st r c) (hD : ∀ v, D v → v < n) (h : ∀ v, v < n → Stab O S D p out v) : AttIn O S D p X (bm out) s0 (stN st) r :=
  ⟨j.sub, j.tgt, j.own, j.opp, j.same, fun v hd hn ho => (h v (hD v hd) hd hn).1 ho, fun v hd hn ho => (h v (hD v hd) hd hn).2 ho⟩
end
end Go.Am.Ar

