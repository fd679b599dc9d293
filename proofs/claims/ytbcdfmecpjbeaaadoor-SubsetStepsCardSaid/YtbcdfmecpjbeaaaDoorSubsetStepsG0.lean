/- Contracts of the small functions that games are checked with, and what goes with it. -/
import Derived.Test.YtbcdfmecpjbeaaaDoorSubsetStepsCode
import Derived.Test.YtbcdfmecpjbeaaaDoorPmR
import Derived.Test.YtbcdfmecpjbeaaaDoorPmC
set_option linter.unusedVariables false
set_option linter.unusedSimpArgs false
set_option maxRecDepth 10000
namespace Go.Am.Ar
open Go.Am renaming pchk → P1, pold → P2, PKNo → P3, ppack → P4, PObj.under → P5, pput → P6, ptset → P7, ptget → P8, pev → P9, ofAV → P10, ofAV1 → P11, ppad → P12, pfill → P13, prepl → P14, AO.effect → P15
open List renaming replicate → L1
open Nat renaming reduceAdd → N1, reduceSub → N2, reduceMul → N3, reduceLT → N4, reduceLeDiff → N5, reduceEqDiff → N6, reduceBEq → N7
open Int renaming reduceToNat → I1, reduceLT → I2, reduceLE → I3, reduceEq → I4, reduceAdd → I5, reduceSub → I6, reduceNeg → I7
abbrev big : Nat := 1000000000000
theorem wrap_succ {k : Nat} (h : k < big) : IntKind.i64.wrap ((k : Int) + 1) = ((k + 1 : Nat) : Int) := by
  have h : k < 1000000000000 := h
  rw [wrap64 (by omega) (by omega)]; omega
theorem drop_get' {α : Type} {xs : List α} {k : Nat} (h : k < xs.length) : xs.drop k = xs[k] :: xs.drop (k + 1) := List.drop_eq_getElem_cons h
theorem some_of {α : Type} {xs : List α} {k : Nat} (h : k < xs.length) : ∃ x, xs[k]? = some x := ⟨xs[k], List.getElem?_eq_getElem h⟩
theorem drop_some {α : Type} {xs : List α} {k : Nat} {x : α} (h : xs[k]? = some x) : xs.drop k = x :: xs.drop (k + 1) := by
  have hk := getSome_lt h
  rw [List.drop_eq_getElem_cons hk]
  rw [List.getElem?_eq_getElem hk] at h
  cases h; rfl
theorem getD_some {xs : List Int} {k : Nat} {x : Int} (h : xs[k]? = some x) : xs.getD k 0 = x := by simp [List.getD, h]
section
variable {tab : FuncId → Option AF} (T : HasA tab)
include T
end
end Go.Am.Ar
set_option linter.unusedVariables false
set_option linter.unusedSimpArgs false
set_option maxRecDepth 10000
namespace Go.Am.Ar
open Go.Am renaming pchk → P1, pold → P2, PKNo → P3, ppack → P4, PObj.under → P5, pput → P6, ptset → P7, ptget → P8, pev → P9, ofAV → P10, ofAV1 → P11, ppad → P12, pfill → P13, prepl → P14, AO.effect → P15
open List renaming replicate → L1
open Nat renaming reduceAdd → N1, reduceSub → N2, reduceMul → N3, reduceLT → N4, reduceLeDiff → N5, reduceEqDiff → N6, reduceBEq → N7
open Int renaming reduceToNat → I1, reduceLT → I2, reduceLE → I3, reduceEq → I4, reduceAdd → I5, reduceSub → I6, reduceNeg → I7
section
variable {tab : FuncId → Option AF} (T : HasA tab)
include T
theorem copyInts_p {M : Mem} {K : PV → Mem → Prop} {f o : Bool} {xs : List Int} (hm : xs.length < big) (hk : K (slI false true .i64 xs) M) :
    SemC tab 59 [slI f o .i64 xs] M K := by
  refine SemC_pure T.h59 (by simp only [PP, P1, P2, P3, P4, P5, P6, P7, P8, P9, P10, P11, P12, P13, P14, L1, P15, N1, N2, N3, N4, N5, N6, N7, I1, I2, I3, I4, I5, I6, I7, reduceIte, reduceCtorEq]) ?_
  have hb : xs.length < 1000000000000 := hm
  have b1 : xs.length * 8 ≤ 140737488355328 := by omega
  have b2 : xs.length ≤ 9223372036854775807 := by omega
  simp only [af59, PP, P1, P2, P3, P4, P5, P6, P7, P8, P9, P10, P11, P12, P13, P14, L1, P15, N1, N2, N3, N4, N5, N6, N7, I1, I2, I3, I4, I5, I6, I7, reduceIte, reduceCtorEq, b1, b2]
  exact hk
theorem copyRows_p {M : Mem} {K : PV → Mem → Prop} {f o g1 g2 : Bool} {su : List (List Int)} (hm : su.length < big) (hr : ∀ r ∈ su, r.length < big) (hk : K (slR false true false true .i64 su) M) :
    SemC tab 47 [slR f o g1 g2 .i64 su] M K := by
  refine SemC_pure T.h47 (by simp only [PP, P1, P2, P3, P4, P5, P6, P7, P8, P9, P10, P11, P12, P13, P14, L1, P15, N1, N2, N3, N4, N5, N6, N7, I1, I2, I3, I4, I5, I6, I7, reduceIte, reduceCtorEq]) ?_
  simp only [af47, PP, P1, P2, P3, P4, P5, P6, P7, P8, P9, P10, P11, P12, P13, P14, L1, P15, N1, N2, N3, N4, N5, N6, N7, I1, I2, I3, I4, I5, I6, I7, reduceIte, reduceCtorEq]
  refine SemW_re (GStep.nil 3 1 rfl rfl rfl) ?_
  refine loop3 (fun (k g : Nat) (acc : List (List Int)) => k ≤ su.length ∧ acc = su.take k) (fun k g acc => [slR f o g1 g2 .i64 su, .junk, .junk, .ref 0 g 1 0 acc.length, p64 k, .junk, .junk, .junk, .junk, .junk, .junk, .junk, .junk, .junk, .junk, .junk, .junk, .junk, .junk, .junk]) (fun k g acc => [.cells g 0 (acc.map (slI false true .i64))]) (fun k _ _ => su.length - k) 0 0 [] ⟨by omega, by simp⟩ (by simp only [ptset, PP, P1, P2, P3, P4, P5, P6, P7, P8, P9, P10, P11, P12, P13, P14, L1, P15, N1, N2, N3, N4, N5, N6, N7, I1, I2, I3, I4, I5, I6, I7, reduceIte, reduceCtorEq, PW]) rfl ?_
  intro k g acc ⟨hle, hacc⟩ ih
  refine SemW_go (by kernel_rfl) ?_
  simp only [PP, P1, P2, P3, P4, P5, P6, P7, P8, P9, P10, P11, P12, P13, P14, L1, P15, N1, N2, N3, N4, N5, N6, N7, I1, I2, I3, I4, I5, I6, I7, reduceIte, reduceCtorEq]
  refine QIf.intro (fun c => ?_) (fun c => ?_)
  · have hk' : k < su.length := by omega
    have hw := wrap_succ (k := k) (by omega)
    have q1 : su[k]? = some su[k] := List.getElem?_eq_getElem hk'
    have h0 : (0 : Int) ≤ k := by omega
    simp only [PP, P1, P2, P3, P4, P5, P6, P7, P8, P9, P10, P11, P12, P13, P14, L1, P15, N1, N2, N3, N4, N5, N6, N7, I1, I2, I3, I4, I5, I6, I7, reduceIte, reduceCtorEq, c, q1, h0]
    refine copyInts_p T (hr _ (List.getElem_mem hk')) ?_
    have hl : acc.length = k := by rw [hacc]; simp; omega
    have hb : su.length < 1000000000000 := hm
    have b1 : (acc.length + 1) * 24 ≤ 140737488355328 := by omega
    have b2 : acc.length + 1 ≤ 9223372036854775807 := by omega
    simp only [PP, P1, P2, P3, P4, P5, P6, P7, P8, P9, P10, P11, P12, P13, P14, L1, P15, N1, N2, N3, N4, N5, N6, N7, I1, I2, I3, I4, I5, I6, I7, reduceIte, reduceCtorEq, b1, b2, hw]
    refine SemW_to (ih (k + 1) (g + 1) (acc ++ [su[k]]) ⟨by omega, ?_⟩ (by omega)) (by simp only [PW]) (by simp only [List.map_append, List.map_cons, List.map_nil])
    rw [hacc, List.take_add_one]; simp [hk']
  · have : acc = su := by rw [hacc]; exact List.take_of_length_le (by omega)
    subst this
    simp only [PP, P1, P2, P3, P4, P5, P6, P7, P8, P9, P10, P11, P12, P13, P14, L1, P15, N1, N2, N3, N4, N5, N6, N7, I1, I2, I3, I4, I5, I6, I7, reduceIte, reduceCtorEq, c]
    exact hk
end
end Go.Am.Ar
set_option linter.unusedVariables false
set_option linter.unusedSimpArgs false
set_option maxRecDepth 10000
namespace Go.Am.Ar
open Go.Am renaming pchk → P1, pold → P2, PKNo → P3, ppack → P4, PObj.under → P5, pput → P6, ptset → P7, ptget → P8, pev → P9, ofAV → P10, ofAV1 → P11, ppad → P12, pfill → P13, prepl → P14, AO.effect → P15
open List renaming replicate → L1
open Nat renaming reduceAdd → N1, reduceSub → N2, reduceMul → N3, reduceLT → N4, reduceLeDiff → N5, reduceEqDiff → N6, reduceBEq → N7
open Int renaming reduceToNat → I1, reduceLT → I2, reduceLE → I3, reduceEq → I4, reduceAdd → I5, reduceSub → I6, reduceNeg → I7
section
variable {tab : FuncId → Option AF} (T : HasA tab)
include T
end
end Go.Am.Ar
set_option linter.unusedVariables false
set_option linter.unusedSimpArgs false
set_option maxRecDepth 10000
namespace Go.Am.Ar
open Go.Am renaming pchk → P1, pold → P2, PKNo → P3, ppack → P4, PObj.under → P5, pput → P6, ptset → P7, ptget → P8, pev → P9, ofAV → P10, ofAV1 → P11, ppad → P12, pfill → P13, prepl → P14, AO.effect → P15
open List renaming replicate → L1
open Nat renaming reduceAdd → N1, reduceSub → N2, reduceMul → N3, reduceLT → N4, reduceLeDiff → N5, reduceEqDiff → N6, reduceBEq → N7
open Int renaming reduceToNat → I1, reduceLT → I2, reduceLE → I3, reduceEq → I4, reduceAdd → I5, reduceSub → I6, reduceNeg → I7
def maxFrom : Int → List Int → Int
  | m, [] => m
  | m, x :: l => maxFrom (max m x) l
section
variable {tab : FuncId → Option AF} (T : HasA tab)
include T
theorem max_p {M : Mem} {K : PV → Mem → Prop} {f o : Bool} {x : Int} {xs : List Int} (hm : (x :: xs).length < big) (hq : K (p64 (maxFrom x xs)) M) :
    SemC tab 54 [slI f o .i64 (x :: xs)] M K := by
  refine SemC_pure T.h54 (by simp only [PP, P1, P2, P3, P4, P5, P6, P7, P8, P9, P10, P11, P12, P13, P14, L1, P15, N1, N2, N3, N4, N5, N6, N7, I1, I2, I3, I4, I5, I6, I7, reduceIte, reduceCtorEq]) ?_
  have c1 : ¬ ((xs.length + 1 : Nat) : Int) < 1 := by omega
  have c2 : (0 : Int) < ((xs.length + 1 : Nat) : Int) := by omega
  simp only [af54, PP, P1, P2, P3, P4, P5, P6, P7, P8, P9, P10, P11, P12, P13, P14, L1, P15, N1, N2, N3, N4, N5, N6, N7, I1, I2, I3, I4, I5, I6, I7, reduceIte, reduceCtorEq, c1, c2]
  have hm' : xs.length + 1 < 1000000000000 := hm
  refine loop2 (fun (k : Nat) (m : Int) => k ≤ xs.length ∧ K (p64 (maxFrom m (xs.drop k))) M) (fun k m => [slI f o .i64 (x :: xs), .junk, .junk, p64 m, p64 ((k + 1 : Nat) : Int), .junk, .junk, .junk, .junk, .junk, .junk, .junk, .junk, .junk, .junk, .junk, .junk, .junk, .junk, .junk, .junk, .junk, .junk, .junk, .junk]) (fun _ _ => []) (fun k _ => xs.length - k) 0 x ⟨by omega, hq⟩ (by simp only [PW]) rfl ?_
  intro k m ⟨hle, hq⟩ ih
  refine SemW_go (by kernel_rfl) ?_
  simp only [PP, P1, P2, P3, P4, P5, P6, P7, P8, P9, P10, P11, P12, P13, P14, L1, P15, N1, N2, N3, N4, N5, N6, N7, I1, I2, I3, I4, I5, I6, I7, reduceIte, reduceCtorEq]
  refine QIf.intro (fun c => ?_) (fun c => ?_)
  · have hk' : k < xs.length := by omega
    have g1 : xs[k]? = some xs[k] := List.getElem?_eq_getElem hk'
    have h0 : (0 : Int) ≤ ((k + 1 : Nat) : Int) := by omega
    have hw := wrap_succ (k := k + 1) (by show _ < 1000000000000; omega)
    rw [drop_get' hk'] at hq
    simp only [PP, P1, P2, P3, P4, P5, P6, P7, P8, P9, P10, P11, P12, P13, P14, L1, P15, N1, N2, N3, N4, N5, N6, N7, I1, I2, I3, I4, I5, I6, I7, reduceIte, reduceCtorEq, c, g1, h0, hw, maxFrom] at hq ⊢
    exact SemW_weak (ih (k + 1) _ ⟨by omega, hq⟩ (by omega)) (by simp only [PW])
  · rw [List.drop_eq_nil_of_le (by omega)] at hq
    simp only [PP, P1, P2, P3, P4, P5, P6, P7, P8, P9, P10, P11, P12, P13, P14, L1, P15, N1, N2, N3, N4, N5, N6, N7, I1, I2, I3, I4, I5, I6, I7, reduceIte, reduceCtorEq, c, maxFrom] at hq ⊢
    exact hq
end
end Go.Am.Ar
set_option linter.unusedVariables false
set_option linter.unusedSimpArgs false
set_option maxRecDepth 10000
namespace Go.Am.Ar
open Go.Am renaming pchk → P1, pold → P2, PKNo → P3, ppack → P4, PObj.under → P5, pput → P6, ptset → P7, ptget → P8, pev → P9, ofAV → P10, ofAV1 → P11, ppad → P12, pfill → P13, prepl → P14, AO.effect → P15
open List renaming replicate → L1
open Nat renaming reduceAdd → N1, reduceSub → N2, reduceMul → N3, reduceLT → N4, reduceLeDiff → N5, reduceEqDiff → N6, reduceBEq → N7
open Int renaming reduceToNat → I1, reduceLT → I2, reduceLE → I3, reduceEq → I4, reduceAdd → I5, reduceSub → I6, reduceNeg → I7
theorem SemC_true {tab : FuncId → Option AF} {g : FuncId} (hg : tab g = some (.prim primTrue)) {M : Mem} {K : PV → Mem → Prop} (hk : K (.bool true) M) : SemC tab g [] M K := by
  intro w h args' h0 s ha
  have : args' = [] := List.length_eq_zero_iff.1 (by simpa using ha.len.symm)
  subst this
  unfold C
  refine ⟨.bool true, h, ?_, w, .bool true, M, PStp.refl (Nat.le_refl _) w h, s, .bool true, hk⟩
  rw [lim_call]
  simp only [acallF, hg, primTrue]
section
variable {tab : FuncId → Option AF} (T : HasA tab)
include T
end
end Go.Am.Ar
set_option linter.unusedVariables false
set_option linter.unusedSimpArgs false
set_option maxRecDepth 10000
namespace Go.Am.Ar
structure Eg where
  fr : Int
  to : Int
  ps : Int
  ng : Int
  deriving DecidableEq, Inhabited
end Go.Am.Ar
set_option linter.unusedVariables false
set_option linter.unusedSimpArgs false
set_option maxRecDepth 10000
namespace Go.Am.Ar
open Go.Am renaming pchk → P1, pold → P2, PKNo → P3, ppack → P4, PObj.under → P5, pput → P6, ptset → P7, ptget → P8, pev → P9, ofAV → P10, ofAV1 → P11, ppad → P12, pfill → P13, prepl → P14, AO.effect → P15
open List renaming replicate → L1
open Nat renaming reduceAdd → N1, reduceSub → N2, reduceMul → N3, reduceLT → N4, reduceLeDiff → N5, reduceEqDiff → N6, reduceBEq → N7
open Int renaming reduceToNat → I1, reduceLT → I2, reduceLE → I3, reduceEq → I4, reduceAdd → I5, reduceSub → I6, reduceNeg → I7
structure NF where
  vs : Int
  n : Int
  st : List Int
  fi : List Int
  es : List Eg
section
variable {tab : FuncId → Option AF} (T : HasA tab)
include T
end
end Go.Am.Ar
set_option linter.unusedVariables false
set_option linter.unusedSimpArgs false
set_option maxRecDepth 10000
namespace Go.Am.Ar
open Go.Am renaming pchk → P1, pold → P2, PKNo → P3, ppack → P4, PObj.under → P5, pput → P6, ptset → P7, ptget → P8, pev → P9, ofAV → P10, ofAV1 → P11, ppad → P12, pfill → P13, prepl → P14, AO.effect → P15
open List renaming replicate → L1
open Nat renaming reduceAdd → N1, reduceSub → N2, reduceMul → N3, reduceLT → N4, reduceLeDiff → N5, reduceEqDiff → N6, reduceBEq → N7
open Int renaming reduceToNat → I1, reduceLT → I2, reduceLE → I3, reduceEq → I4, reduceAdd → I5, reduceSub → I6, reduceNeg → I7
section
variable (M l : Mem) (i : Nat) (x : PObj)
theorem gk : (M ++ l)[M.length + i]? = l[i]? := by rw [List.getElem?_append_right (by omega)]; congr 1; omega
theorem sk : (M ++ l).set (M.length + i) x = M ++ l.set i x := by rw [List.set_append_right _ _ (by omega)]; congr 2; omega
end
theorem pmin_two (k : IntKind) (a b : Int) : pminV (.int k a) [.int k b] = some (.int k (min a b)) := by
  simp [pminV, toAV0, toAVs, foldO, amin2, ofAV1]
  by_cases h : b < a
  · rw [if_pos h]; omega
  · rw [if_neg h]; omega
section
variable {tab : FuncId → Option AF} (T : HasA tab)
include T
end
end Go.Am.Ar
set_option linter.unusedVariables false
namespace Go.Am.Ar
end Go.Am.Ar
set_option linter.unusedVariables false
set_option linter.unusedSimpArgs false
set_option maxRecDepth 10000
namespace Go.Am.Ar
open Go.Am renaming pchk → P1, pold → P2, PKNo → P3, ppack → P4, PObj.under → P5, pput → P6, ptset → P7, ptget → P8, pev → P9, ofAV → P10, ofAV1 → P11, ppad → P12, pfill → P13, prepl → P14, AO.effect → P15
open List renaming replicate → L1
open Nat renaming reduceAdd → N1, reduceSub → N2, reduceMul → N3, reduceLT → N4, reduceLeDiff → N5, reduceEqDiff → N6, reduceBEq → N7
open Int renaming reduceToNat → I1, reduceLT → I2, reduceLE → I3, reduceEq → I4, reduceAdd → I5, reduceSub → I6, reduceNeg → I7
section
variable {tab : FuncId → Option AF} (T : HasA tab)
include T
end
end Go.Am.Ar

