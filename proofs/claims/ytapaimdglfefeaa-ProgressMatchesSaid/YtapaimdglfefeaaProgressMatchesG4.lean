/- Contracts: sizes of games, and measures copied and compared, and what goes with it. -/
import Derived.Test.YtapaimdglfefeaaProgressMatchesG3
import Derived.Test.YtapaimdglfefeaaProgressMatchesG0
set_option linter.unusedVariables false
set_option linter.unusedSimpArgs false
set_option maxRecDepth 10000
namespace Go.Am.Ar
open Go.Am renaming pchk → P1, pold → P2, PKNo → P3, ppack → P4, PObj.under → P5, pput → P6, ptset → P7, ptget → P8, pev → P9, ofAV → P10, ofAV1 → P11, ppad → P12, pfill → P13, prepl → P14, AO.effect → P15
open List renaming replicate → L1
open Nat renaming reduceAdd → N1, reduceSub → N2, reduceMul → N3, reduceLT → N4, reduceLeDiff → N5, reduceEqDiff → N6, reduceBEq → N7
open Int renaming reduceToNat → I1, reduceLT → I2, reduceLE → I3, reduceEq → I4, reduceAdd → I5, reduceSub → I6, reduceNeg → I7
theorem SemC_argsN {tab : FuncId → Option AF} {g : FuncId} {args args2 : List PV} {M : Mem} {K : PV → Mem → Prop} (h : ∀ w l, RepL w args l → RepL w args2 l) (hc : SemC tab g args2 M K) : SemC tab g args M K :=
  fun w hh args' h0 s ha => hc w hh args' h0 s (h w args' ha)
section
variable {tab : FuncId → Option AF} (T : HasA tab)
include T
theorem size_p {M : Mem} {K : PV → Mem → Prop} {f1 o1 f2 o2 f3 o3 f4 o4 : Bool} {ow pr : List Int} {su : List (List Int)} (P : PrOk pr) (hk : ∀ s : Int, (s ≤ 600 → mT (limL pr) ≤ 600) → K (p64 s) M) :
    SemC tab 33 [gmP f1 o1 f2 o2 f3 o3 f4 o4 ow pr su, p64 600] M K := by
  have h8 := limL_len pr
  refine SemC_pure T.h33 (by simp only [PP, P1, P2, P3, P4, P5, P6, P7, P8, P9, P10, P11, P12, P13, P14, L1, P15, N1, N2, N3, N4, N5, N6, N7, I1, I2, I3, I4, I5, I6, I7, reduceIte, reduceCtorEq, msC_len, msC_one, msC_und, under_slM, msC_0, psub_msC, pover_msC, z9, z9t, msL_len, msL_und, msL_one, prepl_ms, limC_len, limC_one, limC_und, limC_len0, pfrzL_msC, pfrzL_limC, psub_limC, pover_limC, z8, pcells_cp, one_cp, solC_und, solC_0, solC_1, solC_2, PV.under]) ?_
  simp only [af33, PP, P1, P2, P3, P4, P5, P6, P7, P8, P9, P10, P11, P12, P13, P14, L1, P15, N1, N2, N3, N4, N5, N6, N7, I1, I2, I3, I4, I5, I6, I7, reduceIte, reduceCtorEq, msC_len, msC_one, msC_und, under_slM, msC_0, psub_msC, pover_msC, z9, z9t, msL_len, msL_und, msL_one, prepl_ms, limC_len, limC_one, limC_und, limC_len0, pfrzL_msC, pfrzL_limC, psub_limC, pover_limC, z8, pcells_cp, one_cp, solC_und, solC_0, solC_1, solC_2]
  refine limits_p T P ?_
  simp only [PP, P1, P2, P3, P4, P5, P6, P7, P8, P9, P10, P11, P12, P13, P14, L1, P15, N1, N2, N3, N4, N5, N6, N7, I1, I2, I3, I4, I5, I6, I7, reduceIte, reduceCtorEq, msC_len, msC_one, msC_und, under_slM, msC_0, psub_msC, pover_msC, z9, z9t, msL_len, msL_und, msL_one, prepl_ms, limC_len, limC_one, limC_und, limC_len0, pfrzL_msC, pfrzL_limC, psub_limC, pover_limC, z8, pcells_cp, one_cp, solC_und, solC_0, solC_1, solC_2]
  refine loop1 (fun (k : Nat) => k ≤ 8 ∧ mB (limL pr) k ≤ 600 * 1000000000001) (fun k => [.junk, p64 600, .junk, .junk, .junk, .ptr 1 0 0, p64 ((mB (limL pr) k : Nat) : Int), p64 k, .junk, .junk, .junk, .junk, .junk, .junk, .junk, .junk, .junk, .junk, .junk, .junk, .junk, .junk, .junk, .junk, .junk, .junk])
    (fun k => [.cells 0 0 [slI f1 o1 .u8 ow, slI f2 o2 .i64 pr, slR f3 o3 f4 o4 .i64 su], .cells 0 1 (limC (limL pr))]) (fun k => 8 - k) 0 ⟨by omega, by show 1 ≤ _; omega⟩ (by simp only [PWeak_nil, PWeak_junk, PWeak_same, Int.cast_ofNat_Int, show mB (limL pr) 0 = 1 from rfl]) rfl ?_
  intro k ⟨hle, hb⟩ ih
  refine SemW_go (by kernel_rfl) ?_
  simp only [PP, P1, P2, P3, P4, P5, P6, P7, P8, P9, P10, P11, P12, P13, P14, L1, P15, N1, N2, N3, N4, N5, N6, N7, I1, I2, I3, I4, I5, I6, I7, reduceIte, reduceCtorEq]
  refine QIf.intro (fun c => ?_) (fun c => ?_)
  · simp only [PP, P1, P2, P3, P4, P5, P6, P7, P8, P9, P10, P11, P12, P13, P14, L1, P15, N1, N2, N3, N4, N5, N6, N7, I1, I2, I3, I4, I5, I6, I7, reduceIte, reduceCtorEq, c]
    refine QIf.intro (fun d => ?_) (fun d => ?_)
    · have hk8 : k < 8 := by omega
      have k0 : (0 : Int) ≤ k := by omega
      have k8 : (k : Int) < 8 := by omega
      have hwk := wrap_succ (k := k) (by show _ < 1000000000000; omega)
      have gn := limL_at pr hk8
      have hn := limL_lt P.1 _ (List.mem_of_getElem? gn)
      have hs := mB_succ gn
      have g2 := limC_at gn
      generalize pr.count ((2 * k + 1 : Nat) : Int) = n at gn hn hs g2
      have hw1 := wrap_succ (k := n) (by show _ < 1000000000000; omega)
      have hmul : mB (limL pr) k * (n + 1) ≤ 600 * 1000000000001 := Nat.mul_le_mul (by omega) (by omega)
      have hw2 : IntKind.i64.wrap ((mB (limL pr) k : Nat) * ((n + 1 : Nat) : Int)) = ((mB (limL pr) (k + 1) : Nat) : Int) := by
        rw [hs, ← Int.natCast_mul]
        exact wrap64 (by omega) (by omega)
      simp only [PP, P1, P2, P3, P4, P5, P6, P7, P8, P9, P10, P11, P12, P13, P14, L1, P15, N1, N2, N3, N4, N5, N6, N7, I1, I2, I3, I4, I5, I6, I7, reduceIte, reduceCtorEq, msC_len, msC_one, msC_und, under_slM, msC_0, psub_msC, pover_msC, z9, z9t, msL_len, msL_und, msL_one, prepl_ms, limC_len, limC_one, limC_und, limC_len0, pfrzL_msC, pfrzL_limC, psub_limC, pover_limC, z8, pcells_cp, one_cp, solC_und, solC_0, solC_1, solC_2, c, d, k0, k8, g2, hw1, hw2, hwk]
      exact SemW_weak (ih (k + 1) ⟨hk8, by rw [hs]; exact hmul⟩ (by omega)) (by simp only [PWeak_nil, PWeak_junk, PWeak_same, Int.cast_ofNat_Int, List.length_append, List.length_cons, List.length_nil, Nat.zero_add])
    · simp only [PP, P1, P2, P3, P4, P5, P6, P7, P8, P9, P10, P11, P12, P13, P14, L1, P15, N1, N2, N3, N4, N5, N6, N7, I1, I2, I3, I4, I5, I6, I7, reduceIte, reduceCtorEq, c, d]
      exact hk _ fun h => absurd h d
  · have hk8 : k = 8 := by omega
    subst hk8
    simp only [PP, P1, P2, P3, P4, P5, P6, P7, P8, P9, P10, P11, P12, P13, P14, L1, P15, N1, N2, N3, N4, N5, N6, N7, I1, I2, I3, I4, I5, I6, I7, reduceIte, reduceCtorEq]
    refine hk _ fun h => ?_
    rw [mT_split _ 8, List.drop_of_length_le (by omega)]
    simp only [mT]; omega
theorem long31_p {M : Mem} {K : PV → Mem → Prop} {f1 o1 f2 o2 f3 o3 f4 o4 : Bool} {ow pr : List Int} {su : List (List Int)}
    (hk : ∀ b : Bool, (b = false → longM ow pr su [] = false ∧ ow.length ≤ 12 ∧ (checkM ow pr su = 0 → mT (limL pr) ≤ 600)) → K (.bool b) M) :
    SemC tab 9 [gmP f1 o1 f2 o2 f3 o3 f4 o4 ow pr su] M K := by
  refine SemC_pure T.h9 (by simp only [PP, P1, P2, P3, P4, P5, P6, P7, P8, P9, P10, P11, P12, P13, P14, L1, P15, N1, N2, N3, N4, N5, N6, N7, I1, I2, I3, I4, I5, I6, I7, reduceIte, reduceCtorEq]) ?_
  simp only [af9, PP, P1, P2, P3, P4, P5, P6, P7, P8, P9, P10, P11, P12, P13, P14, L1, P15, N1, N2, N3, N4, N5, N6, N7, I1, I2, I3, I4, I5, I6, I7, reduceIte, reduceCtorEq]
  refine SemC_argsN (args2 := [gmP f1 o1 f2 o2 f3 o3 f4 o4 ow pr su, slR false false false false .i64 []]) (fun w l h => by
    match l, h with
    | [a, b], h => exact .cons h.hd (.cons (PvWk.nils false false 1 w b h.tl.hd) (.nil w))
    | [], h => exact absurd h.len (by simp)
    | [_], h => exact absurd h.len (by simp)
    | _ :: _ :: _ :: _, h => exact absurd h.len (by simp)) (long_p T (ls := []) (by show 0 < 1000000000000; omega) ?_)
  cases hl : longM ow pr su [] with
  | true =>
    simp only [PP, P1, P2, P3, P4, P5, P6, P7, P8, P9, P10, P11, P12, P13, P14, L1, P15, N1, N2, N3, N4, N5, N6, N7, I1, I2, I3, I4, I5, I6, I7, reduceIte, reduceCtorEq]
    exact hk true fun h => by cases h
  | false =>
    have B := (longM_false hl).bnd
    simp only [PP, P1, P2, P3, P4, P5, P6, P7, P8, P9, P10, P11, P12, P13, P14, L1, P15, N1, N2, N3, N4, N5, N6, N7, I1, I2, I3, I4, I5, I6, I7, reduceIte, reduceCtorEq]
    refine QIf.intro (fun c => ?_) (fun c => ?_)
    · simp only [PP, P1, P2, P3, P4, P5, P6, P7, P8, P9, P10, P11, P12, P13, P14, L1, P15, N1, N2, N3, N4, N5, N6, N7, I1, I2, I3, I4, I5, I6, I7, reduceIte, reduceCtorEq, c]
      exact hk true fun h => by cases h
    · simp only [PP, P1, P2, P3, P4, P5, P6, P7, P8, P9, P10, P11, P12, P13, P14, L1, P15, N1, N2, N3, N4, N5, N6, N7, I1, I2, I3, I4, I5, I6, I7, reduceIte, reduceCtorEq, c]
      refine refCheck_p T B ?_
      simp only [PP, P1, P2, P3, P4, P5, P6, P7, P8, P9, P10, P11, P12, P13, P14, L1, P15, N1, N2, N3, N4, N5, N6, N7, I1, I2, I3, I4, I5, I6, I7, reduceIte, reduceCtorEq]
      by_cases d : checkM ow pr su = 0
      · simp only [PP, P1, P2, P3, P4, P5, P6, P7, P8, P9, P10, P11, P12, P13, P14, L1, P15, N1, N2, N3, N4, N5, N6, N7, I1, I2, I3, I4, I5, I6, I7, reduceIte, reduceCtorEq, d]
        refine size_p T (valid_pr (valid_of d)) (fun s hs => ?_)
        simp only [PP, P1, P2, P3, P4, P5, P6, P7, P8, P9, P10, P11, P12, P13, P14, L1, P15, N1, N2, N3, N4, N5, N6, N7, I1, I2, I3, I4, I5, I6, I7, reduceIte, reduceCtorEq]
        exact hk _ fun h => ⟨hl, by omega, fun _ => hs (by have := of_decide_eq_false h; omega)⟩
      · simp only [PP, P1, P2, P3, P4, P5, P6, P7, P8, P9, P10, P11, P12, P13, P14, L1, P15, N1, N2, N3, N4, N5, N6, N7, I1, I2, I3, I4, I5, I6, I7, reduceIte, reduceCtorEq, d]
        exact hk false fun _ => ⟨hl, by omega, fun h => absurd h d⟩
theorem same_p {M : Mem} {K : PV → Mem → Prop} {f o f' o' : Bool} {a b : List Ms} (hb : a.length < 1000000000000) (ha : ∀ x ∈ a, x.fit) (hb' : ∀ x ∈ b, x.fit) (hk : K (.bool (decide (a = b))) M) :
    SemC tab 20 [slM f o a, slM f' o' b] M K := by
  refine SemC_pure T.h20 (by simp only [PP, P1, P2, P3, P4, P5, P6, P7, P8, P9, P10, P11, P12, P13, P14, L1, P15, N1, N2, N3, N4, N5, N6, N7, I1, I2, I3, I4, I5, I6, I7, reduceIte, reduceCtorEq, msC_len, msC_one, msC_und, under_slM, msC_0, psub_msC, pover_msC, z9, z9t, msL_len, msL_und, msL_one, prepl_ms, limC_len, limC_one, limC_und, limC_len0, pfrzL_msC, pfrzL_limC, psub_limC, pover_limC, z8, pcells_cp, one_cp, solC_und, solC_0, solC_1, solC_2]) ?_
  simp only [af20, PP, P1, P2, P3, P4, P5, P6, P7, P8, P9, P10, P11, P12, P13, P14, L1, P15, N1, N2, N3, N4, N5, N6, N7, I1, I2, I3, I4, I5, I6, I7, reduceIte, reduceCtorEq, msC_len, msC_one, msC_und, under_slM, msC_0, psub_msC, pover_msC, z9, z9t, msL_len, msL_und, msL_one, prepl_ms, limC_len, limC_one, limC_und, limC_len0, pfrzL_msC, pfrzL_limC, psub_limC, pover_limC, z8, pcells_cp, one_cp, solC_und, solC_0, solC_1, solC_2]
  refine QIf.intro (fun c => ?_) (fun c => ?_)
  rotate_left
  · simp only [PP, P1, P2, P3, P4, P5, P6, P7, P8, P9, P10, P11, P12, P13, P14, L1, P15, N1, N2, N3, N4, N5, N6, N7, I1, I2, I3, I4, I5, I6, I7, reduceIte, reduceCtorEq, c]
    rw [decide_eq_false (fun h => c (by rw [h]))] at hk; exact hk
  have hl : a.length = b.length := by omega
  simp only [PP, P1, P2, P3, P4, P5, P6, P7, P8, P9, P10, P11, P12, P13, P14, L1, P15, N1, N2, N3, N4, N5, N6, N7, I1, I2, I3, I4, I5, I6, I7, reduceIte, reduceCtorEq, c]
  refine loop1 (fun (k : Nat) => k ≤ a.length ∧ ∀ j, j < k → a[j]? = b[j]?) (fun k => [slM f o a, slM f' o' b, .junk, .junk, .junk, p64 k, .junk, .junk, .junk, .junk, .junk, .junk, .junk, .junk, .junk, .junk, .junk, .junk, .junk, .junk, .junk, .junk, .junk, .junk, .junk, .junk]) (fun k => []) (fun k => a.length - k) 0 ⟨by omega, fun j h => by omega⟩ (by simp only [PWeak_nil, PWeak_junk, PWeak_same, Int.cast_ofNat_Int, List.length_append, List.length_cons, List.length_nil, Nat.zero_add]) rfl ?_
  intro k ⟨hle, hI⟩ ih
  refine SemW_go (by kernel_rfl) ?_
  simp only [PP, P1, P2, P3, P4, P5, P6, P7, P8, P9, P10, P11, P12, P13, P14, L1, P15, N1, N2, N3, N4, N5, N6, N7, I1, I2, I3, I4, I5, I6, I7, reduceIte, reduceCtorEq]
  refine QIf.intro (fun d => ?_) (fun d => ?_)
  · have hk' : k < a.length := by omega
    have k0 : (0 : Int) ≤ k := by omega
    have kb : (k : Int) < b.length := by omega
    have hwk := wrap_succ (k := k) (by show _ < 1000000000000; omega)
    obtain ⟨x, g1⟩ := some_of (xs := a) (k := k) hk'
    obtain ⟨y, g2⟩ := some_of (xs := b) (k := k) (by omega)
    have p1 := psub_msL g1
    have p2 := psub_msL g2
    have l1 := ms_lt g1
    have l2 := ms_lt g2
    simp only [PP, P1, P2, P3, P4, P5, P6, P7, P8, P9, P10, P11, P12, P13, P14, L1, P15, N1, N2, N3, N4, N5, N6, N7, I1, I2, I3, I4, I5, I6, I7, reduceIte, reduceCtorEq, msC_len, msC_one, msC_und, under_slM, msC_0, psub_msC, pover_msC, z9, z9t, msL_len, msL_und, msL_one, prepl_ms, limC_len, limC_one, limC_und, limC_len0, pfrzL_msC, pfrzL_limC, psub_limC, pover_limC, z8, pcells_cp, one_cp, solC_und, solC_0, solC_1, solC_2, d, k0, kb, p1, p2, l1, l2, peq_msC (ha x (List.mem_of_getElem? g1)) (hb' y (List.mem_of_getElem? g2))]
    by_cases e : x = y
    · simp only [PP, P1, P2, P3, P4, P5, P6, P7, P8, P9, P10, P11, P12, P13, P14, L1, P15, N1, N2, N3, N4, N5, N6, N7, I1, I2, I3, I4, I5, I6, I7, reduceIte, reduceCtorEq, e, decide_true, hwk]
      refine SemW_weak (ih (k + 1) ⟨hk', fun j hj => ?_⟩ (by omega)) (by simp only [PWeak_nil, PWeak_junk, PWeak_same, Int.cast_ofNat_Int, List.length_append, List.length_cons, List.length_nil, Nat.zero_add])
      by_cases ej : j = k
      · subst ej; rw [g1, g2, e]
      · exact hI j (by omega)
    · simp only [PP, P1, P2, P3, P4, P5, P6, P7, P8, P9, P10, P11, P12, P13, P14, L1, P15, N1, N2, N3, N4, N5, N6, N7, I1, I2, I3, I4, I5, I6, I7, reduceIte, reduceCtorEq, decide_eq_false e]
      rw [decide_eq_false (fun h => by rw [h, g2] at g1; cases g1; exact e rfl)] at hk; exact hk
  · have hkn : k = a.length := by omega
    subst hkn
    have : a = b := by
      apply List.ext_getElem?
      intro j
      by_cases hj : j < a.length
      · exact hI j hj
      · rw [List.getElem?_eq_none (by omega), List.getElem?_eq_none (by omega)]
    rw [decide_eq_true this] at hk
    simp only [PP, P1, P2, P3, P4, P5, P6, P7, P8, P9, P10, P11, P12, P13, P14, L1, P15, N1, N2, N3, N4, N5, N6, N7, I1, I2, I3, I4, I5, I6, I7, reduceIte, reduceCtorEq, d]
    exact hk
end
end Go.Am.Ar
set_option linter.unusedVariables false
set_option linter.unusedSimpArgs false
set_option maxRecDepth 10000
namespace Go.Am.Ar
open Go.Am renaming pchk → P1, pold → P2, PKNo → P3, ppack → P4, PObj.under → P5, pput → P6, ptset → P7, ptget → P8, pev → P9, ofAV → P10, ofAV1 → P11, ppad → P12, pfill → P13, prepl → P14, AO.effect → P15
open List renaming replicate → L1
open Nat renaming reduceAdd → N1, reduceSub → N2, reduceMul → N3, reduceLT → N4, reduceLeDiff → N5, reduceEqDiff → N6, reduceBEq → N7
open Int renaming reduceToNat → I1, reduceLT → I2, reduceLE → I3, reduceEq → I4, reduceAdd → I5, reduceSub → I6, reduceNeg → I7
section
variable {tab : FuncId → Option AF} (T : HasA tab)
include T
end
end Go.Am.Ar
set_option linter.unusedVariables false
set_option linter.unusedSimpArgs false
set_option maxRecDepth 10000
namespace Go.Am.Ar
open Go.Am renaming pchk → P1, pold → P2, PKNo → P3, ppack → P4, PObj.under → P5, pput → P6, ptset → P7, ptget → P8, pev → P9, ofAV → P10, ofAV1 → P11, ppad → P12, pfill → P13, prepl → P14, AO.effect → P15
open List renaming replicate → L1
open Nat renaming reduceAdd → N1, reduceSub → N2, reduceMul → N3, reduceLT → N4, reduceLeDiff → N5, reduceEqDiff → N6, reduceBEq → N7
open Int renaming reduceToNat → I1, reduceLT → I2, reduceLE → I3, reduceEq → I4, reduceAdd → I5, reduceSub → I6, reduceNeg → I7
def idxFrom (p : Int → Bool) : Nat → List Int → Int
  | _, [] => -1
  | k, x :: l => if p x = true then k else idxFrom p (k + 1) l
section
variable {tab : FuncId → Option AF} (T : HasA tab)
include T
theorem indexFunc_p {M : Mem} {K : PV → Mem → Prop} {f o : Bool} {row : List Int} {fn : FuncId} {cap : List PV} (p : Int → Bool) (hb : row.length < big)
    (hf : ∀ x ∈ row, ∀ K' : PV → Mem → Prop, K' (.bool (p x)) M → SemC tab fn (p64 x :: cap) M K') (hk : K (p64 (idxFrom p 0 row)) M) :
    SemC tab 44 [slI f o .i64 row, .func (.func fn) [] cap] M K := by
  refine SemC_fn T.h44 ?_
  simp only [af44, PP, P1, P2, P3, P4, P5, P6, P7, P8, P9, P10, P11, P12, P13, P14, L1, P15, N1, N2, N3, N4, N5, N6, N7, I1, I2, I3, I4, I5, I6, I7, reduceIte, reduceCtorEq]
  refine loop1 (fun (k : Nat) => k ≤ row.length ∧ K (p64 (idxFrom p k (row.drop k))) M) (fun k => [slI f o .i64 row, .func (.func fn) [] cap, .junk, .junk, .junk, .junk, .junk, p64 row.length, p64 k, .junk, .junk, .junk, .junk, .junk, .junk, .junk, .junk, .junk, .junk]) (fun k => M) (fun k => row.length - k) 0 ⟨by omega, hk⟩ (by simp only [PWeak_nil, PWeak_junk, PWeak_same, Int.cast_ofNat_Int, List.length_append, List.length_cons, List.length_nil, Nat.zero_add]) rfl ?_
  intro k ⟨hle, hq⟩ ih
  refine SemW_go (by kernel_rfl) ?_
  simp only [PP, P1, P2, P3, P4, P5, P6, P7, P8, P9, P10, P11, P12, P13, P14, L1, P15, N1, N2, N3, N4, N5, N6, N7, I1, I2, I3, I4, I5, I6, I7, reduceIte, reduceCtorEq]
  refine QIf.intro (fun c => ?_) (fun c => ?_)
  · have hk' : k < row.length := by omega
    have h0 : (0 : Int) ≤ k := by omega
    have hw := wrap_succ (k := k) (by show _ < 1000000000000; have : row.length < 1000000000000 := hb; omega)
    obtain ⟨x, e⟩ := some_of hk'
    rw [drop_some e] at hq
    unfold idxFrom at hq
    simp only [PP, P1, P2, P3, P4, P5, P6, P7, P8, P9, P10, P11, P12, P13, P14, L1, P15, N1, N2, N3, N4, N5, N6, N7, I1, I2, I3, I4, I5, I6, I7, reduceIte, reduceCtorEq, c, h0, e]
    refine hf x (List.mem_of_getElem? e) _ ?_
    cases hp : p x with
    | true =>
      rw [if_pos hp] at hq
      simp only [PP, P1, P2, P3, P4, P5, P6, P7, P8, P9, P10, P11, P12, P13, P14, L1, P15, N1, N2, N3, N4, N5, N6, N7, I1, I2, I3, I4, I5, I6, I7, reduceIte, reduceCtorEq]
      exact hq
    | false =>
      rw [if_neg (by rw [hp]; exact Bool.false_ne_true)] at hq
      simp only [PP, P1, P2, P3, P4, P5, P6, P7, P8, P9, P10, P11, P12, P13, P14, L1, P15, N1, N2, N3, N4, N5, N6, N7, I1, I2, I3, I4, I5, I6, I7, reduceIte, reduceCtorEq, hw]
      exact SemW_weak (ih (k + 1) ⟨by omega, hq⟩ (by omega)) (by simp only [PWeak_nil, PWeak_junk, PWeak_same, Int.cast_ofNat_Int, List.length_append, List.length_cons, List.length_nil, Nat.zero_add])
  · rw [List.drop_eq_nil_of_le (by omega)] at hq
    unfold idxFrom at hq
    simp only [PP, P1, P2, P3, P4, P5, P6, P7, P8, P9, P10, P11, P12, P13, P14, L1, P15, N1, N2, N3, N4, N5, N6, N7, I1, I2, I3, I4, I5, I6, I7, reduceIte, reduceCtorEq, c]
    exact hq
end
end Go.Am.Ar
set_option linter.unusedVariables false
set_option linter.unusedSimpArgs false
set_option maxRecDepth 10000
namespace Go.Am.Ar
open Go.Am renaming pchk → P1, pold → P2, PKNo → P3, ppack → P4, PObj.under → P5, pput → P6, ptset → P7, ptget → P8, pev → P9, ofAV → P10, ofAV1 → P11, ppad → P12, pfill → P13, prepl → P14, AO.effect → P15
open List renaming replicate → L1
open Nat renaming reduceAdd → N1, reduceSub → N2, reduceMul → N3, reduceLT → N4, reduceLeDiff → N5, reduceEqDiff → N6, reduceBEq → N7
open Int renaming reduceToNat → I1, reduceLT → I2, reduceLE → I3, reduceEq → I4, reduceAdd → I5, reduceSub → I6, reduceNeg → I7
def strQ (pr : List Int) (ms : List Ms) (v : Nat) (u : Int) : Bool := decide (vN (limL pr) (gO pr v).toNat (Nf (limL pr) ms u.toNat) = Nf (limL pr) ms v)
def strF (ow pr : List Int) (su : List (List Int)) (ms : List Ms) (v : Nat) : Int :=
  if ow.getD v 0 = 0 ∧ (ms.getD v mz).top = false then ((su.getD v []).find? (strQ pr ms v)).getD (-1) else -1
def strM (ow pr : List Int) (su : List (List Int)) (ms : List Ms) : List Int := tabA ms.length (strF ow pr su ms)
theorem idx_find {p : Int → Bool} : ∀ {row : List Int} {k : Nat} {x : Int}, row.find? p = some x → ∃ j, idxFrom p k row = ((k + j : Nat) : Int) ∧ row[j]? = some x
  | [], _, _, h => by cases h
  | y :: l, k, x, h => by
    unfold idxFrom
    cases hp : p y with
    | true =>
      rw [List.find?_cons, hp] at h
      cases h
      exact ⟨0, by rw [if_pos rfl]; rfl, rfl⟩
    | false =>
      rw [List.find?_cons, hp] at h
      obtain ⟨j, h1, h2⟩ := idx_find (k := k + 1) h
      exact ⟨j + 1, by rw [if_neg (by decide), h1]; omega, by simpa using h2⟩
theorem LeastM.find {ow pr : List Int} {su : List (List Int)} {ms : List Ms} (V : Valid ow pr su) (h : LeastM ow pr su ms) {v : Nat} (hv : v < ow.length) (ho : ow.getD v 0 = 0) : ∃ x, (su.getD v []).find? (strQ pr ms v) = some x := by
  have e : gL ow pr su (Nf (limL pr) ms) v = Nf (limL pr) ms v := Nat.le_antisymm (h.pre v hv) (h.li.up v hv)
  unfold gL lN at e
  rw [if_pos ho] at e
  obtain ⟨u, hu, q⟩ := vMin_mem (f := fun u => vN (limL pr) (gO pr v).toNat (Nf (limL pr) ms u)) (Sf_ok V hv).1
  obtain ⟨a, ha, rfl⟩ := List.mem_map.1 hu
  cases hf : (su.getD v []).find? (strQ pr ms v) with
  | some x => exact ⟨x, rfl⟩
  | none =>
    rw [List.find?_eq_none] at hf
    exact absurd (decide_eq_true (q.symm.trans e)) (hf a ha)
section
variable {tab : FuncId → Option AF} (T : HasA tab)
include T
set_option maxHeartbeats 1000000 in
theorem strategy31_p {M : Mem} {K : PV → Mem → Prop} {f1 o1 f2 o2 f3 o3 f4 o4 : Bool} {ow pr : List Int} {su : List (List Int)} (B : Bnd ow pr su)
    (hk : ∀ ms e, MeasA ow pr su ms e → K (.tuple [slI false true .i64 (strM ow pr su ms), p64 e]) M) :
    SemC tab 16 [gmP f1 o1 f2 o2 f3 o3 f4 o4 ow pr su] M K := by
  refine SemC_wk ?_
  refine SemC_pure T.h16 (by simp only [PP, P1, P2, P3, P4, P5, P6, P7, P8, P9, P10, P11, P12, P13, P14, L1, P15, N1, N2, N3, N4, N5, N6, N7, I1, I2, I3, I4, I5, I6, I7, reduceIte, reduceCtorEq, msC_len, msC_one, msC_und, under_slM, msC_0, psub_msC, pover_msC, z9, z9t, msL_len, msL_und, msL_one, prepl_ms, limC_len, limC_one, limC_und, limC_len0, pfrzL_msC, pfrzL_limC, psub_limC, pover_limC, z8, pcells_cp, one_cp, solC_und, solC_0, solC_1, solC_2, PV.under]) ?_
  simp only [af16, PP, P1, P2, P3, P4, P5, P6, P7, P8, P9, P10, P11, P12, P13, P14, L1, P15, N1, N2, N3, N4, N5, N6, N7, I1, I2, I3, I4, I5, I6, I7, reduceIte, reduceCtorEq]
  refine measures_p T B (fun ms e hA => ?_)
  rcases hA with ⟨c1, rfl, rfl⟩ | ⟨c1, rfl, hL⟩
  · simp only [PP, P1, P2, P3, P4, P5, P6, P7, P8, P9, P10, P11, P12, P13, P14, L1, P15, N1, N2, N3, N4, N5, N6, N7, I1, I2, I3, I4, I5, I6, I7, reduceIte, reduceCtorEq, msC_len, msC_one, msC_und, under_slM, msC_0, psub_msC, pover_msC, z9, z9t, msL_len, msL_und, msL_one, prepl_ms, limC_len, limC_one, limC_und, limC_len0, pfrzL_msC, pfrzL_limC, psub_limC, pover_limC, z8, pcells_cp, one_cp, solC_und, solC_0, solC_1, solC_2, c1]
    refine ⟨_, ?_, hk [] _ (.inl ⟨c1, rfl, rfl⟩)⟩
    refine PvWk.tuple rfl fun i y z h1 h2 => ?_
    match i with
    | 0 => cases h1; cases h2; exact PvWk.nils _ _ _
    | 1 => cases h1; cases h2; exact PvWk.refl _
    | i + 2 => simp at h1
  have V := valid_of c1
  have P := valid_pr V
  have n1 := V.n1
  have hp := V.p
  have hs := V.s
  have hml := hL.st.l
  have b0 : (0 : Int) ≤ ms.length := by omega
  have b1 : (ms.length : Int) * 8 ≤ 140737488355328 := by omega
  have b2 : (ms.length : Int) ≤ 9223372036854775807 := by omega
  simp only [PP, P1, P2, P3, P4, P5, P6, P7, P8, P9, P10, P11, P12, P13, P14, L1, P15, N1, N2, N3, N4, N5, N6, N7, I1, I2, I3, I4, I5, I6, I7, reduceIte, reduceCtorEq, msC_len, msC_one, msC_und, under_slM, msC_0, psub_msC, pover_msC, z9, z9t, msL_len, msL_und, msL_one, prepl_ms, limC_len, limC_one, limC_und, limC_len0, pfrzL_msC, pfrzL_limC, psub_limC, pover_limC, z8, pcells_cp, one_cp, solC_und, solC_0, solC_1, solC_2]
  refine newSolver_p T P ?_
  simp only [PP, P1, P2, P3, P4, P5, P6, P7, P8, P9, P10, P11, P12, P13, P14, L1, P15, N1, N2, N3, N4, N5, N6, N7, I1, I2, I3, I4, I5, I6, I7, reduceIte, reduceCtorEq, msC_len, msC_one, msC_und, under_slM, msC_0, psub_msC, pover_msC, z9, z9t, msL_len, msL_und, msL_one, prepl_ms, limC_len, limC_one, limC_und, limC_len0, pfrzL_msC, pfrzL_limC, psub_limC, pover_limC, z8, pcells_cp, one_cp, solC_und, solC_0, solC_1, solC_2, b0, b1, b2, Int.le_refl]
  refine loop3 (fun (k ver : Nat) (a : List Int) => k ≤ ms.length ∧ a.length = ms.length ∧ ∀ v, v < k → a[v]? = some (strF ow pr su ms v))
    (fun k ver a => [.junk, .ptr 0 0 0, .junk, .junk, .ptr 1 0 0, .junk, .ptr 2 0 0, .ref 3 0 1 0 ms.length, .junk, .junk, .junk, .junk, .junk, .junk, .junk, .junk, .junk, .junk, .junk, .junk, .junk, .junk, .junk, .junk, slR f3 o3 f4 o4 .i64 su, p64 su.length, p64 k, .junk, .junk, .junk, .junk, .junk, .junk, .junk, .junk, .junk, .junk, .junk, .junk, .junk, .junk, .junk, .junk, .junk, .junk, .junk, .junk, .junk, .junk, .junk, .junk, .junk, .junk, .junk, .junk, .junk, .junk, .junk, .junk])
    (fun k ver a => [.cells 0 0 [slI f1 o1 .u8 ow, slI f2 o2 .i64 pr, slR f3 o3 f4 o4 .i64 su], .cells 0 1 [slM false true ms], .cells 0 1 [.cp (solC f1 o1 f2 o2 f3 o3 f4 o4 ow pr su) 0], .cells 0 ver (a.map (PV.int .i64))]) (fun k _ _ => ms.length - k) 0 0 (List.replicate ms.length 0) ⟨by omega, by simp, fun v h => by omega⟩ (by simp only [PWeak_nil, PWeak_junk, PWeak_same, Int.cast_ofNat_Int, List.length_append, List.length_cons, List.length_nil, Nat.zero_add]) (by simp only [List.map_replicate]) ?_
  intro k ver a ⟨hle, la, hlo⟩ ih
  refine SemW_go (by kernel_rfl) ?_
  simp only [PP, P1, P2, P3, P4, P5, P6, P7, P8, P9, P10, P11, P12, P13, P14, L1, P15, N1, N2, N3, N4, N5, N6, N7, I1, I2, I3, I4, I5, I6, I7, reduceIte, reduceCtorEq]
  refine QIf.intro (fun c => ?_) (fun c => ?_)
  · have hk' : k < ms.length := by omega
    have hkn : k < ow.length := by omega
    have k0 : (0 : Int) ≤ k := by omega
    have kn : (k : Int) < ms.length := by omega
    have ko : (k : Int) < ow.length := by omega
    have kp : (k : Int) < pr.length := by omega
    have ks : (k : Int) < su.length := by omega
    have k1 : k + 1 ≤ ms.length := hk'
    have hwk := wrap_succ (k := k) (by show _ < 1000000000000; omega)
    obtain ⟨x, g5⟩ := some_of (xs := ms) (k := k) (by omega)
    obtain ⟨o', g1⟩ := some_of (xs := ow) (k := k) hkn
    obtain ⟨row, g3⟩ := some_of (xs := su) (k := k) (by omega)
    obtain ⟨pv, g2⟩ := some_of (xs := pr) (k := k) (by omega)
    obtain ⟨p0, p1⟩ := P.2 pv (List.mem_of_getElem? g2)
    obtain ⟨p, rfl⟩ : ∃ p : Nat, pv = p := ⟨pv.toNat, by omega⟩
    have hx := hL.st.ok x (List.mem_of_getElem? g5)
    have e1 : ow.getD k 0 = o' := getD_some g1
    have e2 : gO pr k = p := getD_some g2
    have e3 : su.getD k [] = row := by simp [List.getD, g3]
    have e5 : ms.getD k mz = x := by simp [List.getD, g5]
    have eN : Nf (limL pr) ms k = x.num (limL pr) := Nf_at g5
    have r1 := psub_msL g5
    have r2 := ms_lt g5
    have r0 := msL_at0 g5
    have hrow : ∀ u ∈ row, 0 ≤ u ∧ u < ow.length := fun u hu => su_range V hkn (by rw [e3]; exact hu)
    have hrl : row.length < 1000000000000 := B.r row (List.mem_of_getElem? g3)
    have ef : strF ow pr su ms k = if o' = 0 ∧ x.top = false then (row.find? (strQ pr ms k)).getD (-1) else -1 := by unfold strF; rw [e1, e3, e5]
    have ls : (a.set k (-1)).length = ms.length := by simp [la]
    have next : ∀ (a' : List Int), a'.length = ms.length → a'[k]? = some (strF ow pr su ms k) → (∀ v, v ≠ k → a'[v]? = a[v]?) → k + 1 ≤ ms.length ∧ a'.length = ms.length ∧ ∀ v, v < k + 1 → a'[v]? = some (strF ow pr su ms v) := fun a' h1 h2 h3 => ⟨hk', h1, fun v hv => by
      by_cases e : v = k
      · subst e; exact h2
      · rw [h3 v e]; exact hlo v (by omega)⟩
    simp only [PP, P1, P2, P3, P4, P5, P6, P7, P8, P9, P10, P11, P12, P13, P14, L1, P15, N1, N2, N3, N4, N5, N6, N7, I1, I2, I3, I4, I5, I6, I7, reduceIte, reduceCtorEq, msC_len, msC_one, msC_und, under_slM, msC_0, psub_msC, pover_msC, z9, z9t, msL_len, msL_und, msL_one, prepl_ms, limC_len, limC_one, limC_und, limC_len0, pfrzL_msC, pfrzL_limC, psub_limC, pover_limC, z8, pcells_cp, one_cp, solC_und, solC_0, solC_1, solC_2, c, k0, kn, ko, k1, la, g1, g3]
    by_cases d : o' = 0
    · simp only [PP, P1, P2, P3, P4, P5, P6, P7, P8, P9, P10, P11, P12, P13, P14, L1, P15, N1, N2, N3, N4, N5, N6, N7, I1, I2, I3, I4, I5, I6, I7, reduceIte, reduceCtorEq, msC_len, msC_one, msC_und, under_slM, msC_0, psub_msC, pover_msC, z9, z9t, msL_len, msL_und, msL_one, prepl_ms, limC_len, limC_one, limC_und, limC_len0, pfrzL_msC, pfrzL_limC, psub_limC, pover_limC, z8, pcells_cp, one_cp, solC_und, solC_0, solC_1, solC_2, d, k0, kn, ko, r0]
      cases ht : x.top with
      | true =>
        rw [ht, if_neg (fun h => by cases h.2)] at ef
        simp only [PP, P1, P2, P3, P4, P5, P6, P7, P8, P9, P10, P11, P12, P13, P14, L1, P15, N1, N2, N3, N4, N5, N6, N7, I1, I2, I3, I4, I5, I6, I7, reduceIte, reduceCtorEq, msC_len, msC_one, msC_und, under_slM, msC_0, psub_msC, pover_msC, z9, z9t, msL_len, msL_und, msL_one, prepl_ms, limC_len, limC_one, limC_und, limC_len0, pfrzL_msC, pfrzL_limC, psub_limC, pover_limC, z8, pcells_cp, one_cp, solC_und, solC_0, solC_1, solC_2, hwk]
        refine SemW_re (GStep.drop (b := [.junk, .ptr 0 0 0, .junk, .junk, .ptr 1 0 0, .junk, .ptr 2 0 0, .ref 3 0 1 0 ms.length, .junk, .junk, .junk, .junk, .junk, .junk, .junk, .junk, .junk, .junk, .junk, .junk, .junk, .junk, .junk, .junk, slR f3 o3 f4 o4 .i64 su, p64 su.length, p64 ((k + 1 : Nat) : Int), .junk, .junk, .junk, .junk, .junk, .junk, .junk, .junk, .junk, .junk, .junk, .junk, .junk, .junk, .junk, .junk, .junk, .junk, .junk, .junk, .junk, .junk, .junk, .junk, .junk, .junk, .junk, .junk, .junk, .junk, .junk, .junk]) 4 (Nat.zero_le _) (by simp) (by simp only [PWeak_nil, PWeak_junk, PWeak_same, Int.cast_ofNat_Int, List.length_append, List.length_cons, List.length_nil, Nat.zero_add]) (by simp only [PP, P1, P2, P3, P4, P5, P6, P7, P8, P9, P10, P11, P12, P13, P14, L1, P15, N1, N2, N3, N4, N5, N6, N7, I1, I2, I3, I4, I5, I6, I7, reduceIte, reduceCtorEq, msC_len, msC_one, msC_und, under_slM, msC_0, psub_msC, pover_msC, z9, z9t, msL_len, msL_und, msL_one, prepl_ms, limC_len, limC_one, limC_und, limC_len0, pfrzL_msC, pfrzL_limC, psub_limC, pover_limC, z8, pcells_cp, one_cp, solC_und, solC_0, solC_1, solC_2]) (by simp only [← List.map_set, PP, P1, P2, P3, P4, P5, P6, P7, P8, P9, P10, P11, P12, P13, P14, L1, P15, N1, N2, N3, N4, N5, N6, N7, I1, I2, I3, I4, I5, I6, I7, reduceIte, reduceCtorEq, msC_len, msC_one, msC_und, under_slM, msC_0, psub_msC, pover_msC, z9, z9t, msL_len, msL_und, msL_one, prepl_ms, limC_len, limC_one, limC_und, limC_len0, pfrzL_msC, pfrzL_limC, psub_limC, pover_limC, z8, pcells_cp, one_cp, solC_und, solC_0, solC_1, solC_2, PV.under]) rfl) ?_
        refine SemW_to (ih (k + 1) (ver + 1) (a.set k (-1)) (next _ ls ?_ fun v hv => List.getElem?_set_ne (by omega)) (by omega)) (by simp only [PWeak_nil, PWeak_junk, PWeak_same, Int.cast_ofNat_Int, List.length_append, List.length_cons, List.length_nil, Nat.zero_add]) (by simp only [← List.map_set, PP, P1, P2, P3, P4, P5, P6, P7, P8, P9, P10, P11, P12, P13, P14, L1, P15, N1, N2, N3, N4, N5, N6, N7, I1, I2, I3, I4, I5, I6, I7, reduceIte, reduceCtorEq])
        rw [ef, List.getElem?_set_self (by omega)]
      | false =>
        obtain ⟨w, hw⟩ := hL.find V hkn (by rw [e1]; exact d)
        rw [e3] at hw
        rw [ht, if_pos ⟨d, rfl⟩, hw] at ef
        obtain ⟨j, hj1, hj2⟩ := idx_find (k := 0) hw
        rw [Nat.zero_add] at hj1
        have j0 : (0 : Int) ≤ j := by omega
        have jn : (j : Int) < row.length := by have := getSome_lt hj2; omega
        simp only [PP, P1, P2, P3, P4, P5, P6, P7, P8, P9, P10, P11, P12, P13, P14, L1, P15, N1, N2, N3, N4, N5, N6, N7, I1, I2, I3, I4, I5, I6, I7, reduceIte, reduceCtorEq, msC_len, msC_one, msC_und, under_slM, msC_0, psub_msC, pover_msC, z9, z9t, msL_len, msL_und, msL_one, prepl_ms, limC_len, limC_one, limC_und, limC_len0, pfrzL_msC, pfrzL_limC, psub_limC, pover_limC, z8, pcells_cp, one_cp, solC_und, solC_0, solC_1, solC_2]
        refine indexFunc_p T (strQ pr ms k) hrl (fun u hu K' hK' => ?_) ?_
        · obtain ⟨u0, u1⟩ := hrow u hu
          obtain ⟨z, g6⟩ := some_of (xs := ms) (k := u.toNat) (by omega)
          have hz := hL.st.ok z (List.mem_of_getElem? g6)
          have eZ : Nf (limL pr) ms u.toNat = z.num (limL pr) := Nf_at g6
          have u1' : u < ms.length := by omega
          have s1 := psub_msL g6
          have s2 := ms_lt g6
          refine SemC_fn T.h45 ?_
          simp only [af45, PP, P1, P2, P3, P4, P5, P6, P7, P8, P9, P10, P11, P12, P13, P14, L1, P15, N1, N2, N3, N4, N5, N6, N7, I1, I2, I3, I4, I5, I6, I7, reduceIte, reduceCtorEq, msC_len, msC_one, msC_und, under_slM, msC_0, psub_msC, pover_msC, z9, z9t, msL_len, msL_und, msL_one, prepl_ms, limC_len, limC_one, limC_und, limC_len0, pfrzL_msC, pfrzL_limC, psub_limC, pover_limC, z8, pcells_cp, one_cp, solC_und, solC_0, solC_1, solC_2, k0, kn, kp, g2, u0, u1', s1, s2, r1, r2]
          refine via_p T P.1 (by omega) hz (fun y y1 y2 => ?_)
          have hlt := limL_lt P.1
          have hy : decide (y = x) = strQ pr ms k u := by
            unfold strQ
            rw [e2, Int.toNat_natCast, eZ, eN, ← y2]
            by_cases e : y = x
            · subst e; simp
            · have : ¬ y.num (limL pr) = x.num (limL pr) := fun q => e (Ms.inj y1 hx q)
              simp [e, this]
          simp only [PP, P1, P2, P3, P4, P5, P6, P7, P8, P9, P10, P11, P12, P13, P14, L1, P15, N1, N2, N3, N4, N5, N6, N7, I1, I2, I3, I4, I5, I6, I7, reduceIte, reduceCtorEq, msC_len, msC_one, msC_und, under_slM, msC_0, psub_msC, pover_msC, z9, z9t, msL_len, msL_und, msL_one, prepl_ms, limC_len, limC_one, limC_und, limC_len0, pfrzL_msC, pfrzL_limC, psub_limC, pover_limC, z8, pcells_cp, one_cp, solC_und, solC_0, solC_1, solC_2, k0, kn, r1, r2, peq_msC (y1.fit hlt) (hx.fit hlt), hy]
          exact hK'
        · rw [hj1]
          simp only [PP, P1, P2, P3, P4, P5, P6, P7, P8, P9, P10, P11, P12, P13, P14, L1, P15, N1, N2, N3, N4, N5, N6, N7, I1, I2, I3, I4, I5, I6, I7, reduceIte, reduceCtorEq, msC_len, msC_one, msC_und, under_slM, msC_0, psub_msC, pover_msC, z9, z9t, msL_len, msL_und, msL_one, prepl_ms, limC_len, limC_one, limC_und, limC_len0, pfrzL_msC, pfrzL_limC, psub_limC, pover_limC, z8, pcells_cp, one_cp, solC_und, solC_0, solC_1, solC_2, j0, jn, hj2, k0, kn, k1, la, hwk]
          refine SemW_re (GStep.drop (b := [.junk, .ptr 0 0 0, .junk, .junk, .ptr 1 0 0, .junk, .ptr 2 0 0, .ref 3 0 1 0 ms.length, .junk, .junk, .junk, .junk, .junk, .junk, .junk, .junk, .junk, .junk, .junk, .junk, .junk, .junk, .junk, .junk, slR f3 o3 f4 o4 .i64 su, p64 su.length, p64 ((k + 1 : Nat) : Int), .junk, .junk, .junk, .junk, .junk, .junk, .junk, .junk, .junk, .junk, .junk, .junk, .junk, .junk, .junk, .junk, .junk, .junk, .junk, .junk, .junk, .junk, .junk, .junk, .junk, .junk, .junk, .junk, .junk, .junk, .junk, .junk]) 4 (Nat.zero_le _) (by simp) (by simp only [PWeak_nil, PWeak_junk, PWeak_same, Int.cast_ofNat_Int, List.length_append, List.length_cons, List.length_nil, Nat.zero_add]) (by simp only [PP, P1, P2, P3, P4, P5, P6, P7, P8, P9, P10, P11, P12, P13, P14, L1, P15, N1, N2, N3, N4, N5, N6, N7, I1, I2, I3, I4, I5, I6, I7, reduceIte, reduceCtorEq, msC_len, msC_one, msC_und, under_slM, msC_0, psub_msC, pover_msC, z9, z9t, msL_len, msL_und, msL_one, prepl_ms, limC_len, limC_one, limC_und, limC_len0, pfrzL_msC, pfrzL_limC, psub_limC, pover_limC, z8, pcells_cp, one_cp, solC_und, solC_0, solC_1, solC_2]) (by simp only [← List.map_set, PP, P1, P2, P3, P4, P5, P6, P7, P8, P9, P10, P11, P12, P13, P14, L1, P15, N1, N2, N3, N4, N5, N6, N7, I1, I2, I3, I4, I5, I6, I7, reduceIte, reduceCtorEq, msC_len, msC_one, msC_und, under_slM, msC_0, psub_msC, pover_msC, z9, z9t, msL_len, msL_und, msL_one, prepl_ms, limC_len, limC_one, limC_und, limC_len0, pfrzL_msC, pfrzL_limC, psub_limC, pover_limC, z8, pcells_cp, one_cp, solC_und, solC_0, solC_1, solC_2, PV.under]) rfl) ?_
          refine SemW_to (ih (k + 1) (ver + 1 + 1) ((a.set k (-1)).set k w) (next _ (by simp [la]) ?_ fun v hv => ?_) (by omega)) (by simp only [PWeak_nil, PWeak_junk, PWeak_same, Int.cast_ofNat_Int, List.length_append, List.length_cons, List.length_nil, Nat.zero_add]) (by simp only [← List.map_set, PP, P1, P2, P3, P4, P5, P6, P7, P8, P9, P10, P11, P12, P13, P14, L1, P15, N1, N2, N3, N4, N5, N6, N7, I1, I2, I3, I4, I5, I6, I7, reduceIte, reduceCtorEq])
          · rw [ef, List.getElem?_set_self (by omega)]; rfl
          · rw [List.getElem?_set_ne (by omega), List.getElem?_set_ne (by omega)]
    · rw [if_neg (fun h => d h.1)] at ef
      simp only [PP, P1, P2, P3, P4, P5, P6, P7, P8, P9, P10, P11, P12, P13, P14, L1, P15, N1, N2, N3, N4, N5, N6, N7, I1, I2, I3, I4, I5, I6, I7, reduceIte, reduceCtorEq, msC_len, msC_one, msC_und, under_slM, msC_0, psub_msC, pover_msC, z9, z9t, msL_len, msL_und, msL_one, prepl_ms, limC_len, limC_one, limC_und, limC_len0, pfrzL_msC, pfrzL_limC, psub_limC, pover_limC, z8, pcells_cp, one_cp, solC_und, solC_0, solC_1, solC_2, d, hwk]
      refine SemW_re (GStep.drop (b := [.junk, .ptr 0 0 0, .junk, .junk, .ptr 1 0 0, .junk, .ptr 2 0 0, .ref 3 0 1 0 ms.length, .junk, .junk, .junk, .junk, .junk, .junk, .junk, .junk, .junk, .junk, .junk, .junk, .junk, .junk, .junk, .junk, slR f3 o3 f4 o4 .i64 su, p64 su.length, p64 ((k + 1 : Nat) : Int), .junk, .junk, .junk, .junk, .junk, .junk, .junk, .junk, .junk, .junk, .junk, .junk, .junk, .junk, .junk, .junk, .junk, .junk, .junk, .junk, .junk, .junk, .junk, .junk, .junk, .junk, .junk, .junk, .junk, .junk, .junk, .junk]) 4 (Nat.zero_le _) (by simp) (by simp only [PWeak_nil, PWeak_junk, PWeak_same, Int.cast_ofNat_Int, List.length_append, List.length_cons, List.length_nil, Nat.zero_add]) (by simp only [PP, P1, P2, P3, P4, P5, P6, P7, P8, P9, P10, P11, P12, P13, P14, L1, P15, N1, N2, N3, N4, N5, N6, N7, I1, I2, I3, I4, I5, I6, I7, reduceIte, reduceCtorEq, msC_len, msC_one, msC_und, under_slM, msC_0, psub_msC, pover_msC, z9, z9t, msL_len, msL_und, msL_one, prepl_ms, limC_len, limC_one, limC_und, limC_len0, pfrzL_msC, pfrzL_limC, psub_limC, pover_limC, z8, pcells_cp, one_cp, solC_und, solC_0, solC_1, solC_2]) (by simp only [← List.map_set, PP, P1, P2, P3, P4, P5, P6, P7, P8, P9, P10, P11, P12, P13, P14, L1, P15, N1, N2, N3, N4, N5, N6, N7, I1, I2, I3, I4, I5, I6, I7, reduceIte, reduceCtorEq, msC_len, msC_one, msC_und, under_slM, msC_0, psub_msC, pover_msC, z9, z9t, msL_len, msL_und, msL_one, prepl_ms, limC_len, limC_one, limC_und, limC_len0, pfrzL_msC, pfrzL_limC, psub_limC, pover_limC, z8, pcells_cp, one_cp, solC_und, solC_0, solC_1, solC_2, PV.under]) rfl) ?_
      refine SemW_to (ih (k + 1) (ver + 1) (a.set k (-1)) (next _ ls ?_ fun v hv => List.getElem?_set_ne (by omega)) (by omega)) (by simp only [PWeak_nil, PWeak_junk, PWeak_same, Int.cast_ofNat_Int, List.length_append, List.length_cons, List.length_nil, Nat.zero_add]) (by simp only [← List.map_set, PP, P1, P2, P3, P4, P5, P6, P7, P8, P9, P10, P11, P12, P13, P14, L1, P15, N1, N2, N3, N4, N5, N6, N7, I1, I2, I3, I4, I5, I6, I7, reduceIte, reduceCtorEq])
      rw [ef, List.getElem?_set_self (by omega)]
  · have hkn : k = ms.length := by omega
    subst hkn
    have ea : a = strM ow pr su ms := by
      apply List.ext_getElem?
      intro v
      unfold strM
      by_cases hv : v < ms.length
      · rw [hlo v hv, tabA_get hv]
      · rw [List.getElem?_eq_none (by omega), tabA_none (by omega)]
    subst ea
    simp only [PP, P1, P2, P3, P4, P5, P6, P7, P8, P9, P10, P11, P12, P13, P14, L1, P15, N1, N2, N3, N4, N5, N6, N7, I1, I2, I3, I4, I5, I6, I7, reduceIte, reduceCtorEq, c]
    rw [frzIs la]
    simp only [PP, P1, P2, P3, P4, P5, P6, P7, P8, P9, P10, P11, P12, P13, P14, L1, P15, N1, N2, N3, N4, N5, N6, N7, I1, I2, I3, I4, I5, I6, I7, reduceIte, reduceCtorEq]
    exact ⟨_, PvWk.refl _, hk ms 0 (.inr ⟨c1, rfl, hL⟩)⟩
end
end Go.Am.Ar
set_option linter.unusedVariables false
set_option linter.unusedSimpArgs false
set_option maxRecDepth 10000
namespace Go.Am.Ar
open Go.Am renaming pchk → P1, pold → P2, PKNo → P3, ppack → P4, PObj.under → P5, pput → P6, ptset → P7, ptget → P8, pev → P9, ofAV → P10, ofAV1 → P11, ppad → P12, pfill → P13, prepl → P14, AO.effect → P15
open List renaming replicate → L1
open Nat renaming reduceAdd → N1, reduceSub → N2, reduceMul → N3, reduceLT → N4, reduceLeDiff → N5, reduceEqDiff → N6, reduceBEq → N7
open Int renaming reduceToNat → I1, reduceLT → I2, reduceLE → I3, reduceEq → I4, reduceAdd → I5, reduceSub → I6, reduceNeg → I7
theorem sumN_bnd {ow pr : List Int} {ms : List Ms} (hS : StOk (limL pr) ow.length ms) : sumN ow.length (Nf (limL pr) ms) ≤ ow.length * mT (limL pr) := sumN_le hS.bnd
section
variable {tab : FuncId → Option AF} (T : HasA tab)
include T
set_option maxHeartbeats 2000000 in
theorem rafter_p {M : Mem} {K : PV → Mem → Prop} {f1 o1 f2 o2 f3 o3 f4 o4 : Bool} {ow pr : List Int} {su : List (List Int)} {n : Int} (V : Valid ow pr su) (B : Bnd ow pr su) (ho : ∀ x ∈ ow, 0 ≤ x) (hT : mT (limL pr) ≤ 600) (hn : -1 ≤ n) (hn2 : n ≤ 9223372036854775807)
    (hk : ∀ ms b, StOk (limL pr) ow.length ms → LI ow.length (mT (limL pr)) (gL ow pr su) (Nf (limL pr) ms) → (b = true ↔ PreF ow.length (gL ow pr su) (Nf (limL pr) ms)) → (0 ≤ n → Nf (limL pr) ms = itN ow.length (gL ow pr su) n.toNat) → (n < 0 → b = true) → K (.tuple [slM false true ms, .bool b]) M) :
    SemC tab 19 [gmP f1 o1 f2 o2 f3 o3 f4 o4 ow pr su, p64 n] M K := by
  have n0 := V.n0
  have n1 := V.n1
  have hL := valid_lft V
  have b0 : (0 : Int) ≤ ow.length := by omega
  have b72 : (ow.length : Int) * 72 ≤ 140737488355328 := by omega
  have b2 : (ow.length : Int) ≤ 9223372036854775807 := by omega
  refine SemC_pure T.h19 (by simp only [PP, P1, P2, P3, P4, P5, P6, P7, P8, P9, P10, P11, P12, P13, P14, L1, P15, N1, N2, N3, N4, N5, N6, N7, I1, I2, I3, I4, I5, I6, I7, reduceIte, reduceCtorEq, msC_len, msC_one, msC_und, under_slM, msC_0, psub_msC, pover_msC, z9, z9t, msL_len, msL_und, msL_one, prepl_ms, limC_len, limC_one, limC_und, limC_len0, pfrzL_msC, pfrzL_limC, psub_limC, pover_limC, z8, pcells_cp, one_cp, solC_und, solC_0, solC_1, solC_2, PV.under]) ?_
  simp only [af19, PP, P1, P2, P3, P4, P5, P6, P7, P8, P9, P10, P11, P12, P13, P14, L1, P15, N1, N2, N3, N4, N5, N6, N7, I1, I2, I3, I4, I5, I6, I7, reduceIte, reduceCtorEq, msC_len, msC_one, msC_und, under_slM, msC_0, psub_msC, pover_msC, z9, z9t, msL_len, msL_und, msL_one, prepl_ms, limC_len, limC_one, limC_und, limC_len0, pfrzL_msC, pfrzL_limC, psub_limC, pover_limC, z8, pcells_cp, one_cp, solC_und, solC_0, solC_1, solC_2, b0, b72, b2, Int.le_refl]
  have bor : ∀ (ver : Nat) (ms : List Ms), StOk (limL pr) ow.length ms → ∀ l : List PV, underL 0 l = true → PBor [.cells 0 0 [slI f1 o1 .u8 ow, slI f2 o2 .i64 pr, slR f3 o3 f4 o4 .i64 su], .cells 0 ver (msL ms)] (gmP f1 o1 f2 o2 f3 o3 f4 o4 ow pr su :: .ref 1 0 9 0 ow.length :: l) (gmP f1 o1 f2 o2 f3 o3 f4 o4 ow pr su :: slM true false ms :: l) := fun ver ms hS l hl => by
    have rest : ∀ l : List PV, underL 0 l = true → PBor [.cells 0 0 [slI f1 o1 .u8 ow, slI f2 o2 .i64 pr, slR f3 o3 f4 o4 .i64 su], .cells 0 ver (msL ms)] l l := by
      intro l
      induction l with
      | nil => intro _; exact .nil
      | cons x l ih =>
        intro h
        rw [underL_cons, Bool.and_eq_true] at h
        exact .same h.1 (ih h.2)
    refine .same (by simp only [PP, P1, P2, P3, P4, P5, P6, P7, P8, P9, P10, P11, P12, P13, P14, L1, P15, N1, N2, N3, N4, N5, N6, N7, I1, I2, I3, I4, I5, I6, I7, reduceIte, reduceCtorEq]) ?_
    rw [← hS.l]
    exact .ref rfl (by rw [msL_len]; omega) (msL_und _ _) (psub_msL0 ms) (rest l hl)
  refine loop3 (fun (j ver : Nat) (ms : List Ms) => StOk (limL pr) ow.length ms ∧ Nf (limL pr) ms = itN ow.length (gL ow pr su) j ∧ j ≤ sumN ow.length (Nf (limL pr) ms) ∧ (0 ≤ n → (j : Int) ≤ n))
    (fun j ver ms => [.junk, p64 n, .ptr 0 0 0, .junk, .junk, .junk, .ref 1 0 9 0 ow.length, p64 j, .junk, .junk, .junk, .junk, .junk, .junk, .junk, .junk, .junk, .junk, .junk, .junk, .junk, .junk, .junk, .junk, .junk, .junk, .junk, .junk, .junk, .junk, .junk, .junk, .junk, .junk, .junk, .junk])
    (fun j ver ms => [.cells 0 0 [slI f1 o1 .u8 ow, slI f2 o2 .i64 pr, slR f3 o3 f4 o4 .i64 su], .cells 0 ver (msL ms)]) (fun j _ ms => ow.length * mT (limL pr) - sumN ow.length (Nf (limL pr) ms)) 0 0 (List.replicate ow.length mz) ⟨StOk.zero (limL_len pr) _, Nf_zero _ _, Nat.zero_le _, fun h => h⟩ (by simp only [PWeak_nil, PWeak_junk, PWeak_same, Int.cast_ofNat_Int, List.length_append, List.length_cons, List.length_nil, Nat.zero_add]) rfl ?_
  intro j ver ms ⟨hS, hN, hj, hjn⟩ ih
  have hml := hS.l
  have hsum := sumN_bnd (ow := ow) hS
  have hI : LI ow.length (mT (limL pr)) (gL ow pr su) (Nf (limL pr) ms) := by rw [hN]; exact itN_li hL j
  have hbig : ow.length * mT (limL pr) ≤ 4096 * 600 := Nat.mul_le_mul n1 hT
  have jb : j ≤ 4096 * 600 := by omega
  refine SemW_go (by kernel_rfl) ?_
  simp only [PP, P1, P2, P3, P4, P5, P6, P7, P8, P9, P10, P11, P12, P13, P14, L1, P15, N1, N2, N3, N4, N5, N6, N7, I1, I2, I3, I4, I5, I6, I7, reduceIte, reduceCtorEq]
  refine QIf.intro (fun c => ?_) (fun c => ?_)
  · simp only [PP, P1, P2, P3, P4, P5, P6, P7, P8, P9, P10, P11, P12, P13, P14, L1, P15, N1, N2, N3, N4, N5, N6, N7, I1, I2, I3, I4, I5, I6, I7, reduceIte, reduceCtorEq, c]
    have hjn2 : n = (j : Int) := by omega
    refine SemC_bor (bor ver ms hS [] rfl) (rliftable_p T V B ho hS (fun v q => ⟨rfl, ?_⟩) (fun q => ⟨rfl, ?_⟩))
    · have hneg : ¬ (v : Int) < 0 := by omega
      simp only [PP, P1, P2, P3, P4, P5, P6, P7, P8, P9, P10, P11, P12, P13, P14, L1, P15, N1, N2, N3, N4, N5, N6, N7, I1, I2, I3, I4, I5, I6, I7, reduceIte, reduceCtorEq, msC_len, msC_one, msC_und, under_slM, msC_0, psub_msC, pover_msC, z9, z9t, msL_len, msL_und, msL_one, prepl_ms, limC_len, limC_one, limC_und, limC_len0, pfrzL_msC, pfrzL_limC, psub_limC, pover_limC, z8, pcells_cp, one_cp, solC_und, solC_0, solC_1, solC_2, hneg, frzMs hml]
      refine hk ms false hS hI ⟨fun h => (by cases h), fun h => ?_⟩ (fun _ => by rw [hN, hjn2]; rfl) (fun h => by omega)
      have := h v q.1; have := q.2.1; omega
    · simp only [PP, P1, P2, P3, P4, P5, P6, P7, P8, P9, P10, P11, P12, P13, P14, L1, P15, N1, N2, N3, N4, N5, N6, N7, I1, I2, I3, I4, I5, I6, I7, reduceIte, reduceCtorEq, msC_len, msC_one, msC_und, under_slM, msC_0, psub_msC, pover_msC, z9, z9t, msL_len, msL_und, msL_one, prepl_ms, limC_len, limC_one, limC_und, limC_len0, pfrzL_msC, pfrzL_limC, psub_limC, pover_limC, z8, pcells_cp, one_cp, solC_und, solC_0, solC_1, solC_2, frzMs hml]
      exact hk ms true hS hI ⟨fun _ => q, fun _ => rfl⟩ (fun _ => by rw [hN, hjn2]; rfl) (fun h => rfl)
  · have hwj : IntKind.i64.wrap ((j : Int) + 1) = ((j + 1 : Nat) : Int) := wrap_succ (k := j) (by show _ < 1000000000000; omega)
    simp only [PP, P1, P2, P3, P4, P5, P6, P7, P8, P9, P10, P11, P12, P13, P14, L1, P15, N1, N2, N3, N4, N5, N6, N7, I1, I2, I3, I4, I5, I6, I7, reduceIte, reduceCtorEq, c]
    refine SemC_bor (bor ver ms hS [] rfl) (rliftable_p T V B ho hS (fun v q => ⟨rfl, ?_⟩) (fun q => ⟨rfl, ?_⟩))
    · have hneg : ¬ (v : Int) < 0 := by omega
      have v0 : (0 : Int) ≤ v := by omega
      have hv := q.1
      have vn : (v : Int) < ow.length := by omega
      have v9 : v * 9 + 9 ≤ ow.length * 9 := by omega
      have vl : v < ms.length := by omega
      simp only [PP, P1, P2, P3, P4, P5, P6, P7, P8, P9, P10, P11, P12, P13, P14, L1, P15, N1, N2, N3, N4, N5, N6, N7, I1, I2, I3, I4, I5, I6, I7, reduceIte, reduceCtorEq, msC_len, msC_one, msC_und, under_slM, msC_0, psub_msC, pover_msC, z9, z9t, msL_len, msL_und, msL_one, prepl_ms, limC_len, limC_one, limC_und, limC_len0, pfrzL_msC, pfrzL_limC, psub_limC, pover_limC, z8, pcells_cp, one_cp, solC_und, solC_0, solC_1, solC_2, hneg]
      refine SemC_bor (bor ver ms hS [p64 v] (by simp only [PP, P1, P2, P3, P4, P5, P6, P7, P8, P9, P10, P11, P12, P13, P14, L1, P15, N1, N2, N3, N4, N5, N6, N7, I1, I2, I3, I4, I5, I6, I7, reduceIte, reduceCtorEq])) (rlifted_p T V B ho hS hv (fun y y1 y2 => ⟨by simp only [PV.flat, PV.flatA, msC_flat], ?_⟩))
      have hpov := pover_msL (l := ms) y vl
      simp only [PP, P1, P2, P3, P4, P5, P6, P7, P8, P9, P10, P11, P12, P13, P14, L1, P15, N1, N2, N3, N4, N5, N6, N7, I1, I2, I3, I4, I5, I6, I7, reduceIte, reduceCtorEq, msC_len, msC_one, msC_und, under_slM, msC_0, psub_msC, pover_msC, z9, z9t, msL_len, msL_und, msL_one, prepl_ms, limC_len, limC_one, limC_und, limC_len0, pfrzL_msC, pfrzL_limC, psub_limC, pover_limC, z8, pcells_cp, one_cp, solC_und, solC_0, solC_1, solC_2, v0, vn, v9, hml, hpov, hwj]
      have hup := sumN_upd (n := ow.length) (m := Nf (limL pr) ms) (v := v) (x := gL ow pr su (Nf (limL pr) ms) v) hv q.2.1
      have hS2 := hS.set (k := v) y1
      have hsum2 := sumN_bnd (ow := ow) hS2
      have hNs : Nf (limL pr) (ms.set v y) = updN (Nf (limL pr) ms) v (gL ow pr su (Nf (limL pr) ms) v) := by rw [Nf_set vl, y2]
      rw [hNs] at hsum2
      refine SemW_weak (ih (j + 1) (ver + 1) (ms.set v y) ⟨hS2, ?_, by rw [hNs]; omega, fun h => by have := hjn h; omega⟩ (by rw [hNs]; omega)) (by simp only [PWeak_nil, PWeak_junk, PWeak_same, Int.cast_ofNat_Int, List.length_append, List.length_cons, List.length_nil, Nat.zero_add])
      show _ = stpN ow.length (gL ow pr su) (itN ow.length (gL ow pr su) j)
      rw [hNs, hN, stpN_of (by rw [← hN]; exact q)]
    · simp only [PP, P1, P2, P3, P4, P5, P6, P7, P8, P9, P10, P11, P12, P13, P14, L1, P15, N1, N2, N3, N4, N5, N6, N7, I1, I2, I3, I4, I5, I6, I7, reduceIte, reduceCtorEq, msC_len, msC_one, msC_und, under_slM, msC_0, psub_msC, pover_msC, z9, z9t, msL_len, msL_und, msL_one, prepl_ms, limC_len, limC_one, limC_und, limC_len0, pfrzL_msC, pfrzL_limC, psub_limC, pover_limC, z8, pcells_cp, one_cp, solC_und, solC_0, solC_1, solC_2, frzMs hml]
      refine hk ms true hS hI ⟨fun _ => q, fun _ => rfl⟩ (fun h => ?_) (fun h => rfl)
      rw [hN] at q ⊢
      obtain ⟨d, hd⟩ : ∃ d, n.toNat = j + d := ⟨n.toNat - j, by have := hjn h; omega⟩
      rw [hd, itN_fix q]
end
end Go.Am.Ar
set_option linter.unusedVariables false
set_option linter.unusedSimpArgs false
set_option maxRecDepth 10000
namespace Go.Am.Ar
open Go.Am renaming pchk → P1, pold → P2, PKNo → P3, ppack → P4, PObj.under → P5, pput → P6, ptset → P7, ptget → P8, pev → P9, ofAV → P10, ofAV1 → P11, ppad → P12, pfill → P13, prepl → P14, AO.effect → P15
open List renaming replicate → L1
open Nat renaming reduceAdd → N1, reduceSub → N2, reduceMul → N3, reduceLT → N4, reduceLeDiff → N5, reduceEqDiff → N6, reduceBEq → N7
open Int renaming reduceToNat → I1, reduceLT → I2, reduceLE → I3, reduceEq → I4, reduceAdd → I5, reduceSub → I6, reduceNeg → I7
theorem find_take {p : Int → Bool} {row : List Int} {k : Nat} {x : Int} (g : row[k]? = some x) (h : ∀ (j : Nat) (y : Int), j < k → row[j]? = some y → p y = false) (hp : p x = true) : row.find? p = some x := by
  induction row generalizing k with
  | nil => simp at g
  | cons y l ih =>
    rw [List.find?_cons]
    cases k with
    | zero => simp at g; subst g; rw [hp]
    | succ k =>
      rw [h 0 y (by omega) rfl]
      exact ih (k := k) (by simpa using g) fun j z hj hz => h (j + 1) z (by omega) (by simpa using hz)
theorem find_nil {p : Int → Bool} {row : List Int} (h : ∀ (j : Nat) (y : Int), j < row.length → row[j]? = some y → p y = false) : row.find? p = none := by
  rw [List.find?_eq_none]
  intro x hx
  obtain ⟨j, hj⟩ := List.getElem?_of_mem hx
  rw [h j x (getSome_lt hj) hj]; decide
section
variable {tab : FuncId → Option AF} (T : HasA tab)
include T
set_option maxHeartbeats 1000000 in
theorem rstrategy_p {M : Mem} {K : PV → Mem → Prop} {f1 o1 f2 o2 f3 o3 f4 o4 : Bool} {ow pr : List Int} {su : List (List Int)} (V : Valid ow pr su) (B : Bnd ow pr su) (ho : ∀ x ∈ ow, 0 ≤ x) (hT : mT (limL pr) ≤ 600)
    (hk : ∀ ms, LeastM ow pr su ms → K (slI false true .i64 (strM ow pr su ms)) M) :
    SemC tab 22 [gmP f1 o1 f2 o2 f3 o3 f4 o4 ow pr su] M K := by
  have n1 := V.n1
  have hp := V.p
  have hs := V.s
  have P := valid_pr V
  have hlt := limL_lt P.1
  refine SemC_pure T.h22 (by simp only [PP, P1, P2, P3, P4, P5, P6, P7, P8, P9, P10, P11, P12, P13, P14, L1, P15, N1, N2, N3, N4, N5, N6, N7, I1, I2, I3, I4, I5, I6, I7, reduceIte, reduceCtorEq, msC_len, msC_one, msC_und, under_slM, msC_0, psub_msC, pover_msC, z9, z9t, msL_len, msL_und, msL_one, prepl_ms, limC_len, limC_one, limC_und, limC_len0, pfrzL_msC, pfrzL_limC, psub_limC, pover_limC, z8, pcells_cp, one_cp, solC_und, solC_0, solC_1, solC_2, PV.under]) ?_
  simp only [af22, PP, P1, P2, P3, P4, P5, P6, P7, P8, P9, P10, P11, P12, P13, P14, L1, P15, N1, N2, N3, N4, N5, N6, N7, I1, I2, I3, I4, I5, I6, I7, reduceIte, reduceCtorEq, msC_len, msC_one, msC_und, under_slM, msC_0, psub_msC, pover_msC, z9, z9t, msL_len, msL_und, msL_one, prepl_ms, limC_len, limC_one, limC_und, limC_len0, pfrzL_msC, pfrzL_limC, psub_limC, pover_limC, z8, pcells_cp, one_cp, solC_und, solC_0, solC_1, solC_2]
  refine rafter_p T V B ho hT (by decide) (by decide) (fun ms b hS hI hb _ hb2 => ?_)
  have hLM : LeastM ow pr su ms := ⟨hS, hI, hb.1 (hb2 (by decide))⟩
  have hml := hS.l
  simp only [PP, P1, P2, P3, P4, P5, P6, P7, P8, P9, P10, P11, P12, P13, P14, L1, P15, N1, N2, N3, N4, N5, N6, N7, I1, I2, I3, I4, I5, I6, I7, reduceIte, reduceCtorEq, msC_len, msC_one, msC_und, under_slM, msC_0, psub_msC, pover_msC, z9, z9t, msL_len, msL_und, msL_one, prepl_ms, limC_len, limC_one, limC_und, limC_len0, pfrzL_msC, pfrzL_limC, psub_limC, pover_limC, z8, pcells_cp, one_cp, solC_und, solC_0, solC_1, solC_2]
  refine SemW_re (GStep.nil 5 1 rfl rfl rfl) ?_
  refine loop3 (fun (k g ver : Nat) => k ≤ ms.length) (fun k g ver => [.junk, .ptr 0 0 0, .junk, slM false true ms, .junk, .ref 1 g 1 0 k, p64 k, .junk, .junk, .junk, .junk, .junk, .junk, .junk, .junk, .junk, .junk, .junk, .junk, .junk, .junk, .junk, .junk, .junk, .junk, .junk, .junk, .junk, .junk, .junk, .junk, .junk, .junk, .junk, .junk, .junk, .junk, .junk, .junk, .junk, .junk, .junk, .junk, .junk, .junk, .junk, .junk, .junk, .junk, .junk, .junk, .junk, .junk, .junk, .junk, .junk, .junk, .junk, .junk, .junk, .junk, .junk, .junk, .junk, .junk, .junk, .junk, .junk, .junk, .junk, .junk, .junk, .junk, .junk, .junk, .junk, .junk, .junk, .junk, .junk, .junk, .junk, .junk, .junk, .junk, .junk])
    (fun k g ver => [.cells 0 0 [slI f1 o1 .u8 ow, slI f2 o2 .i64 pr, slR f3 o3 f4 o4 .i64 su], .cells g ver ((tabA k (strF ow pr su ms)).map (PV.int .i64))]) (fun k _ _ => ms.length - k) 0 0 0 (by omega) (by simp only [PP, P1, P2, P3, P4, P5, P6, P7, P8, P9, P10, P11, P12, P13, P14, L1, P15, N1, N2, N3, N4, N5, N6, N7, I1, I2, I3, I4, I5, I6, I7, reduceIte, reduceCtorEq, PWeak_nil, PWeak_junk, PWeak_same, Int.cast_ofNat_Int]) (by simp only [PP, P1, P2, P3, P4, P5, P6, P7, P8, P9, P10, P11, P12, P13, P14, L1, P15, N1, N2, N3, N4, N5, N6, N7, I1, I2, I3, I4, I5, I6, I7, reduceIte, reduceCtorEq]; rfl) ?_
  intro k g ver hle ih
  refine SemW_loop (by kernel_rfl) ?_
  refine SemW_seq (SemW_of ?_)
  simp only [PP, P1, P2, P3, P4, P5, P6, P7, P8, P9, P10, P11, P12, P13, P14, L1, P15, N1, N2, N3, N4, N5, N6, N7, I1, I2, I3, I4, I5, I6, I7, reduceIte, reduceCtorEq]
  refine QIf.intro (fun c => ?_) (fun c => ?_)
  · have hk' : k < ms.length := by omega
    have hkn : k < ow.length := by omega
    have k0 : (0 : Int) ≤ k := by omega
    have kn : (k : Int) < ms.length := by omega
    have ko : (k : Int) < ow.length := by omega
    have kp : (k : Int) < pr.length := by omega
    have ks : (k : Int) < su.length := by omega
    have hwk := wrap_succ (k := k) (by show _ < 1000000000000; omega)
    obtain ⟨x, g5⟩ := some_of (xs := ms) (k := k) (by omega)
    obtain ⟨o', g1⟩ := some_of (xs := ow) (k := k) hkn
    obtain ⟨row, g3⟩ := some_of (xs := su) (k := k) (by omega)
    obtain ⟨pv, g2⟩ := some_of (xs := pr) (k := k) (by omega)
    obtain ⟨p0, p1⟩ := P.2 pv (List.mem_of_getElem? g2)
    obtain ⟨p, rfl⟩ : ∃ p : Nat, pv = p := ⟨pv.toNat, by omega⟩
    have hx := hS.ok x (List.mem_of_getElem? g5)
    have e1 : ow.getD k 0 = o' := getD_some g1
    have e2 : gO pr k = p := getD_some g2
    have e3 : su.getD k [] = row := by simp [List.getD, g3]
    have e5 : ms.getD k mz = x := by simp [List.getD, g5]
    have eN : Nf (limL pr) ms k = x.num (limL pr) := Nf_at g5
    have r1 := psub_msL g5
    have r2 := ms_lt g5
    have r0 := msL_at0 g5
    have hrow : ∀ u ∈ row, 0 ≤ u ∧ u < ow.length := fun u hu => su_range V hkn (by rw [e3]; exact hu)
    have hrl : row.length < 1000000000000 := B.r row (List.mem_of_getElem? g3)
    have ef : strF ow pr su ms k = if o' = 0 ∧ x.top = false then (row.find? (strQ pr ms k)).getD (-1) else -1 := by unfold strF; rw [e1, e3, e5]
    have hps : psub ((tabA k (strF ow pr su ms)).map (PV.int .i64)) 0 k = (tabA k (strF ow pr su ms)).map (PV.int .i64) := psub_all _ _ (by simp [tabA_len])
    have c8 : (k + 1) * 8 ≤ 140737488355328 := by omega
    have c1 : k + 1 ≤ 9223372036854775807 := by omega
    have hex : k ≤ (tabA k (strF ow pr su ms)).length := by rw [tabA_len]; omega
    simp only [PP, P1, P2, P3, P4, P5, P6, P7, P8, P9, P10, P11, P12, P13, P14, L1, P15, N1, N2, N3, N4, N5, N6, N7, I1, I2, I3, I4, I5, I6, I7, reduceIte, reduceCtorEq, msC_len, msC_one, msC_und, under_slM, msC_0, psub_msC, pover_msC, z9, z9t, msL_len, msL_und, msL_one, prepl_ms, limC_len, limC_one, limC_und, limC_len0, pfrzL_msC, pfrzL_limC, psub_limC, pover_limC, z8, pcells_cp, one_cp, solC_und, solC_0, solC_1, solC_2, c]
    refine SemW_seq (SemW_blk ?_)
    refine SemW_seq (SemW_of ?_)
    simp only [PP, P1, P2, P3, P4, P5, P6, P7, P8, P9, P10, P11, P12, P13, P14, L1, P15, N1, N2, N3, N4, N5, N6, N7, I1, I2, I3, I4, I5, I6, I7, reduceIte, reduceCtorEq]
    refine SemW_seq (SemW_seq (SemW_of ?_))
    simp only [PP, P1, P2, P3, P4, P5, P6, P7, P8, P9, P10, P11, P12, P13, P14, L1, P15, N1, N2, N3, N4, N5, N6, N7, I1, I2, I3, I4, I5, I6, I7, reduceIte, reduceCtorEq]
    refine SemW_mono (Qn := fun b N => PWeak b [.junk, .ptr 0 0 0, .junk, slM false true ms, .junk, .ref 1 g 1 0 k, p64 k, p64 (strF ow pr su ms k), .junk, .junk, .junk, .junk, .junk, .junk, .junk, .junk, .junk, .junk, .junk, .junk, .junk, .junk, .junk, .junk, .junk, .junk, .junk, .junk, .junk, .junk, .junk, .junk, .junk, .junk, .junk, .junk, .junk, .junk, .junk, .junk, .junk, .junk, .junk, .junk, .junk, .junk, .junk, .junk, .junk, .junk, .junk, .junk, .junk, .junk, .junk, .junk, .junk, .junk, .junk, .junk, .junk, .junk, .junk, .junk, .junk, .junk, .junk, .junk, .junk, .junk, .junk, .junk, .junk, .junk, .junk, .junk, .junk, .junk, .junk, .junk, .junk, .junk, .junk, .junk, .junk, .junk] ∧ N = [.cells 0 0 [slI f1 o1 .u8 ow, slI f2 o2 .i64 pr, slR f3 o3 f4 o4 .i64 su], .cells g ver ((tabA k (strF ow pr su ms)).map (PV.int .i64))]) (SemW_blk ?_) ?_ (fun _ _ h => h) (fun _ _ _ h => h)
    · refine loop2 (fun (i : Nat) (y : Int) => i ≤ row.length ∧ ((y = -1 ∧ ∀ (j : Nat) (u : Int), j < i → row[j]? = some u → strQ pr ms k u = false) ∨ (0 ≤ y ∧ y = strF ow pr su ms k)))
        (fun i y => [.junk, .ptr 0 0 0, .junk, slM false true ms, .junk, .ref 1 g 1 0 k, p64 k, p64 y, p64 i, .junk, .junk, .junk, .junk, .junk, .junk, .junk, .junk, .junk, .junk, .junk, .junk, .junk, .junk, .junk, .junk, .junk, .junk, .junk, .junk, .junk, .junk, .junk, .junk, .junk, .junk, .junk, .junk, .junk, .junk, .junk, .junk, .junk, .junk, .junk, .junk, .junk, .junk, .junk, .junk, .junk, .junk, .junk, .junk, .junk, .junk, .junk, .junk, .junk, .junk, .junk, .junk, .junk, .junk, .junk, .junk, .junk, .junk, .junk, .junk, .junk, .junk, .junk, .junk, .junk, .junk, .junk, .junk, .junk, .junk, .junk, .junk, .junk, .junk, .junk, .junk, .junk])
        (fun i y => [.cells 0 0 [slI f1 o1 .u8 ow, slI f2 o2 .i64 pr, slR f3 o3 f4 o4 .i64 su], .cells g ver ((tabA k (strF ow pr su ms)).map (PV.int .i64))]) (fun i _ => row.length - i) 0 (-1) ⟨by omega, .inl ⟨rfl, fun j u h => by omega⟩⟩ (by simp only [PWeak_nil, PWeak_junk, PWeak_same, Int.cast_ofNat_Int, List.length_append, List.length_cons, List.length_nil, Nat.zero_add]) rfl ?_
      intro i y ⟨hile, hI⟩ ih2
      refine SemW_go (by kernel_rfl) ?_
      simp only [PP, P1, P2, P3, P4, P5, P6, P7, P8, P9, P10, P11, P12, P13, P14, L1, P15, N1, N2, N3, N4, N5, N6, N7, I1, I2, I3, I4, I5, I6, I7, reduceIte, reduceCtorEq, k0, ks, g3]
      refine QIf.intro (fun d => ?_) (fun d => ?_)
      · have hir : i < row.length := by omega
        have i0 : (0 : Int) ≤ i := by omega
        have hwi := wrap_succ (k := i) (by show _ < 1000000000000; omega)
        obtain ⟨u, g4⟩ := some_of (xs := row) (k := i) hir
        obtain ⟨u0, u1⟩ := hrow u (List.mem_of_getElem? g4)
        have u1' : u < ms.length := by omega
        obtain ⟨z, g6⟩ := some_of (xs := ms) (k := u.toNat) (by omega)
        have hz := hS.ok z (List.mem_of_getElem? g6)
        have eZ : Nf (limL pr) ms u.toNat = z.num (limL pr) := Nf_at g6
        have s1 := psub_msL g6
        have s2 := ms_lt g6
        by_cases e : o' = 0
        · simp only [PP, P1, P2, P3, P4, P5, P6, P7, P8, P9, P10, P11, P12, P13, P14, L1, P15, N1, N2, N3, N4, N5, N6, N7, I1, I2, I3, I4, I5, I6, I7, reduceIte, reduceCtorEq, msC_len, msC_one, msC_und, under_slM, msC_0, psub_msC, pover_msC, z9, z9t, msL_len, msL_und, msL_one, prepl_ms, limC_len, limC_one, limC_und, limC_len0, pfrzL_msC, pfrzL_limC, psub_limC, pover_limC, z8, pcells_cp, one_cp, solC_und, solC_0, solC_1, solC_2, d, e, k0, kn, ko, g1, r0]
          cases ht : x.top with
          | true =>
            rw [ht, if_neg (fun h => by cases h.2)] at ef
            simp only [PP, P1, P2, P3, P4, P5, P6, P7, P8, P9, P10, P11, P12, P13, P14, L1, P15, N1, N2, N3, N4, N5, N6, N7, I1, I2, I3, I4, I5, I6, I7, reduceIte, reduceCtorEq, msC_len, msC_one, msC_und, under_slM, msC_0, psub_msC, pover_msC, z9, z9t, msL_len, msL_und, msL_one, prepl_ms, limC_len, limC_one, limC_und, limC_len0, pfrzL_msC, pfrzL_limC, psub_limC, pover_limC, z8, pcells_cp, one_cp, solC_und, solC_0, solC_1, solC_2]
            rcases hI with ⟨rfl, _⟩ | ⟨h1, h2⟩
            · simp only [PWeak_nil, PWeak_junk, PWeak_same, ef]
            · rw [ef] at h2; omega
          | false =>
            rw [ht, if_pos ⟨e, rfl⟩] at ef
            simp only [PP, P1, P2, P3, P4, P5, P6, P7, P8, P9, P10, P11, P12, P13, P14, L1, P15, N1, N2, N3, N4, N5, N6, N7, I1, I2, I3, I4, I5, I6, I7, reduceIte, reduceCtorEq, msC_len, msC_one, msC_und, under_slM, msC_0, psub_msC, pover_msC, z9, z9t, msL_len, msL_und, msL_one, prepl_ms, limC_len, limC_one, limC_und, limC_len0, pfrzL_msC, pfrzL_limC, psub_limC, pover_limC, z8, pcells_cp, one_cp, solC_und, solC_0, solC_1, solC_2]
            refine QIf.intro (fun q => ?_) (fun q => ?_)
            · rcases hI with ⟨rfl, hno⟩ | ⟨h1, h2⟩
              · simp only [PP, P1, P2, P3, P4, P5, P6, P7, P8, P9, P10, P11, P12, P13, P14, L1, P15, N1, N2, N3, N4, N5, N6, N7, I1, I2, I3, I4, I5, I6, I7, reduceIte, reduceCtorEq, msC_len, msC_one, msC_und, under_slM, msC_0, psub_msC, pover_msC, z9, z9t, msL_len, msL_und, msL_one, prepl_ms, limC_len, limC_one, limC_und, limC_len0, pfrzL_msC, pfrzL_limC, psub_limC, pover_limC, z8, pcells_cp, one_cp, solC_und, solC_0, solC_1, solC_2, k0, kn, ko, kp, ks, i0, u0, u1', d, hs, hp, g2, g3, g4, s1, s2]
                refine rvia_p T P (show p ≤ 16 by omega) hz (fun w y1 y2 => ?_)
                have hy : decide (w = x) = strQ pr ms k u := by
                  unfold strQ
                  rw [e2, Int.toNat_natCast, eZ, eN, ← y2]
                  by_cases e : w = x
                  · subst e; simp
                  · have : ¬ w.num (limL pr) = x.num (limL pr) := fun q => e (Ms.inj y1 hx q)
                    simp [e, this]
                simp only [PP, P1, P2, P3, P4, P5, P6, P7, P8, P9, P10, P11, P12, P13, P14, L1, P15, N1, N2, N3, N4, N5, N6, N7, I1, I2, I3, I4, I5, I6, I7, reduceIte, reduceCtorEq, msC_len, msC_one, msC_und, under_slM, msC_0, psub_msC, pover_msC, z9, z9t, msL_len, msL_und, msL_one, prepl_ms, limC_len, limC_one, limC_und, limC_len0, pfrzL_msC, pfrzL_limC, psub_limC, pover_limC, z8, pcells_cp, one_cp, solC_und, solC_0, solC_1, solC_2, k0, kn, r1, r2, peq_msC (y1.fit hlt) (hx.fit hlt), hy]
                cases hq : strQ pr ms k u with
                | true =>
                  simp only [PP, P1, P2, P3, P4, P5, P6, P7, P8, P9, P10, P11, P12, P13, P14, L1, P15, N1, N2, N3, N4, N5, N6, N7, I1, I2, I3, I4, I5, I6, I7, reduceIte, reduceCtorEq, msC_len, msC_one, msC_und, under_slM, msC_0, psub_msC, pover_msC, z9, z9t, msL_len, msL_und, msL_one, prepl_ms, limC_len, limC_one, limC_und, limC_len0, pfrzL_msC, pfrzL_limC, psub_limC, pover_limC, z8, pcells_cp, one_cp, solC_und, solC_0, solC_1, solC_2, k0, ks, i0, d, g3, g4, hwi]
                  refine SemW_weak (ih2 (i + 1) u ⟨by omega, .inr ⟨u0, ?_⟩⟩ (by omega)) (by simp only [PWeak_nil, PWeak_junk, PWeak_same, Int.cast_ofNat_Int, List.length_append, List.length_cons, List.length_nil, Nat.zero_add])
                  rw [ef, find_take g4 hno hq]; rfl
                | false =>
                  simp only [PP, P1, P2, P3, P4, P5, P6, P7, P8, P9, P10, P11, P12, P13, P14, L1, P15, N1, N2, N3, N4, N5, N6, N7, I1, I2, I3, I4, I5, I6, I7, reduceIte, reduceCtorEq, msC_len, msC_one, msC_und, under_slM, msC_0, psub_msC, pover_msC, z9, z9t, msL_len, msL_und, msL_one, prepl_ms, limC_len, limC_one, limC_und, limC_len0, pfrzL_msC, pfrzL_limC, psub_limC, pover_limC, z8, pcells_cp, one_cp, solC_und, solC_0, solC_1, solC_2, hwi]
                  refine SemW_weak (ih2 (i + 1) (-1) ⟨by omega, .inl ⟨rfl, fun j w' h1 h2 => ?_⟩⟩ (by omega)) (by simp only [PWeak_nil, PWeak_junk, PWeak_same, Int.cast_ofNat_Int, List.length_append, List.length_cons, List.length_nil, Nat.zero_add])
                  by_cases ej : j = i
                  · subst ej; rw [g4] at h2; cases h2; exact hq
                  · exact hno j w' (by omega) h2
              · omega
            · rcases hI with ⟨rfl, _⟩ | ⟨h1, h2⟩
              · exact absurd (by decide) q
              · simp only [PP, P1, P2, P3, P4, P5, P6, P7, P8, P9, P10, P11, P12, P13, P14, L1, P15, N1, N2, N3, N4, N5, N6, N7, I1, I2, I3, I4, I5, I6, I7, reduceIte, reduceCtorEq, msC_len, msC_one, msC_und, under_slM, msC_0, psub_msC, pover_msC, z9, z9t, msL_len, msL_und, msL_one, prepl_ms, limC_len, limC_one, limC_und, limC_len0, pfrzL_msC, pfrzL_limC, psub_limC, pover_limC, z8, pcells_cp, one_cp, solC_und, solC_0, solC_1, solC_2, q]
                subst h2
                exact (by simp only [PWeak_nil, PWeak_junk, PWeak_same, Int.cast_ofNat_Int, List.length_append, List.length_cons, List.length_nil, Nat.zero_add])
        · rw [if_neg (fun h => e h.1)] at ef
          simp only [PP, P1, P2, P3, P4, P5, P6, P7, P8, P9, P10, P11, P12, P13, P14, L1, P15, N1, N2, N3, N4, N5, N6, N7, I1, I2, I3, I4, I5, I6, I7, reduceIte, reduceCtorEq, msC_len, msC_one, msC_und, under_slM, msC_0, psub_msC, pover_msC, z9, z9t, msL_len, msL_und, msL_one, prepl_ms, limC_len, limC_one, limC_und, limC_len0, pfrzL_msC, pfrzL_limC, psub_limC, pover_limC, z8, pcells_cp, one_cp, solC_und, solC_0, solC_1, solC_2, d, e, k0, kn, ko, g1]
          rcases hI with ⟨rfl, _⟩ | ⟨h1, h2⟩
          · simp only [PWeak_nil, PWeak_junk, PWeak_same, ef]
          · rw [ef] at h2; omega
      · have hir : i = row.length := by omega
        subst hir
        simp only [PP, P1, P2, P3, P4, P5, P6, P7, P8, P9, P10, P11, P12, P13, P14, L1, P15, N1, N2, N3, N4, N5, N6, N7, I1, I2, I3, I4, I5, I6, I7, reduceIte, reduceCtorEq, msC_len, msC_one, msC_und, under_slM, msC_0, psub_msC, pover_msC, z9, z9t, msL_len, msL_und, msL_one, prepl_ms, limC_len, limC_one, limC_und, limC_len0, pfrzL_msC, pfrzL_limC, psub_limC, pover_limC, z8, pcells_cp, one_cp, solC_und, solC_0, solC_1, solC_2, d]
        rcases hI with ⟨rfl, hno⟩ | ⟨h1, h2⟩
        · have : strF ow pr su ms k = -1 := by
            rw [ef, find_nil hno]
            split <;> rfl
          simp only [PWeak_nil, PWeak_junk, PWeak_same, this]
        · subst h2
          exact (by simp only [PWeak_nil, PWeak_junk, PWeak_same, Int.cast_ofNat_Int, List.length_append, List.length_cons, List.length_nil, Nat.zero_add])
    · rintro b N ⟨hw, rfl⟩
      refine SemW_weak ?_ hw
      refine SemW_of ?_
      simp only [PP, P1, P2, P3, P4, P5, P6, P7, P8, P9, P10, P11, P12, P13, P14, L1, P15, N1, N2, N3, N4, N5, N6, N7, I1, I2, I3, I4, I5, I6, I7, reduceIte, reduceCtorEq, msC_len, msC_one, msC_und, under_slM, msC_0, psub_msC, pover_msC, z9, z9t, msL_len, msL_und, msL_one, prepl_ms, limC_len, limC_one, limC_und, limC_len0, pfrzL_msC, pfrzL_limC, psub_limC, pover_limC, z8, pcells_cp, one_cp, solC_und, solC_0, solC_1, solC_2, hps, c8, c1, hex]
      refine SemW_of ?_
      simp only [PP, P1, P2, P3, P4, P5, P6, P7, P8, P9, P10, P11, P12, P13, P14, L1, P15, N1, N2, N3, N4, N5, N6, N7, I1, I2, I3, I4, I5, I6, I7, reduceIte, reduceCtorEq, hwk]
      refine SemW_to (ih (k + 1) (g + 1) 0 hk' (by omega)) (by simp only [PWeak_nil, PWeak_junk, PWeak_same, Int.cast_ofNat_Int, List.length_append, List.length_cons, List.length_nil, Nat.zero_add]) ?_
      rw [tabA_succ, List.map_append]; rfl
  · have hkn : k = ms.length := by omega
    subst hkn
    simp only [PP, P1, P2, P3, P4, P5, P6, P7, P8, P9, P10, P11, P12, P13, P14, L1, P15, N1, N2, N3, N4, N5, N6, N7, I1, I2, I3, I4, I5, I6, I7, reduceIte, reduceCtorEq, c]
    rw [frzIs (tabA_len _ _)]
    simp only [PP, P1, P2, P3, P4, P5, P6, P7, P8, P9, P10, P11, P12, P13, P14, L1, P15, N1, N2, N3, N4, N5, N6, N7, I1, I2, I3, I4, I5, I6, I7, reduceIte, reduceCtorEq]
    exact hk ms hLM
end
end Go.Am.Ar

