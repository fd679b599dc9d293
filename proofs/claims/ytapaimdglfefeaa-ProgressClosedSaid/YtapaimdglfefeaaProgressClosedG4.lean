/- Contracts: sizes of games, and measures copied and compared, and what goes with it. -/
import Derived.Test.YtapaimdglfefeaaProgressClosedG3
import Derived.Test.YtapaimdglfefeaaProgressClosedG0
import Derived.Test.YtapaimdglfefeaaPmL
set_option linter.unusedVariables false
set_option linter.unusedSimpArgs false
set_option maxRecDepth 10000
namespace Go.Am.Ar
open Go.Am renaming pchk → P1, pold → P2, PKNo → P3, ppack → P4, PObj.under → P5, pput → P6, ptset → P7, ptget → P8, pev → P9, ofAV → P10, ofAV1 → P11, ppad → P12, pfill → P13, prepl → P14, AO.effect → P15
open List renaming replicate → L1
open Nat renaming reduceAdd → N1, reduceSub → N2, reduceMul → N3, reduceLT → N4, reduceLeDiff → N5, reduceEqDiff → N6, reduceBEq → N7
open Int renaming reduceToNat → I1, reduceLT → I2, reduceLE → I3, reduceEq → I4, reduceAdd → I5, reduceSub → I6, reduceNeg → I7
theorem SemC_argsN {tab : FuncId → Option AF} {g : FuncId} {args args2 : List PV} {M : Mem} {K : PV → Mem → Prop} (h : ∀ w l, RepL w args l → RepL w args2 l) (hc : SemC tab g args2 M K) : SemC tab g args M K :=
  fun w hh args' h0 s ha => hc w hh args' h0 s (h w args' ha)
section
variable {tab : FuncId → Option AF} (T : HasA tab)
include T
theorem size_p {M : Mem} {K : PV → Mem → Prop} {f1 o1 f2 o2 f3 o3 f4 o4 : Bool} {ow pr : List Int} {su : List (List Int)} (P : PrOk pr) (hk : ∀ s : Int, (s ≤ 600 → mT (limL pr) ≤ 600) → K (p64 s) M) :
    SemC tab 33 [gmP f1 o1 f2 o2 f3 o3 f4 o4 ow pr su, p64 600] M K := by
  have h8 := limL_len pr
  refine SemC_pure T.h33 (by simp only [PP, P1, P2, P3, P4, P5, P6, P7, P8, P9, P10, P11, P12, P13, P14, L1, P15, N1, N2, N3, N4, N5, N6, N7, I1, I2, I3, I4, I5, I6, I7, reduceIte, reduceCtorEq, msC_len, msC_one, msC_und, under_slM, msC_0, psub_msC, pover_msC, z9, z9t, msL_len, msL_und, msL_one, prepl_ms, limC_len, limC_one, limC_und, limC_len0, pfrzL_msC, pfrzL_limC, psub_limC, pover_limC, z8, pcells_cp, one_cp, solC_und, solC_0, solC_1, solC_2, PV.under]) ?_
  simp only [af33, PP, P1, P2, P3, P4, P5, P6, P7, P8, P9, P10, P11, P12, P13, P14, L1, P15, N1, N2, N3, N4, N5, N6, N7, I1, I2, I3, I4, I5, I6, I7, reduceIte, reduceCtorEq, msC_len, msC_one, msC_und, under_slM, msC_0, psub_msC, pover_msC, z9, z9t, msL_len, msL_und, msL_one, prepl_ms, limC_len, limC_one, limC_und, limC_len0, pfrzL_msC, pfrzL_limC, psub_limC, pover_limC, z8, pcells_cp, one_cp, solC_und, solC_0, solC_1, solC_2]
  refine limits_p T P ?_
  simp only [PP, P1, P2, P3, P4, P5, P6, P7, P8, P9, P10, P11, P12, P13, P14, L1, P15, N1, N2, N3, N4, N5, N6, N7, I1, I2, I3, I4, I5, I6, I7, reduceIte, reduceCtorEq, msC_len, msC_one, msC_und, under_slM, msC_0, psub_msC, pover_msC, z9, z9t, msL_len, msL_und, msL_one, prepl_ms, limC_len, limC_one, limC_und, limC_len0, pfrzL_msC, pfrzL_limC, psub_limC, pover_limC, z8, pcells_cp, one_cp, solC_und, solC_0, solC_1, solC_2]
  refine loop1 (fun (k : Nat) => k ≤ 8 ∧ mB (limL pr) k ≤ 600 * 1000000000001) (fun k => [.junk, p64 600, .junk, .junk, .junk, .ptr 1 0 0, p64 ((mB (limL pr) k : Nat) : Int), p64 k, .junk, .junk, .junk, .junk, .junk, .junk, .junk, .junk, .junk, .junk, .junk, .junk, .junk, .junk, .junk, .junk, .junk, .junk])
    (fun k => [.cells 0 0 [slI f1 o1 .u8 ow, slI f2 o2 .i64 pr, slR f3 o3 f4 o4 .i64 su], .cells 0 1 (limC (limL pr))]) (fun k => 8 - k) 0 ⟨by omega, by show 1 ≤ _; omega⟩ (by simp only [PWeak_nil, PWeak_junk, PWeak_same, Int.cast_ofNat_Int, show mB (limL pr) 0 = 1 from rfl]) rfl ?_
  intro k ⟨hle, hb⟩ ih
  refine SemW_go (by kernel_rfl) ?_
  simp only [PP, P1, P2, P3, P4, P5, P6, P7, P8, P9, P10, P11, P12, P13, P14, L1, P15, N1, N2, N3, N4, N5, N6, N7, I1, I2, I3, I4, I5, I6, I7, reduceIte, reduceCtorEq]
  refine QIf.intro (fun c => ?_) (fun c => ?_)
  · simp only [PP, P1, P2, P3, P4, P5, P6, P7, P8, P9, P10, P11, P12, P13, P14, L1, P15, N1, N2, N3, N4, N5, N6, N7, I1, I2, I3, I4, I5, I6, I7, reduceIte, reduceCtorEq, c]
    refine QIf.intro (fun d => ?_) (fun d => ?_)
    · have hk8 : k < 8 := by omega
      have k0 : (0 : Int) ≤ k := by omega
      have k8 : (k : Int) < 8 := by omega
      have hwk := wrap_succ (k := k) (by show _ < 1000000000000; omega)
      have gn := limL_at pr hk8
      have hn := limL_lt P.1 _ (List.mem_of_getElem? gn)
      have hs := mB_succ gn
      have g2 := limC_at gn
      generalize pr.count ((2 * k + 1 : Nat) : Int) = n at gn hn hs g2
      have hw1 := wrap_succ (k := n) (by show _ < 1000000000000; omega)
      have hmul : mB (limL pr) k * (n + 1) ≤ 600 * 1000000000001 := Nat.mul_le_mul (by omega) (by omega)
      have hw2 : IntKind.i64.wrap ((mB (limL pr) k : Nat) * ((n + 1 : Nat) : Int)) = ((mB (limL pr) (k + 1) : Nat) : Int) := by
        rw [hs, ← Int.natCast_mul]
        exact wrap64 (by omega) (by omega)
      simp only [PP, P1, P2, P3, P4, P5, P6, P7, P8, P9, P10, P11, P12, P13, P14, L1, P15, N1, N2, N3, N4, N5, N6, N7, I1, I2, I3, I4, I5, I6, I7, reduceIte, reduceCtorEq, msC_len, msC_one, msC_und, under_slM, msC_0, psub_msC, pover_msC, z9, z9t, msL_len, msL_und, msL_one, prepl_ms, limC_len, limC_one, limC_und, limC_len0, pfrzL_msC, pfrzL_limC, psub_limC, pover_limC, z8, pcells_cp, one_cp, solC_und, solC_0, solC_1, solC_2, c, d, k0, k8, g2, hw1, hw2, hwk]
      exact SemW_weak (ih (k + 1) ⟨hk8, by rw [hs]; exact hmul⟩ (by omega)) (by simp only [PWeak_nil, PWeak_junk, PWeak_same, Int.cast_ofNat_Int, List.length_append, List.length_cons, List.length_nil, Nat.zero_add])
    · simp only [PP, P1, P2, P3, P4, P5, P6, P7, P8, P9, P10, P11, P12, P13, P14, L1, P15, N1, N2, N3, N4, N5, N6, N7, I1, I2, I3, I4, I5, I6, I7, reduceIte, reduceCtorEq, c, d]
      exact hk _ fun h => absurd h d
  · have hk8 : k = 8 := by omega
    subst hk8
    simp only [PP, P1, P2, P3, P4, P5, P6, P7, P8, P9, P10, P11, P12, P13, P14, L1, P15, N1, N2, N3, N4, N5, N6, N7, I1, I2, I3, I4, I5, I6, I7, reduceIte, reduceCtorEq]
    refine hk _ fun h => ?_
    rw [mT_split _ 8, List.drop_of_length_le (by omega)]
    simp only [mT]; omega
theorem long31_p {M : Mem} {K : PV → Mem → Prop} {f1 o1 f2 o2 f3 o3 f4 o4 : Bool} {ow pr : List Int} {su : List (List Int)}
    (hk : ∀ b : Bool, (b = false → longM ow pr su [] = false ∧ ow.length ≤ 12 ∧ (checkM ow pr su = 0 → mT (limL pr) ≤ 600)) → K (.bool b) M) :
    SemC tab 9 [gmP f1 o1 f2 o2 f3 o3 f4 o4 ow pr su] M K := by
  refine SemC_pure T.h9 (by simp only [PP, P1, P2, P3, P4, P5, P6, P7, P8, P9, P10, P11, P12, P13, P14, L1, P15, N1, N2, N3, N4, N5, N6, N7, I1, I2, I3, I4, I5, I6, I7, reduceIte, reduceCtorEq]) ?_
  simp only [af9, PP, P1, P2, P3, P4, P5, P6, P7, P8, P9, P10, P11, P12, P13, P14, L1, P15, N1, N2, N3, N4, N5, N6, N7, I1, I2, I3, I4, I5, I6, I7, reduceIte, reduceCtorEq]
  refine SemC_argsN (args2 := [gmP f1 o1 f2 o2 f3 o3 f4 o4 ow pr su, slR false false false false .i64 []]) (fun w l h => by
    match l, h with
    | [a, b], h => exact .cons h.hd (.cons (PvWk.nils false false 1 w b h.tl.hd) (.nil w))
    | [], h => exact absurd h.len (by simp)
    | [_], h => exact absurd h.len (by simp)
    | _ :: _ :: _ :: _, h => exact absurd h.len (by simp)) (long_p T (ls := []) (by show 0 < 1000000000000; omega) ?_)
  cases hl : longM ow pr su [] with
  | true =>
    simp only [PP, P1, P2, P3, P4, P5, P6, P7, P8, P9, P10, P11, P12, P13, P14, L1, P15, N1, N2, N3, N4, N5, N6, N7, I1, I2, I3, I4, I5, I6, I7, reduceIte, reduceCtorEq]
    exact hk true fun h => by cases h
  | false =>
    have B := (longM_false hl).bnd
    simp only [PP, P1, P2, P3, P4, P5, P6, P7, P8, P9, P10, P11, P12, P13, P14, L1, P15, N1, N2, N3, N4, N5, N6, N7, I1, I2, I3, I4, I5, I6, I7, reduceIte, reduceCtorEq]
    refine QIf.intro (fun c => ?_) (fun c => ?_)
    · simp only [PP, P1, P2, P3, P4, P5, P6, P7, P8, P9, P10, P11, P12, P13, P14, L1, P15, N1, N2, N3, N4, N5, N6, N7, I1, I2, I3, I4, I5, I6, I7, reduceIte, reduceCtorEq, c]
      exact hk true fun h => by cases h
    · simp only [PP, P1, P2, P3, P4, P5, P6, P7, P8, P9, P10, P11, P12, P13, P14, L1, P15, N1, N2, N3, N4, N5, N6, N7, I1, I2, I3, I4, I5, I6, I7, reduceIte, reduceCtorEq, c]
      refine refCheck_p T B ?_
      simp only [PP, P1, P2, P3, P4, P5, P6, P7, P8, P9, P10, P11, P12, P13, P14, L1, P15, N1, N2, N3, N4, N5, N6, N7, I1, I2, I3, I4, I5, I6, I7, reduceIte, reduceCtorEq]
      by_cases d : checkM ow pr su = 0
      · simp only [PP, P1, P2, P3, P4, P5, P6, P7, P8, P9, P10, P11, P12, P13, P14, L1, P15, N1, N2, N3, N4, N5, N6, N7, I1, I2, I3, I4, I5, I6, I7, reduceIte, reduceCtorEq, d]
        refine size_p T (valid_pr (valid_of d)) (fun s hs => ?_)
        simp only [PP, P1, P2, P3, P4, P5, P6, P7, P8, P9, P10, P11, P12, P13, P14, L1, P15, N1, N2, N3, N4, N5, N6, N7, I1, I2, I3, I4, I5, I6, I7, reduceIte, reduceCtorEq]
        exact hk _ fun h => ⟨hl, by omega, fun _ => hs (by have := of_decide_eq_false h; omega)⟩
      · simp only [PP, P1, P2, P3, P4, P5, P6, P7, P8, P9, P10, P11, P12, P13, P14, L1, P15, N1, N2, N3, N4, N5, N6, N7, I1, I2, I3, I4, I5, I6, I7, reduceIte, reduceCtorEq, d]
        exact hk false fun _ => ⟨hl, by omega, fun h => absurd h d⟩
end
end Go.Am.Ar
set_option linter.unusedVariables false
set_option linter.unusedSimpArgs false
set_option maxRecDepth 10000
namespace Go.Am.Ar
open Go.Am renaming pchk → P1, pold → P2, PKNo → P3, ppack → P4, PObj.under → P5, pput → P6, ptset → P7, ptget → P8, pev → P9, ofAV → P10, ofAV1 → P11, ppad → P12, pfill → P13, prepl → P14, AO.effect → P15
open List renaming replicate → L1
open Nat renaming reduceAdd → N1, reduceSub → N2, reduceMul → N3, reduceLT → N4, reduceLeDiff → N5, reduceEqDiff → N6, reduceBEq → N7
open Int renaming reduceToNat → I1, reduceLT → I2, reduceLE → I3, reduceEq → I4, reduceAdd → I5, reduceSub → I6, reduceNeg → I7
theorem LiftA.ok {ow pr : List Int} {su : List (List Int)} {ms : List Ms} {v : Nat} {y : Ms} {e : Int} (h : LiftA ow pr su ms v y e) (c1 : checkM ow pr su = 0) (hS : StOk (limL pr) ow.length ms) (hv : v < ow.length) : y.Ok (limL pr) ∧ y.num (limL pr) = gL ow pr su (Nf (limL pr) ms) v ∧ e = 0 := by
  rcases h with ⟨a1, a2, a3⟩ | ⟨a1, a2, a3, a4⟩ | ⟨a1, a2, a3, a4, a5⟩ | ⟨a1, a2, a3, a4, a5⟩ | ⟨a1, a2, a3, a4, a5, a6, a7⟩
  · exact absurd c1 a1
  · exact absurd hS.l a2
  · exact absurd hS.ok a3
  · omega
  · exact ⟨a5, by rw [a6, Int.toNat_natCast], a7⟩
theorem LiftA.cases {ow pr : List Int} {su : List (List Int)} {ms : List Ms} {v : Int} {y : Ms} {e : Int} (h : LiftA ow pr su ms v y e) : ¬ e = 0 ∨ (checkM ow pr su = 0 ∧ StOk (limL pr) ow.length ms ∧ 0 ≤ v ∧ v < ow.length ∧ y.Ok (limL pr) ∧ y.num (limL pr) = gL ow pr su (Nf (limL pr) ms) v.toNat ∧ e = 0) := by
  rcases h with ⟨a1, a2, a3⟩ | ⟨a1, a2, a3, a4⟩ | ⟨a1, a2, a3, a4, a5⟩ | ⟨a1, a2, a3, a4, a5⟩ | ⟨a1, a2, a3, a4, a5, a6, a7⟩
  · exact .inl (by rw [a3]; exact a1)
  · exact .inl (by rw [a4]; decide)
  · exact .inl (by rw [a5]; decide)
  · exact .inl (by rw [a5]; decide)
  · exact .inr ⟨a1, a2, a3, a4, a5, a6, a7⟩
section
variable {tab : FuncId → Option AF} (T : HasA tab)
include T
end
end Go.Am.Ar
set_option linter.unusedVariables false
set_option linter.unusedSimpArgs false
set_option maxRecDepth 10000
namespace Go.Am.Ar
open Go.Am renaming pchk → P1, pold → P2, PKNo → P3, ppack → P4, PObj.under → P5, pput → P6, ptset → P7, ptget → P8, pev → P9, ofAV → P10, ofAV1 → P11, ppad → P12, pfill → P13, prepl → P14, AO.effect → P15
open List renaming replicate → L1
open Nat renaming reduceAdd → N1, reduceSub → N2, reduceMul → N3, reduceLT → N4, reduceLeDiff → N5, reduceEqDiff → N6, reduceBEq → N7
open Int renaming reduceToNat → I1, reduceLT → I2, reduceLE → I3, reduceEq → I4, reduceAdd → I5, reduceSub → I6, reduceNeg → I7
section
variable {tab : FuncId → Option AF} (T : HasA tab)
include T
theorem given_r {K : PV → Mem → Prop} {f o : Bool} {ms : List Ms} {m0 : PObj} (hb : ms.length < 1000000000) (hk : ∀ g v, K (.ref 1 g 9 0 ms.length) [m0, .cells g v (msL ms)]) :
    SemC tab 24 [slM f o ms] [m0] K := by
  refine SemC_fn T.h24 ?_
  simp only [af24, PP, P1, P2, P3, P4, P5, P6, P7, P8, P9, P10, P11, P12, P13, P14, L1, P15, N1, N2, N3, N4, N5, N6, N7, I1, I2, I3, I4, I5, I6, I7, reduceIte, reduceCtorEq, msC_len, msC_one, msC_und, under_slM, msC_0, psub_msC, pover_msC, z9, z9t, msL_len, msL_und, msL_one, prepl_ms, limC_len, limC_one, limC_und, limC_len0, pfrzL_msC, pfrzL_limC, psub_limC, pover_limC, z8, pcells_cp, one_cp, solC_und, solC_0, solC_1, solC_2]
  refine SemW_re (GStep.nil 3 9 rfl rfl rfl) ?_
  refine loop3 (fun (k g v : Nat) => k ≤ ms.length) (fun k g v => [slM f o ms, .junk, .junk, .ref 1 g 9 0 k, p64 k, .junk, .junk, .junk, .junk, .junk, .junk, .junk, .junk, .junk, .junk, .junk, .junk, .junk, .junk]) (fun k g v => [m0, .cells g v (msL (ms.take k))]) (fun k _ _ => ms.length - k) 0 0 0 (by omega) (by simp only [PP, P1, P2, P3, P4, P5, P6, P7, P8, P9, P10, P11, P12, P13, P14, L1, P15, N1, N2, N3, N4, N5, N6, N7, I1, I2, I3, I4, I5, I6, I7, reduceIte, reduceCtorEq, PWeak_nil, PWeak_junk, PWeak_same, Int.cast_ofNat_Int]) (by simp only [PP, P1, P2, P3, P4, P5, P6, P7, P8, P9, P10, P11, P12, P13, P14, L1, P15, N1, N2, N3, N4, N5, N6, N7, I1, I2, I3, I4, I5, I6, I7, reduceIte, reduceCtorEq]; rfl) ?_
  intro k g v hle ih
  refine SemW_go (by kernel_rfl) ?_
  simp only [PP, P1, P2, P3, P4, P5, P6, P7, P8, P9, P10, P11, P12, P13, P14, L1, P15, N1, N2, N3, N4, N5, N6, N7, I1, I2, I3, I4, I5, I6, I7, reduceIte, reduceCtorEq]
  refine QIf.intro (fun d => ?_) (fun d => ?_)
  · have hk' : k < ms.length := by omega
    have k0 : (0 : Int) ≤ k := by omega
    have hwk := wrap_succ (k := k) (by show _ < 1000000000000; omega)
    obtain ⟨x, g1⟩ := some_of (xs := ms) (k := k) hk'
    have p1 := psub_msL g1
    have l1 := ms_lt g1
    have lt : (ms.take k).length = k := by simp; omega
    have hps : psub (msL (ms.take k)) 0 (k * 9) = msL (ms.take k) := by
      have := psub_msL0 (ms.take k); rwa [lt] at this
    have c72 : (k + 1) * 72 ≤ 140737488355328 := by omega
    have c1 : k + 1 ≤ 9223372036854775807 := by omega
    have c9 : k * 9 ≤ (ms.take k).length * 9 := by rw [lt]; omega
    simp only [PP, P1, P2, P3, P4, P5, P6, P7, P8, P9, P10, P11, P12, P13, P14, L1, P15, N1, N2, N3, N4, N5, N6, N7, I1, I2, I3, I4, I5, I6, I7, reduceIte, reduceCtorEq, msC_len, msC_one, msC_und, under_slM, msC_0, psub_msC, pover_msC, z9, z9t, msL_len, msL_und, msL_one, prepl_ms, limC_len, limC_one, limC_und, limC_len0, pfrzL_msC, pfrzL_limC, psub_limC, pover_limC, z8, pcells_cp, one_cp, solC_und, solC_0, solC_1, solC_2, d, k0, p1, l1, hps, c72, c1, c9, hwk]
    exact SemW_to (ih (k + 1) (g + 1) 0 hk' (by omega)) (by simp only [PWeak_nil, PWeak_junk, PWeak_same, Int.cast_ofNat_Int, List.length_append, List.length_cons, List.length_nil, Nat.zero_add]) (by rw [msL_app, take_some g1])
  · have hkn : k = ms.length := by omega
    subst hkn
    simp only [PP, P1, P2, P3, P4, P5, P6, P7, P8, P9, P10, P11, P12, P13, P14, L1, P15, N1, N2, N3, N4, N5, N6, N7, I1, I2, I3, I4, I5, I6, I7, reduceIte, reduceCtorEq, d]
    rw [List.take_of_length_le (Nat.le_refl _)]
    exact hk g v
set_option maxHeartbeats 2000000 in
theorem pclosed_p {ow pr : List Int} {su : List (List Int)} {ms : List Ms} (hml : ms.length ≤ 9223372036854775807) :
    SemC tab 7 [gmP false false false false false false false false ow pr su, slM false false ms] [] fun r _ => r = .bool true := by
  refine SemC_fn T.h7 ?_
  simp only [af7, PP, P1, P2, P3, P4, P5, P6, P7, P8, P9, P10, P11, P12, P13, P14, L1, P15, N1, N2, N3, N4, N5, N6, N7, I1, I2, I3, I4, I5, I6, I7, reduceIte, reduceCtorEq]
  refine long31_p T (fun b hb => ?_)
  cases b with
  | true =>
    simp only [PP, P1, P2, P3, P4, P5, P6, P7, P8, P9, P10, P11, P12, P13, P14, L1, P15, N1, N2, N3, N4, N5, N6, N7, I1, I2, I3, I4, I5, I6, I7, reduceIte, reduceCtorEq]
    refine SemC_true T.awake ?_
    simp only [PP, P1, P2, P3, P4, P5, P6, P7, P8, P9, P10, P11, P12, P13, P14, L1, P15, N1, N2, N3, N4, N5, N6, N7, I1, I2, I3, I4, I5, I6, I7, reduceIte, reduceCtorEq]
  | false =>
    obtain ⟨hl, h12, hT⟩ := hb rfl
    have S := longM_false hl
    have B := S.bnd
    simp only [PP, P1, P2, P3, P4, P5, P6, P7, P8, P9, P10, P11, P12, P13, P14, L1, P15, N1, N2, N3, N4, N5, N6, N7, I1, I2, I3, I4, I5, I6, I7, reduceIte, reduceCtorEq]
    refine QIf.intro (fun c0 => ?_) (fun c0 => ?_)
    · simp only [PP, P1, P2, P3, P4, P5, P6, P7, P8, P9, P10, P11, P12, P13, P14, L1, P15, N1, N2, N3, N4, N5, N6, N7, I1, I2, I3, I4, I5, I6, I7, reduceIte, reduceCtorEq, c0]
      refine SemC_true T.awake ?_
      simp only [PP, P1, P2, P3, P4, P5, P6, P7, P8, P9, P10, P11, P12, P13, P14, L1, P15, N1, N2, N3, N4, N5, N6, N7, I1, I2, I3, I4, I5, I6, I7, reduceIte, reduceCtorEq]
    simp only [PP, P1, P2, P3, P4, P5, P6, P7, P8, P9, P10, P11, P12, P13, P14, L1, P15, N1, N2, N3, N4, N5, N6, N7, I1, I2, I3, I4, I5, I6, I7, reduceIte, reduceCtorEq, c0]
    refine SemC_true T.awake ?_
    simp only [PP, P1, P2, P3, P4, P5, P6, P7, P8, P9, P10, P11, P12, P13, P14, L1, P15, N1, N2, N3, N4, N5, N6, N7, I1, I2, I3, I4, I5, I6, I7, reduceIte, reduceCtorEq]
    refine measures_p T B (fun L e hA => ?_)
    simp only [PP, P1, P2, P3, P4, P5, P6, P7, P8, P9, P10, P11, P12, P13, P14, L1, P15, N1, N2, N3, N4, N5, N6, N7, I1, I2, I3, I4, I5, I6, I7, reduceIte, reduceCtorEq]
    refine given_r T (by omega) (fun g ver => ?_)
    have bor : ∀ (ver : Nat) (ms' : List Ms) (k : Int), PBor [.cells 0 0 [slI false false .u8 ow, slI false false .i64 pr, slR false false false false .i64 su], .cells g ver (msL ms')] [gmP false false false false false false false false ow pr su, .ref 1 g 9 0 ms'.length, p64 k] [gmP false false false false false false false false ow pr su, slM true false ms', p64 k] := fun ver ms' k =>
      .same (by simp only [PP, P1, P2, P3, P4, P5, P6, P7, P8, P9, P10, P11, P12, P13, P14, L1, P15, N1, N2, N3, N4, N5, N6, N7, I1, I2, I3, I4, I5, I6, I7, reduceIte, reduceCtorEq]) (.ref rfl (by rw [msL_len]; omega) (msL_und _ _) (psub_msL0 ms') (.same (by simp only [PP, P1, P2, P3, P4, P5, P6, P7, P8, P9, P10, P11, P12, P13, P14, L1, P15, N1, N2, N3, N4, N5, N6, N7, I1, I2, I3, I4, I5, I6, I7, reduceIte, reduceCtorEq]) .nil))
    simp only [PP, P1, P2, P3, P4, P5, P6, P7, P8, P9, P10, P11, P12, P13, P14, L1, P15, N1, N2, N3, N4, N5, N6, N7, I1, I2, I3, I4, I5, I6, I7, reduceIte, reduceCtorEq]
    refine SemC_bor (bor ver ms 0) (Lift_p T B (by omega) (fun y e2 hA2 => ⟨by simp only [PV.flat, PV.flatA, PV.flat1, msC_flat, List.all_cons, List.all_nil, Bool.and_self], ?_⟩))
    rcases hA with ⟨c1, rfl, rfl⟩ | ⟨c1, rfl, hL⟩
    · simp only [PP, P1, P2, P3, P4, P5, P6, P7, P8, P9, P10, P11, P12, P13, P14, L1, P15, N1, N2, N3, N4, N5, N6, N7, I1, I2, I3, I4, I5, I6, I7, reduceIte, reduceCtorEq, msC_len, msC_one, msC_und, under_slM, msC_0, psub_msC, pover_msC, z9, z9t, msL_len, msL_und, msL_one, prepl_ms, limC_len, limC_one, limC_und, limC_len0, pfrzL_msC, pfrzL_limC, psub_limC, pover_limC, z8, pcells_cp, one_cp, solC_und, solC_0, solC_1, solC_2, c1]
    have V := valid_of c1
    have n0 := V.n0
    have hLl := hL.st.l
    rcases hA2.cases with he | ⟨_, hS, _, _, _, _, rfl⟩
    · simp only [PP, P1, P2, P3, P4, P5, P6, P7, P8, P9, P10, P11, P12, P13, P14, L1, P15, N1, N2, N3, N4, N5, N6, N7, I1, I2, I3, I4, I5, I6, I7, reduceIte, reduceCtorEq, msC_len, msC_one, msC_und, under_slM, msC_0, psub_msC, pover_msC, z9, z9t, msL_len, msL_und, msL_one, prepl_ms, limC_len, limC_one, limC_und, limC_len0, pfrzL_msC, pfrzL_limC, psub_limC, pover_limC, z8, pcells_cp, one_cp, solC_und, solC_0, solC_1, solC_2, he]
    have hml2 := hS.l
    have hTT := hT c1
    have hbig : ow.length * mT (limL pr) ≤ 12 * 600 := Nat.mul_le_mul h12 hTT
    simp only [PP, P1, P2, P3, P4, P5, P6, P7, P8, P9, P10, P11, P12, P13, P14, L1, P15, N1, N2, N3, N4, N5, N6, N7, I1, I2, I3, I4, I5, I6, I7, reduceIte, reduceCtorEq, msC_len, msC_one, msC_und, under_slM, msC_0, psub_msC, pover_msC, z9, z9t, msL_len, msL_und, msL_one, prepl_ms, limC_len, limC_one, limC_und, limC_len0, pfrzL_msC, pfrzL_limC, psub_limC, pover_limC, z8, pcells_cp, one_cp, solC_und, solC_0, solC_1, solC_2, hLl, hml2]
    refine SemW_re (GStep.drop (b := [.junk, .junk, .ptr 0 0 0, .junk, .junk, slM false true L, .junk, .ref 1 g 9 0 ow.length, .junk, .junk, p64 0, .junk, .junk, .junk, .junk, .junk, .junk, .junk, .junk, .junk, .junk, .junk, .junk, .junk, .junk, .junk, .junk, .junk, .junk, .junk, .junk, .junk, .junk, .junk, .junk, .junk, .junk, .junk, .junk, .junk, .junk, .junk, .junk, .junk, .junk, .junk, .junk, .junk, .junk, .junk, .junk, .junk, .junk, .junk, .junk, .junk, .junk, .junk, .junk, .junk, .junk, .junk, .junk, .junk, .junk, .junk, .junk, .junk, .junk, .junk, .junk, .junk, .junk, .junk, .junk, .junk, .junk, .junk, .junk, .junk, .junk, .junk, .junk, .junk, .junk, .junk, .junk, .junk, .junk, .junk, .junk, .junk, .junk, .junk, .junk, .junk, .junk, .junk, .junk, .junk, .junk, .junk, .junk, .junk, .junk, .junk, .junk, .junk]) 2 (Nat.zero_le _) (by simp) (by simp only [PWeak_nil, PWeak_junk, PWeak_same, Int.cast_ofNat_Int, ← hLl]) (by simp only [PP, P1, P2, P3, P4, P5, P6, P7, P8, P9, P10, P11, P12, P13, P14, L1, P15, N1, N2, N3, N4, N5, N6, N7, I1, I2, I3, I4, I5, I6, I7, reduceIte, reduceCtorEq, msC_len, msC_one, msC_und, under_slM, msC_0, psub_msC, pover_msC, z9, z9t, msL_len, msL_und, msL_one, prepl_ms, limC_len, limC_one, limC_und, limC_len0, pfrzL_msC, pfrzL_limC, psub_limC, pover_limC, z8, pcells_cp, one_cp, solC_und, solC_0, solC_1, solC_2]) (by simp only [PP, P1, P2, P3, P4, P5, P6, P7, P8, P9, P10, P11, P12, P13, P14, L1, P15, N1, N2, N3, N4, N5, N6, N7, I1, I2, I3, I4, I5, I6, I7, reduceIte, reduceCtorEq, msC_len, msC_one, msC_und, under_slM, msC_0, psub_msC, pover_msC, z9, z9t, msL_len, msL_und, msL_one, prepl_ms, limC_len, limC_one, limC_und, limC_len0, pfrzL_msC, pfrzL_limC, psub_limC, pover_limC, z8, pcells_cp, one_cp, solC_und, solC_0, solC_1, solC_2]) rfl) ?_
    refine loop3 (fun (r ver : Nat) (ms : List Ms) => StOk (limL pr) ow.length ms ∧ r ≤ sumN ow.length (Nf (limL pr) ms)) (fun r ver ms => [.junk, .junk, .ptr 0 0 0, .junk, .junk, slM false true L, .junk, .ref 1 g 9 0 ow.length, .junk, .junk, p64 r, .junk, .junk, .junk, .junk, .junk, .junk, .junk, .junk, .junk, .junk, .junk, .junk, .junk, .junk, .junk, .junk, .junk, .junk, .junk, .junk, .junk, .junk, .junk, .junk, .junk, .junk, .junk, .junk, .junk, .junk, .junk, .junk, .junk, .junk, .junk, .junk, .junk, .junk, .junk, .junk, .junk, .junk, .junk, .junk, .junk, .junk, .junk, .junk, .junk, .junk, .junk, .junk, .junk, .junk, .junk, .junk, .junk, .junk, .junk, .junk, .junk, .junk, .junk, .junk, .junk, .junk, .junk, .junk, .junk, .junk, .junk, .junk, .junk, .junk, .junk, .junk, .junk, .junk, .junk, .junk, .junk, .junk, .junk, .junk, .junk, .junk, .junk, .junk, .junk, .junk, .junk, .junk, .junk, .junk, .junk, .junk, .junk])
      (fun r ver ms => [.cells 0 0 [slI false false .u8 ow, slI false false .i64 pr, slR false false false false .i64 su], .cells g ver (msL ms)]) (fun r _ _ => 20000 - r) 0 ver ms ⟨hS, Nat.zero_le _⟩ (by simp only [PWeak_nil, PWeak_junk, PWeak_same, Int.cast_ofNat_Int, List.length_append, List.length_cons, List.length_nil, Nat.zero_add]) rfl ?_
    clear hS hml2
    intro r ver ms ⟨hS, hr⟩ ih
    have hsum := sumN_le (n := ow.length) (m := Nf (limL pr) ms) hS.bnd
    have r2 : (r : Int) < 20000 := by omega
    have hwr := wrap_succ (k := r) (by show _ < 1000000000000; omega)
    refine SemW_go (by kernel_rfl) ?_
    simp only [PP, P1, P2, P3, P4, P5, P6, P7, P8, P9, P10, P11, P12, P13, P14, L1, P15, N1, N2, N3, N4, N5, N6, N7, I1, I2, I3, I4, I5, I6, I7, reduceIte, reduceCtorEq, r2]
    refine loop4 (fun (j ver : Nat) (ch : Bool) (ms' : List Ms) => j ≤ ow.length ∧ StOk (limL pr) ow.length ms' ∧ (ch = false → ms' = ms ∧ ∀ u, u < j → gL ow pr su (Nf (limL pr) ms) u ≤ Nf (limL pr) ms u) ∧ (ch = true → sumN ow.length (Nf (limL pr) ms) < sumN ow.length (Nf (limL pr) ms')))
      (fun j ver ch ms' => [.junk, .junk, .ptr 0 0 0, .junk, .junk, slM false true L, .junk, .ref 1 g 9 0 ow.length, .junk, .junk, p64 r, .bool ch, p64 j, .junk, .junk, .junk, .junk, .junk, .junk, .junk, .junk, .junk, .junk, .junk, .junk, .junk, .junk, .junk, .junk, .junk, .junk, .junk, .junk, .junk, .junk, .junk, .junk, .junk, .junk, .junk, .junk, .junk, .junk, .junk, .junk, .junk, .junk, .junk, .junk, .junk, .junk, .junk, .junk, .junk, .junk, .junk, .junk, .junk, .junk, .junk, .junk, .junk, .junk, .junk, .junk, .junk, .junk, .junk, .junk, .junk, .junk, .junk, .junk, .junk, .junk, .junk, .junk, .junk, .junk, .junk, .junk, .junk, .junk, .junk, .junk, .junk, .junk, .junk, .junk, .junk, .junk, .junk, .junk, .junk, .junk, .junk, .junk, .junk, .junk, .junk, .junk, .junk, .junk, .junk, .junk, .junk, .junk, .junk])
      (fun j ver ch ms' => [.cells 0 0 [slI false false .u8 ow, slI false false .i64 pr, slR false false false false .i64 su], .cells g ver (msL ms')]) (fun j _ _ _ => ow.length - j) 0 ver false ms ⟨by omega, hS, fun _ => ⟨rfl, fun u h => by omega⟩, fun h => (by cases h)⟩ (by simp only [PWeak_nil, PWeak_junk, PWeak_same, Int.cast_ofNat_Int, List.length_append, List.length_cons, List.length_nil, Nat.zero_add]) rfl ?_
    intro j ver ch ms' ⟨hle, hS', hf, ht⟩ ih2
    have hml3 := hS'.l
    refine SemW_go (by kernel_rfl) ?_
    simp only [PP, P1, P2, P3, P4, P5, P6, P7, P8, P9, P10, P11, P12, P13, P14, L1, P15, N1, N2, N3, N4, N5, N6, N7, I1, I2, I3, I4, I5, I6, I7, reduceIte, reduceCtorEq]
    refine QIf.intro (fun c => ?_) (fun c => ?_)
    · have hj : j < ow.length := by omega
      have j0 : (0 : Int) ≤ j := by omega
      have jn : (j : Int) < ow.length := by omega
      have hwj := wrap_succ (k := j) (by show _ < 1000000000000; omega)
      obtain ⟨x, g5⟩ := some_of (xs := ms') (k := j) (by omega)
      have hx := hS'.ok x (List.mem_of_getElem? g5)
      have p1 := psub_msL g5
      have l1 := ms_lt g5
      rw [hml3] at l1
      have hjl : j < ms'.length := by omega
      have b2 := bor ver ms' j
      rw [hml3] at b2
      simp only [PP, P1, P2, P3, P4, P5, P6, P7, P8, P9, P10, P11, P12, P13, P14, L1, P15, N1, N2, N3, N4, N5, N6, N7, I1, I2, I3, I4, I5, I6, I7, reduceIte, reduceCtorEq, msC_len, msC_one, msC_und, under_slM, msC_0, psub_msC, pover_msC, z9, z9t, msL_len, msL_und, msL_one, prepl_ms, limC_len, limC_one, limC_und, limC_len0, pfrzL_msC, pfrzL_limC, psub_limC, pover_limC, z8, pcells_cp, one_cp, solC_und, solC_0, solC_1, solC_2, c]
      refine SemC_bor b2 ?_
      refine Lift_p T B (by omega) (fun y e3 hA3 => ⟨by simp only [PV.flat, PV.flatA, PV.flat1, msC_flat, List.all_cons, List.all_nil, Bool.and_self], ?_⟩)
      obtain ⟨y1, y2, rfl⟩ := hA3.ok c1 hS' hj
      simp only [PP, P1, P2, P3, P4, P5, P6, P7, P8, P9, P10, P11, P12, P13, P14, L1, P15, N1, N2, N3, N4, N5, N6, N7, I1, I2, I3, I4, I5, I6, I7, reduceIte, reduceCtorEq, msC_len, msC_one, msC_und, under_slM, msC_0, psub_msC, pover_msC, z9, z9t, msL_len, msL_und, msL_one, prepl_ms, limC_len, limC_one, limC_und, limC_len0, pfrzL_msC, pfrzL_limC, psub_limC, pover_limC, z8, pcells_cp, one_cp, solC_und, solC_0, solC_1, solC_2, j0, jn, hml3, p1, l1]
      refine compare_p T ?_
      rw [cmp_num y1 hx]
      simp only [PP, P1, P2, P3, P4, P5, P6, P7, P8, P9, P10, P11, P12, P13, P14, L1, P15, N1, N2, N3, N4, N5, N6, N7, I1, I2, I3, I4, I5, I6, I7, reduceIte, reduceCtorEq, msC_len, msC_one, msC_und, under_slM, msC_0, psub_msC, pover_msC, z9, z9t, msL_len, msL_und, msL_one, prepl_ms, limC_len, limC_one, limC_und, limC_len0, pfrzL_msC, pfrzL_limC, psub_limC, pover_limC, z8, pcells_cp, one_cp, solC_und, solC_0, solC_1, solC_2]
      have hpov := pover_msL (l := ms') y hjl
      refine QIf.intro (fun d => ?_) (fun d => ?_)
      · have d' := d
        rw [cmpI_pos] at d'
        simp only [PP, P1, P2, P3, P4, P5, P6, P7, P8, P9, P10, P11, P12, P13, P14, L1, P15, N1, N2, N3, N4, N5, N6, N7, I1, I2, I3, I4, I5, I6, I7, reduceIte, reduceCtorEq, msC_len, msC_one, msC_und, under_slM, msC_0, psub_msC, pover_msC, z9, z9t, msL_len, msL_und, msL_one, prepl_ms, limC_len, limC_one, limC_und, limC_len0, pfrzL_msC, pfrzL_limC, psub_limC, pover_limC, z8, pcells_cp, one_cp, solC_und, solC_0, solC_1, solC_2, d, j0, jn, hml3, l1, hpov, hwj]
        refine SemW_re (GStep.drop (b := [.junk, .junk, .ptr 0 0 0, .junk, .junk, slM false true L, .junk, .ref 1 g 9 0 ow.length, .junk, .junk, p64 r, .bool true, p64 ((j + 1 : Nat) : Int), .junk, .junk, .junk, .junk, .junk, .junk, .junk, .junk, .junk, .junk, .junk, .junk, .junk, .junk, .junk, .junk, .junk, .junk, .junk, .junk, .junk, .junk, .junk, .junk, .junk, .junk, .junk, .junk, .junk, .junk, .junk, .junk, .junk, .junk, .junk, .junk, .junk, .junk, .junk, .junk, .junk, .junk, .junk, .junk, .junk, .junk, .junk, .junk, .junk, .junk, .junk, .junk, .junk, .junk, .junk, .junk, .junk, .junk, .junk, .junk, .junk, .junk, .junk, .junk, .junk, .junk, .junk, .junk, .junk, .junk, .junk, .junk, .junk, .junk, .junk, .junk, .junk, .junk, .junk, .junk, .junk, .junk, .junk, .junk, .junk, .junk, .junk, .junk, .junk, .junk, .junk, .junk, .junk, .junk, .junk]) 2 (Nat.zero_le _) (by simp) (by simp only [PWeak_nil, PWeak_junk, PWeak_same, Int.cast_ofNat_Int, List.length_append, List.length_cons, List.length_nil, Nat.zero_add]) (by simp only [PP, P1, P2, P3, P4, P5, P6, P7, P8, P9, P10, P11, P12, P13, P14, L1, P15, N1, N2, N3, N4, N5, N6, N7, I1, I2, I3, I4, I5, I6, I7, reduceIte, reduceCtorEq, msC_len, msC_one, msC_und, under_slM, msC_0, psub_msC, pover_msC, z9, z9t, msL_len, msL_und, msL_one, prepl_ms, limC_len, limC_one, limC_und, limC_len0, pfrzL_msC, pfrzL_limC, psub_limC, pover_limC, z8, pcells_cp, one_cp, solC_und, solC_0, solC_1, solC_2]) (by simp only [PP, P1, P2, P3, P4, P5, P6, P7, P8, P9, P10, P11, P12, P13, P14, L1, P15, N1, N2, N3, N4, N5, N6, N7, I1, I2, I3, I4, I5, I6, I7, reduceIte, reduceCtorEq, msC_len, msC_one, msC_und, under_slM, msC_0, psub_msC, pover_msC, z9, z9t, msL_len, msL_und, msL_one, prepl_ms, limC_len, limC_one, limC_und, limC_len0, pfrzL_msC, pfrzL_limC, psub_limC, pover_limC, z8, pcells_cp, one_cp, solC_und, solC_0, solC_1, solC_2]) rfl) ?_
        refine SemW_to (ih2 (j + 1) (ver + 1) true (ms'.set j y) ⟨hj, hS'.set y1, fun h => (by cases h), fun _ => ?_⟩ (by omega)) (by simp only [PWeak_nil, PWeak_junk, PWeak_same, Int.cast_ofNat_Int, List.length_append, List.length_cons, List.length_nil, Nat.zero_add]) rfl
        have h1 := sumN_upd (n := ow.length) (m := Nf (limL pr) ms') (v := j) (x := gL ow pr su (Nf (limL pr) ms') j) hj (by rw [Nf_at g5, ← y2]; omega)
        rw [Nf_set hjl, y2]
        cases ch with
        | false => rw [(hf rfl).1] at h1 ⊢; exact h1
        | true => have := ht rfl; omega
      · have d' := d
        rw [cmpI_pos] at d'
        simp only [PP, P1, P2, P3, P4, P5, P6, P7, P8, P9, P10, P11, P12, P13, P14, L1, P15, N1, N2, N3, N4, N5, N6, N7, I1, I2, I3, I4, I5, I6, I7, reduceIte, reduceCtorEq, msC_len, msC_one, msC_und, under_slM, msC_0, psub_msC, pover_msC, z9, z9t, msL_len, msL_und, msL_one, prepl_ms, limC_len, limC_one, limC_und, limC_len0, pfrzL_msC, pfrzL_limC, psub_limC, pover_limC, z8, pcells_cp, one_cp, solC_und, solC_0, solC_1, solC_2, d, hwj]
        refine SemW_re (GStep.drop (b := [.junk, .junk, .ptr 0 0 0, .junk, .junk, slM false true L, .junk, .ref 1 g 9 0 ow.length, .junk, .junk, p64 r, .bool ch, p64 ((j + 1 : Nat) : Int), .junk, .junk, .junk, .junk, .junk, .junk, .junk, .junk, .junk, .junk, .junk, .junk, .junk, .junk, .junk, .junk, .junk, .junk, .junk, .junk, .junk, .junk, .junk, .junk, .junk, .junk, .junk, .junk, .junk, .junk, .junk, .junk, .junk, .junk, .junk, .junk, .junk, .junk, .junk, .junk, .junk, .junk, .junk, .junk, .junk, .junk, .junk, .junk, .junk, .junk, .junk, .junk, .junk, .junk, .junk, .junk, .junk, .junk, .junk, .junk, .junk, .junk, .junk, .junk, .junk, .junk, .junk, .junk, .junk, .junk, .junk, .junk, .junk, .junk, .junk, .junk, .junk, .junk, .junk, .junk, .junk, .junk, .junk, .junk, .junk, .junk, .junk, .junk, .junk, .junk, .junk, .junk, .junk, .junk, .junk]) 2 (Nat.zero_le _) (by simp) (by simp only [PWeak_nil, PWeak_junk, PWeak_same, Int.cast_ofNat_Int, List.length_append, List.length_cons, List.length_nil, Nat.zero_add]) (by simp only [PP, P1, P2, P3, P4, P5, P6, P7, P8, P9, P10, P11, P12, P13, P14, L1, P15, N1, N2, N3, N4, N5, N6, N7, I1, I2, I3, I4, I5, I6, I7, reduceIte, reduceCtorEq, msC_len, msC_one, msC_und, under_slM, msC_0, psub_msC, pover_msC, z9, z9t, msL_len, msL_und, msL_one, prepl_ms, limC_len, limC_one, limC_und, limC_len0, pfrzL_msC, pfrzL_limC, psub_limC, pover_limC, z8, pcells_cp, one_cp, solC_und, solC_0, solC_1, solC_2]) (by simp only [PP, P1, P2, P3, P4, P5, P6, P7, P8, P9, P10, P11, P12, P13, P14, L1, P15, N1, N2, N3, N4, N5, N6, N7, I1, I2, I3, I4, I5, I6, I7, reduceIte, reduceCtorEq, msC_len, msC_one, msC_und, under_slM, msC_0, psub_msC, pover_msC, z9, z9t, msL_len, msL_und, msL_one, prepl_ms, limC_len, limC_one, limC_und, limC_len0, pfrzL_msC, pfrzL_limC, psub_limC, pover_limC, z8, pcells_cp, one_cp, solC_und, solC_0, solC_1, solC_2]) rfl) ?_
        refine SemW_to (ih2 (j + 1) ver ch ms' ⟨hj, hS', fun h => ⟨(hf h).1, fun u hu => ?_⟩, ht⟩ (by omega)) (by simp only [PWeak_nil, PWeak_junk, PWeak_same, Int.cast_ofNat_Int, List.length_append, List.length_cons, List.length_nil, Nat.zero_add]) rfl
        by_cases e : u = j
        · subst e
          rw [← (hf h).1, Nf_at g5]; omega
        · exact (hf h).2 u (by omega)
    · have hjn : j = ow.length := by omega
      subst hjn
      cases ch with
      | true =>
        have h1 := ht rfl
        simp only [PP, P1, P2, P3, P4, P5, P6, P7, P8, P9, P10, P11, P12, P13, P14, L1, P15, N1, N2, N3, N4, N5, N6, N7, I1, I2, I3, I4, I5, I6, I7, reduceIte, reduceCtorEq, c, hwr]
        have hsum2 := sumN_le (n := ow.length) (m := Nf (limL pr) ms') hS'.bnd
        exact SemW_weak (ih (r + 1) ver ms' ⟨hS', by omega⟩ (by omega)) (by simp only [PWeak_nil, PWeak_junk, PWeak_same, Int.cast_ofNat_Int, List.length_append, List.length_cons, List.length_nil, Nat.zero_add])
      | false =>
        obtain ⟨rfl, hpre⟩ := hf rfl
        have hlow := hL.li.low (Nf (limL pr) ms') hpre
        simp only [PP, P1, P2, P3, P4, P5, P6, P7, P8, P9, P10, P11, P12, P13, P14, L1, P15, N1, N2, N3, N4, N5, N6, N7, I1, I2, I3, I4, I5, I6, I7, reduceIte, reduceCtorEq, c]
        clear ih ih2
        refine loop1 (fun (k : Nat) => k ≤ ow.length) (fun k => [.junk, .junk, .junk, .junk, .junk, slM false true L, .junk, .ref 1 g 9 0 ow.length, .junk, .junk, .junk, .junk, .junk, .junk, .junk, p64 k, .junk, .junk, .junk, .junk, .junk, .junk, .junk, .junk, .junk, .junk, .junk, .junk, .junk, .junk, .junk, .junk, .junk, .junk, .junk, .junk, .junk, .junk, .junk, .junk, .junk, .junk, .junk, .junk, .junk, .junk, .junk, .junk, .junk, .junk, .junk, .junk, .junk, .junk, .junk, .junk, .junk, .junk, .junk, .junk, .junk, .junk, .junk, .junk, .junk, .junk, .junk, .junk, .junk, .junk, .junk, .junk, .junk, .junk, .junk, .junk, .junk, .junk, .junk, .junk, .junk, .junk, .junk, .junk, .junk, .junk, .junk, .junk, .junk, .junk, .junk, .junk, .junk, .junk, .junk, .junk, .junk, .junk, .junk, .junk, .junk, .junk, .junk, .junk, .junk, .junk, .junk, .junk])
          (fun k => [.cells 0 0 [slI false false .u8 ow, slI false false .i64 pr, slR false false false false .i64 su], .cells g ver (msL ms')]) (fun k => ow.length - k) 0 (by omega) (by simp only [PWeak_nil, PWeak_junk, PWeak_same, Int.cast_ofNat_Int, List.length_append, List.length_cons, List.length_nil, Nat.zero_add]) rfl ?_
        intro k hle ih
        refine SemW_go (by kernel_rfl) ?_
        simp only [PP, P1, P2, P3, P4, P5, P6, P7, P8, P9, P10, P11, P12, P13, P14, L1, P15, N1, N2, N3, N4, N5, N6, N7, I1, I2, I3, I4, I5, I6, I7, reduceIte, reduceCtorEq]
        refine QIf.intro (fun c => ?_) (fun c => ?_)
        · have hk' : k < ow.length := by omega
          have k0 : (0 : Int) ≤ k := by omega
          have kn : (k : Int) < ow.length := by omega
          have hwk := wrap_succ (k := k) (by show _ < 1000000000000; omega)
          obtain ⟨x, g5⟩ := some_of (xs := ms') (k := k) (by omega)
          obtain ⟨z, g6⟩ := some_of (xs := L) (k := k) (by omega)
          have p1 := psub_msL g5
          have l1 := ms_lt g5
          rw [hml3] at l1
          have p2 := psub_msL g6
          have hx := hS'.ok x (List.mem_of_getElem? g5)
          have hz := hL.st.ok z (List.mem_of_getElem? g6)
          have hno : ¬ (0 : Int) < cmpI (z.num (limL pr)) (x.num (limL pr)) := by
            rw [cmpI_pos, ← Nf_at g5, ← Nf_at g6]
            have := hlow k hk'; omega
          simp only [PP, P1, P2, P3, P4, P5, P6, P7, P8, P9, P10, P11, P12, P13, P14, L1, P15, N1, N2, N3, N4, N5, N6, N7, I1, I2, I3, I4, I5, I6, I7, reduceIte, reduceCtorEq, msC_len, msC_one, msC_und, under_slM, msC_0, psub_msC, pover_msC, z9, z9t, msL_len, msL_und, msL_one, prepl_ms, limC_len, limC_one, limC_und, limC_len0, pfrzL_msC, pfrzL_limC, psub_limC, pover_limC, z8, pcells_cp, one_cp, solC_und, solC_0, solC_1, solC_2, c, k0, kn, hLl, hml3, p1, p2, l1]
          refine compare_p T ?_
          rw [cmp_num hz hx]
          simp only [PP, P1, P2, P3, P4, P5, P6, P7, P8, P9, P10, P11, P12, P13, P14, L1, P15, N1, N2, N3, N4, N5, N6, N7, I1, I2, I3, I4, I5, I6, I7, reduceIte, reduceCtorEq, msC_len, msC_one, msC_und, under_slM, msC_0, psub_msC, pover_msC, z9, z9t, msL_len, msL_und, msL_one, prepl_ms, limC_len, limC_one, limC_und, limC_len0, pfrzL_msC, pfrzL_limC, psub_limC, pover_limC, z8, pcells_cp, one_cp, solC_und, solC_0, solC_1, solC_2, hno, hwk]
          exact SemW_weak (ih (k + 1) hk' (by omega)) (by simp only [PWeak_nil, PWeak_junk, PWeak_same, Int.cast_ofNat_Int, List.length_append, List.length_cons, List.length_nil, Nat.zero_add])
        · simp only [PP, P1, P2, P3, P4, P5, P6, P7, P8, P9, P10, P11, P12, P13, P14, L1, P15, N1, N2, N3, N4, N5, N6, N7, I1, I2, I3, I4, I5, I6, I7, reduceIte, reduceCtorEq, c]
end
end Go.Am.Ar
set_option linter.unusedVariables false
set_option linter.unusedSimpArgs false
namespace Go.Am.Ar
abbrev gameTy : Ty := .pair (.slice (.int .u8)) (.pair (.slice (.int .i64)) (.pair (.slice (.slice (.int .i64))) .unit))
structure Nums (ow pr : List Int) (su : List (List Int)) : Prop where
  o : ∀ x ∈ ow, 0 ≤ x ∧ x ≤ 255
  p : ∀ x ∈ pr, -9223372036854775808 ≤ x ∧ x ≤ 9223372036854775807
  s : ∀ r ∈ su, ∀ x ∈ r, -9223372036854775808 ≤ x ∧ x ≤ 9223372036854775807
  lo : ow.length ≤ 9223372036854775807
  lp : pr.length ≤ 9223372036854775807
  ls : su.length ≤ 9223372036854775807
  lr : ∀ r ∈ su, r.length ≤ 9223372036854775807
theorem arg_game {v : AV} {h : H} (hs : ShV gameTy v h) : ∃ (ow pr : List Int) (su : List (List Int)), RepV (wH h) (gmP false false false false false false false false ow pr su) v ∧ Nums ow pr su := by
  obtain ⟨avs, hs, rfl⟩ := hs
  obtain ⟨c1, c2, rfl, h1, c3, c4, rfl, h2, c5, c6, rfl, h3, h4⟩ := hs
  have h4 : c6 = [] := h4
  subst h4
  obtain ⟨vo, ow, rfl, p1, q1, r1⟩ := sh_intsP h1
  obtain ⟨vp, pr, rfl, p2, q2, r2⟩ := sh_intsP h2
  obtain ⟨vs, su, rfl, p3, q3, r3⟩ := sh_rowsP h3
  refine ⟨ow, pr, su, ?_, ⟨r1, r2, fun r hr => (r3 r hr).2, q1, q2, q3, fun r hr => (r3 r hr).1⟩⟩
  have := RepL.cons p1 (.cons p2 (.cons p3 (.nil (wH h))))
  exact .agg this.len this.get
theorem run_of_C {tab : FuncId → Option AF} {g : FuncId} {args : List AV} {h : H} (hc : C (lim tab) g args h fun v _ => v = .bool true) : ∃ n h', (run tab n).call g args h = some (.bool true, h') := by
  unfold C at hc
  obtain ⟨v, h', he, rfl⟩ := hc
  obtain ⟨n, hn⟩ := (lim_call_iff tab).1 he
  exact ⟨n, h', hn⟩
theorem shVs2 {A B : Ty} {args : List AV} {h : H} (hs : ShVs [A, B] args h) : ∃ a b, args = [a, b] ∧ ShV A a h ∧ ShV B b h := by
  match args, hs with
  | [a, b], ⟨h1, h2, _⟩ => exact ⟨a, b, rfl, h1, h2⟩
end Go.Am.Ar
set_option linter.unusedVariables false
set_option linter.unusedSimpArgs false
namespace Go.Am.Ar
abbrev measTy : Ty := .pair .bool (.pair (timesTy (.int .i64) 8) .unit)
theorem sh_times {h : H} : ∀ {n : Nat} {cs : List AV}, Sh (timesTy (.int .i64) n) cs h → ∃ l : List Int, l.length = n ∧ cs = l.map (AV.int .i64) ∧ ∀ c ∈ l, -9223372036854775808 ≤ c ∧ c ≤ 9223372036854775807
  | 0, cs, hs => ⟨[], rfl, hs, fun c hc => by cases hc⟩
  | n + 1, cs, hs => by
    obtain ⟨c1, c2, rfl, ⟨m, rfl, m1, m2⟩, h2⟩ := hs
    obtain ⟨l, e1, rfl, e3⟩ := sh_times h2
    refine ⟨m :: l, by simp [e1], rfl, fun c hc => ?_⟩
    rcases List.mem_cons.1 hc with rfl | hc
    · exact ⟨m1, m2⟩
    · exact e3 c hc
theorem sh_meas {h : H} {cs : List AV} (hs : Sh measTy cs h) : ∃ x : Ms, x.fit ∧ cs.length = 9 ∧ RepL (wH h) (msC x) cs := by
  obtain ⟨c1, c2, rfl, ⟨b, rfl⟩, c3, c4, rfl, h3, h4⟩ := hs
  have h4 : c4 = [] := h4
  subst h4
  obtain ⟨l, e1, rfl, e3⟩ := sh_times h3
  refine ⟨⟨b, l, e1⟩, e3, by simp [e1], ?_⟩
  show RepL (wH h) (PV.bool b :: l.map (PV.int .i64)) (AV.bool b :: (l.map (AV.int .i64) ++ []))
  rw [List.append_nil]
  refine .cons (.bool b) ⟨by simp, fun i y z p q => ?_⟩
  rw [List.getElem?_map] at p q
  cases hx : l[i]? with
  | none => rw [hx] at p; cases p
  | some x => rw [hx] at p q; cases p; cases q; exact .int _ x
theorem sh_chunks {h : H} : ∀ {n : Nat} {cells : List AV}, cells.length = n * 9 → (∀ i, i < n → Sh measTy ((cells.drop (i * 9)).take 9) h) → ∃ ms : List Ms, ms.length = n ∧ RepL (wH h) (msL ms) cells ∧ ∀ x ∈ ms, x.fit
  | 0, cells, hl, _ => by
    have : cells = [] := List.length_eq_zero_iff.1 (by simpa using hl)
    subst this
    exact ⟨[], rfl, .nil _, fun x hx => by cases hx⟩
  | n + 1, cells, hl, hs => by
    obtain ⟨x, hx, _, r1⟩ := sh_meas (by simpa using hs 0 (by omega))
    obtain ⟨ms, e1, r2, e3⟩ := sh_chunks (n := n) (cells := cells.drop 9) (by simp; omega) (fun i hi => by
      have := hs (i + 1) (by omega)
      rw [List.drop_drop, show 9 + i * 9 = (i + 1) * 9 by omega]; exact this)
    refine ⟨x :: ms, by simp [e1], ?_, fun y hy => ?_⟩
    · have := r1.append r2
      rw [List.take_append_drop] at this
      exact this
    · rcases List.mem_cons.1 hy with rfl | hy
      · exact hx
      · exact e3 y hy
theorem arg_ms {v : AV} {h : H} (hs : ShV (.slice measTy) v h) : ∃ ms : List Ms, RepV (wH h) (slM false false ms) v ∧ ms.length ≤ 9223372036854775807 ∧ ∀ x ∈ ms, x.fit := by
  obtain ⟨avs, hs, rfl⟩ := hs
  rcases hs with rfl | ⟨b, n, cells, rfl, h2, h3, h4, h5⟩
  · exact ⟨[], .slN, by simp, fun x hx => by cases hx⟩
  · have e9 : measTy.size = 9 := rfl
    rw [e9] at h4 h5
    obtain ⟨ms, e1, r, e3⟩ := sh_chunks h4 h5
    refine ⟨ms, ?_, by rw [e1]; simpa [maxLen] using h2, e3⟩
    have hl := r.len
    have := RepV.sl (fl := false) (own := false) (sz := 9) (n := n) (cs := msL ms) (fl' := false) (off := 0) (show (wH h).imm b = _ from h3) (by omega) (by rw [msL_len, e1]) (fun q => by cases q) (fun q => by cases q) (fun _ _ => H.lt_of_get h3) (fun i y z p q => r.get i y z p (by simpa using q))
    rw [← e1] at this
    rw [← e1]
    exact this
end Go.Am.Ar
set_option linter.unusedVariables false
namespace Go.Am.Ar
theorem pclosed_all {tab : FuncId → Option AF} (T : HasA tab) (args : List AV) (h : H) (hs : ShVs [gameTy, .slice measTy] args h) :
    ∃ n h', (run tab n).call 7 args h = some (.bool true, h') := by
  obtain ⟨a, b, rfl, ha, hb⟩ := shVs2 hs
  obtain ⟨ow, pr, su, r1, N⟩ := arg_game ha
  obtain ⟨ms, r2, m1, _⟩ := arg_ms hb
  exact run_of_C (law_of_sem (.cons r1 (.cons r2 (.nil _))) (pclosed_p T m1))
end Go.Am.Ar

