/- Contracts: the dual of a game, and what goes with it. -/
import Derived.Test.YtanhmigakclecaaZielonkaDualG0
import Derived.Test.YtanhmigakclecaaZielonkaDualG2
import Derived.Test.YtanhmigakclecaaPmL
set_option linter.unusedVariables false
set_option linter.unusedSimpArgs false
set_option maxRecDepth 10000
namespace Go.Am.Ar
open Go.Am renaming pchk → P1, pold → P2, PKNo → P3, ppack → P4, PObj.under → P5, pput → P6, ptset → P7, ptget → P8, pev → P9, ofAV → P10, ofAV1 → P11, ppad → P12, pfill → P13, prepl → P14, AO.effect → P15
open List renaming replicate → L1
open Nat renaming reduceAdd → N1, reduceSub → N2, reduceMul → N3, reduceLT → N4, reduceLeDiff → N5, reduceEqDiff → N6, reduceBEq → N7
open Int renaming reduceToNat → I1, reduceLT → I2, reduceLE → I3, reduceEq → I4, reduceAdd → I5, reduceSub → I6, reduceNeg → I7
section
variable {tab : FuncId → Option AF} (T : HasA tab)
include T
theorem dual_p {M : Mem} {K : PV → Mem → Prop} {f1 o1 f2 o2 f3 o3 f4 o4 : Bool} {ow pr : List Int} {su : List (List Int)} (B : Bnd ow pr su) (hq : K (dualM ow pr su) M) :
    SemC tab 23 [gmP f1 o1 f2 o2 f3 o3 f4 o4 ow pr su] M K := by
  refine SemC_pure T.h23 (by simp only [PP, P1, P2, P3, P4, P5, P6, P7, P8, P9, P10, P11, P12, P13, P14, L1, P15, N1, N2, N3, N4, N5, N6, N7, I1, I2, I3, I4, I5, I6, I7, reduceIte, reduceCtorEq]) ?_
  simp only [af23, PP, P1, P2, P3, P4, P5, P6, P7, P8, P9, P10, P11, P12, P13, P14, L1, P15, N1, N2, N3, N4, N5, N6, N7, I1, I2, I3, I4, I5, I6, I7, reduceIte, reduceCtorEq, dualM] at hq ⊢
  refine check_p T B ?_
  simp only [PP, P1, P2, P3, P4, P5, P6, P7, P8, P9, P10, P11, P12, P13, P14, L1, P15, N1, N2, N3, N4, N5, N6, N7, I1, I2, I3, I4, I5, I6, I7, reduceIte, reduceCtorEq]
  refine QIf.intro (fun c1 => ?_) (fun c1 => ?_)
  rotate_left
  · simp only [PP, P1, P2, P3, P4, P5, P6, P7, P8, P9, P10, P11, P12, P13, P14, L1, P15, N1, N2, N3, N4, N5, N6, N7, I1, I2, I3, I4, I5, I6, I7, reduceIte, reduceCtorEq, c1] at hq ⊢
    exact hq
  simp only [PP, P1, P2, P3, P4, P5, P6, P7, P8, P9, P10, P11, P12, P13, P14, L1, P15, N1, N2, N3, N4, N5, N6, N7, I1, I2, I3, I4, I5, I6, I7, reduceIte, reduceCtorEq, c1] at hq ⊢
  have V := valid_of c1
  cases hpr : pr with
  | nil => exact absurd V.p (by have := V.n0; simp only [hpr, List.length_nil]; omega)
  | cons x xs =>
  have hpb : (x :: xs).length < big := by rw [← hpr]; exact B.p
  refine max_p T hpb ?_
  rw [← hpr]
  have hmx : maxFrom x xs = maxL pr := by rw [hpr]; rfl
  simp only [PP, P1, P2, P3, P4, P5, P6, P7, P8, P9, P10, P11, P12, P13, P14, L1, P15, N1, N2, N3, N4, N5, N6, N7, I1, I2, I3, I4, I5, I6, I7, reduceIte, reduceCtorEq, hmx]
  refine QIf.intro (fun c2 => ?_) (fun c2 => ?_)
  · simp only [PP, P1, P2, P3, P4, P5, P6, P7, P8, P9, P10, P11, P12, P13, P14, L1, P15, N1, N2, N3, N4, N5, N6, N7, I1, I2, I3, I4, I5, I6, I7, reduceIte, reduceCtorEq, c2] at hq ⊢
    exact hq
  simp only [PP, P1, P2, P3, P4, P5, P6, P7, P8, P9, P10, P11, P12, P13, P14, L1, P15, N1, N2, N3, N4, N5, N6, N7, I1, I2, I3, I4, I5, I6, I7, reduceIte, reduceCtorEq, c2] at hq ⊢
  refine SemW_re (GStep.nilbox 1 0 1 rfl rfl rfl) ?_
  refine SemW_re (GStep.nilbox 1 1 1 rfl rfl rfl) ?_
  refine SemW_re (GStep.nilbox 1 2 1 rfl rfl rfl) ?_
  simp only [List.length_cons, List.length_nil, List.length_append, List.length_set, List.set_cons_zero, List.set_cons_succ, List.cons_append, List.nil_append, Nat.reduceAdd]
  have hs := V.s
  have hp := V.p
  have n1 := V.n1
  refine loop5 (fun (k v g : Nat) (a1 a2 : List Int) => k ≤ su.length ∧ a1 = dualO (ow.take k) ∧ a2 = dualP (pr.take k))
    (fun k v g a1 a2 => [.junk, .ptr 0 0 0, .ptr 1 0 0, .junk, .junk, .junk, .junk, .junk, .junk, .junk, .junk, .junk, .junk, .junk, .junk, .junk, .junk, .junk, .junk, slR f3 o3 f4 o4 .i64 su, p64 su.length, p64 k, .junk, .junk, .junk, .junk, .junk, .junk, .junk, .junk, .junk, .junk, .junk, .junk, .junk, .junk, .junk, .junk, .junk, .junk, .junk, .junk, .junk, .junk, .junk, .junk, .junk, .junk, .junk, .junk, .junk, .junk, .junk, .junk, .junk, .junk, .junk])
    (fun k v g a1 a2 => [.cells 0 0 [slI f1 o1 .u8 ow, slI f2 o2 .i64 pr, slR f3 o3 f4 o4 .i64 su], .cells 0 v [.ref 2 g 1 0 a1.length, .ref 3 g 1 0 a2.length, .ref 4 g 1 0 (su.take k).length], .cells g 0 (a1.map (PV.int .u8)), .cells g 0 (a2.map (PV.int .i64)), .cells g 0 ((su.take k).map (slI false true .i64))])
    (fun k _ _ _ _ => su.length - k) 0 0 0 [] [] ⟨by omega, rfl, rfl⟩ (by simp only [PWeak_nil, PWeak_junk, PWeak_same, Int.cast_ofNat_Int, List.length_append, List.length_cons, List.length_nil, Nat.zero_add]) (by simp only [List.take_zero, List.map_nil, List.length_nil]) ?_
  intro k v g a1 a2 ⟨hle, ha1, ha2⟩ ih
  refine SemW_go (by kernel_rfl) ?_
  simp only [PP, P1, P2, P3, P4, P5, P6, P7, P8, P9, P10, P11, P12, P13, P14, L1, P15, N1, N2, N3, N4, N5, N6, N7, I1, I2, I3, I4, I5, I6, I7, reduceIte, reduceCtorEq]
  refine QIf.intro (fun c => ?_) (fun c => ?_)
  · have hk' : k < su.length := by omega
    obtain ⟨row, g1⟩ := some_of hk'
    obtain ⟨o, g2⟩ := some_of (xs := ow) (k := k) (by omega)
    obtain ⟨p, g3⟩ := some_of (xs := pr) (k := k) (by omega)
    have h0 : (0 : Int) ≤ k := by omega
    have hw := wrap_succ (k := k) (by show _ < 1000000000000; omega)
    have cp : (k : Int) < pr.length := by omega
    have co : (k : Int) < ow.length := by omega
    have l1 : a1.length = k := by rw [ha1]; simp [dualO]; omega
    have l2 : a2.length = k := by rw [ha2]; simp [dualP]; omega
    have l3 : (su.take k).length = k := by simp; omega
    have b1 : a1.length + 1 ≤ 140737488355328 := by omega
    have b2 : (a2.length + 1) * 8 ≤ 140737488355328 := by omega
    have b3 : ((su.take k).length + 1) * 24 ≤ 140737488355328 := by omega
    have b4 : a1.length + 1 ≤ 9223372036854775807 := by omega
    have b5 : a2.length + 1 ≤ 9223372036854775807 := by omega
    have b6 : (su.take k).length + 1 ≤ 9223372036854775807 := by omega
    simp only [PP, P1, P2, P3, P4, P5, P6, P7, P8, P9, P10, P11, P12, P13, P14, L1, P15, N1, N2, N3, N4, N5, N6, N7, I1, I2, I3, I4, I5, I6, I7, reduceIte, reduceCtorEq, c, g1, g2, g3, h0, cp, co, b1, b2, b4, b5]
    refine clone_p T (B.r _ (List.mem_of_getElem? g1)) ?_
    simp only [PP, P1, P2, P3, P4, P5, P6, P7, P8, P9, P10, P11, P12, P13, P14, L1, P15, N1, N2, N3, N4, N5, N6, N7, I1, I2, I3, I4, I5, I6, I7, reduceIte, reduceCtorEq, hw, b3, b6]
    refine SemW_to (ih (k + 1) (v + 1 + 1 + 1) (g + 1) (a1 ++ [IntKind.u8.wrap (1 - o)]) (a2 ++ [IntKind.i64.wrap (p + 1)]) ⟨by omega, ?_, ?_⟩ (by omega)) (by simp only [PWeak_nil, PWeak_junk, PWeak_same, Int.cast_ofNat_Int, List.length_append, List.length_cons, List.length_nil, Nat.zero_add]) ?_
    · rw [take_some g2, ha1]; simp [dualO]
    · rw [take_some g3, ha2]; simp [dualP]
    · simp only [take_some g1, List.map_append, List.map_cons, List.map_nil, List.length_append, List.length_cons, List.length_nil]
  · have t1 : su.take k = su := List.take_of_length_le (by omega)
    have ha1 : a1 = dualO ow := by rw [ha1, List.take_of_length_le (by omega)]
    have ha2 : a2 = dualP pr := by rw [ha2, List.take_of_length_le (by omega)]
    subst ha1 ha2
    simp only [PP, P1, P2, P3, P4, P5, P6, P7, P8, P9, P10, P11, P12, P13, P14, L1, P15, N1, N2, N3, N4, N5, N6, N7, I1, I2, I3, I4, I5, I6, I7, reduceIte, reduceCtorEq, c, t1]
    exact hq
end
end Go.Am.Ar

set_option linter.unusedVariables false
set_option linter.unusedSimpArgs false
set_option maxRecDepth 10000
namespace Go.Am.Ar
open Go.Am renaming pchk → P1, pold → P2, PKNo → P3, ppack → P4, PObj.under → P5, pput → P6, ptset → P7, ptget → P8, pev → P9, ofAV → P10, ofAV1 → P11, ppad → P12, pfill → P13, prepl → P14, AO.effect → P15
open List renaming replicate → L1
open Nat renaming reduceAdd → N1, reduceSub → N2, reduceMul → N3, reduceLT → N4, reduceLeDiff → N5, reduceEqDiff → N6, reduceBEq → N7
open Int renaming reduceToNat → I1, reduceLT → I2, reduceLE → I3, reduceEq → I4, reduceAdd → I5, reduceSub → I6, reduceNeg → I7
theorem Dual1.sol {ow pr ow' pr' : List Int} {su : List (List Int)} (D : Dual1 ow pr su ow' pr') {w : Nat → Int} {s : Nat → Nat} (h : IsSol ow.length (zO ow) (Sf su) (zP pr) w s) : IsSol ow'.length (zO ow') (Sf su) (zP pr') (fun v => 1 - w v) s := by
  rw [D.n]
  exact h.dual (fun v hv => (valid_S D.v v hv).2) (fun v hv => (D.o v hv).2.2) (fun v hv => (D.r v hv).2)
section
variable {tab : FuncId → Option AF} (T : HasA tab)
include T
theorem zdual_p {ow pr : List Int} {su : List (List Int)} (ho : ∀ x ∈ ow, 0 ≤ x) :
    SemC tab 6 [gmP false false false false false false false false ow pr su] [] fun r _ => r = .bool true := by
  refine SemC_fn T.h6 ?_
  simp only [af6, PP, P1, P2, P3, P4, P5, P6, P7, P8, P9, P10, P11, P12, P13, P14, L1, P15, N1, N2, N3, N4, N5, N6, N7, I1, I2, I3, I4, I5, I6, I7, reduceIte, reduceCtorEq]
  refine long0_p T ?_
  simp only [PP, P1, P2, P3, P4, P5, P6, P7, P8, P9, P10, P11, P12, P13, P14, L1, P15, N1, N2, N3, N4, N5, N6, N7, I1, I2, I3, I4, I5, I6, I7, reduceIte, reduceCtorEq]
  cases hl : longM ow pr su [] with
  | true =>
    simp only [PP, P1, P2, P3, P4, P5, P6, P7, P8, P9, P10, P11, P12, P13, P14, L1, P15, N1, N2, N3, N4, N5, N6, N7, I1, I2, I3, I4, I5, I6, I7, reduceIte, reduceCtorEq]
    refine SemC_true T.awake ?_
    simp only [PP, P1, P2, P3, P4, P5, P6, P7, P8, P9, P10, P11, P12, P13, P14, L1, P15, N1, N2, N3, N4, N5, N6, N7, I1, I2, I3, I4, I5, I6, I7, reduceIte, reduceCtorEq]
  | false =>
    have S := longM_false hl
    have B := S.bnd
    have so := S.o
    simp only [PP, P1, P2, P3, P4, P5, P6, P7, P8, P9, P10, P11, P12, P13, P14, L1, P15, N1, N2, N3, N4, N5, N6, N7, I1, I2, I3, I4, I5, I6, I7, reduceIte, reduceCtorEq]
    refine SemC_true T.awake ?_
    simp only [PP, P1, P2, P3, P4, P5, P6, P7, P8, P9, P10, P11, P12, P13, P14, L1, P15, N1, N2, N3, N4, N5, N6, N7, I1, I2, I3, I4, I5, I6, I7, reduceIte, reduceCtorEq]
    refine solve_p T B ho (fun c1 => ?_) (fun c1 ws ss L => ?_)
    · simp only [PP, P1, P2, P3, P4, P5, P6, P7, P8, P9, P10, P11, P12, P13, P14, L1, P15, N1, N2, N3, N4, N5, N6, N7, I1, I2, I3, I4, I5, I6, I7, reduceIte, reduceCtorEq]
      refine dual_p T B ?_
      unfold dualM
      rw [if_neg c1]
      simp only [PP, P1, P2, P3, P4, P5, P6, P7, P8, P9, P10, P11, P12, P13, P14, L1, P15, N1, N2, N3, N4, N5, N6, N7, I1, I2, I3, I4, I5, I6, I7, reduceIte, reduceCtorEq, c1]
    · have V := valid_of c1
      simp only [PP, P1, P2, P3, P4, P5, P6, P7, P8, P9, P10, P11, P12, P13, P14, L1, P15, N1, N2, N3, N4, N5, N6, N7, I1, I2, I3, I4, I5, I6, I7, reduceIte, reduceCtorEq]
      refine dual_p T B ?_
      unfold dualM
      rw [if_pos c1]
      by_cases c2 : maxL pr = 16
      · rw [if_pos c2]
        simp only [PP, P1, P2, P3, P4, P5, P6, P7, P8, P9, P10, P11, P12, P13, P14, L1, P15, N1, N2, N3, N4, N5, N6, N7, I1, I2, I3, I4, I5, I6, I7, reduceIte, reduceCtorEq]
      · rw [if_neg c2]
        have D := dual_of V ho c2
        have BD : Bnd (dualO ow) (dualP pr) su := ⟨by rw [D.n]; exact B.o, by rw [D.p]; exact B.p, B.s, B.r⟩
        have ho' : ∀ x ∈ dualO ow, 0 ≤ x := fun x hx => by
          obtain ⟨i, hi⟩ := List.getElem?_of_mem hx
          have hil := getSome_lt hi
          rw [D.n] at hil
          have := (D.o i hil)
          rw [getD_some hi] at this
          omega
        simp only [PP, P1, P2, P3, P4, P5, P6, P7, P8, P9, P10, P11, P12, P13, P14, L1, P15, N1, N2, N3, N4, N5, N6, N7, I1, I2, I3, I4, I5, I6, I7, reduceIte, reduceCtorEq]
        refine solve_p T BD ho' (fun c3 => absurd (check_of D.v') c3) (fun c3 ws2 ss2 L2 => ?_)
        have hu := L2.unique D.v' ho' (D.sol L.sol)
        rw [D.n] at hu
        have l1 := L.lw
        have l2 := L2.lw
        rw [D.n] at l2
        simp only [PP, P1, P2, P3, P4, P5, P6, P7, P8, P9, P10, P11, P12, P13, P14, L1, P15, N1, N2, N3, N4, N5, N6, N7, I1, I2, I3, I4, I5, I6, I7, reduceIte, reduceCtorEq, l1, l2]
        refine loop1 (fun (k : Nat) => k ≤ ow.length) (fun k => [.junk, .junk, .junk, .ptr 1 0 0, .junk, .ptr 2 0 0, .junk, .ptr 3 0 0, .junk, p64 k, .junk, .junk, .junk, .junk, .junk, .junk, .junk, .junk, .junk, .junk, .junk, .junk, .junk, .junk, .junk, .junk, .junk, .junk, .junk, .junk, .junk, .junk, .junk, .junk, .junk, .junk, .junk, .junk, .junk, .junk, .junk, .junk, .junk, .junk, .junk, .junk, .junk, .junk, .junk, .junk, .junk, .junk, .junk, .junk, .junk, .junk, .junk, .junk, .junk, .junk, .junk, .junk, .junk, .junk, .junk, .junk, .junk, .junk, .junk, .junk, .junk, .junk, .junk, .junk, .junk, .junk, .junk, .junk, .junk, .junk, .junk, .junk, .junk, .junk, .junk, .junk, .junk, .junk, .junk, .junk, .junk, .junk, .junk, .junk, .junk, .junk, .junk, .junk, .junk, .junk, .junk, .junk, .junk, .junk, .junk, .junk])
          (fun _ => [.cells 0 0 [slI false false .u8 ow, slI false false .i64 pr, slR false false false false .i64 su], .cells 0 1 [slI false true .u8 ws, slI false true .i64 ss], .cells 0 1 [slI false true .u8 (dualO ow), slI false true .i64 (dualP pr), slR false true false true .i64 su], .cells 0 1 [slI false true .u8 ws2, slI false true .i64 ss2]])
          (fun k => ow.length - k) 0 (by omega) (by simp only [PWeak_nil, PWeak_junk, PWeak_same, Int.cast_ofNat_Int, List.length_append, List.length_cons, List.length_nil, Nat.zero_add]) rfl ?_
        intro k hle ih
        refine SemW_go (by kernel_rfl) ?_
        simp only [PP, P1, P2, P3, P4, P5, P6, P7, P8, P9, P10, P11, P12, P13, P14, L1, P15, N1, N2, N3, N4, N5, N6, N7, I1, I2, I3, I4, I5, I6, I7, reduceIte, reduceCtorEq, l1]
        refine QIf.intro (fun d => ?_) (fun d => ?_)
        · have hk : k < ow.length := by omega
          have k0 : (0 : Int) ≤ k := by omega
          have kn : (k : Int) < ow.length := by omega
          have hwk := wrap_succ (k := k) (by show _ < 1000000000000; omega)
          obtain ⟨a, g1⟩ := some_of (xs := ws) (k := k) (by omega)
          obtain ⟨b, g2⟩ := some_of (xs := ws2) (k := k) (by omega)
          have h1 := hu k hk
          rw [getD_some g1, getD_some g2] at h1
          have hab : IntKind.u8.wrap (a + b) = 1 := by rw [show a + b = 1 by omega]; rfl
          simp only [PP, P1, P2, P3, P4, P5, P6, P7, P8, P9, P10, P11, P12, P13, P14, L1, P15, N1, N2, N3, N4, N5, N6, N7, I1, I2, I3, I4, I5, I6, I7, reduceIte, reduceCtorEq, d, k0, kn, g1, g2, l1, l2, hab, hwk]
          exact SemW_weak (ih (k + 1) (by omega) (by omega)) (by simp only [PWeak_nil, PWeak_junk, PWeak_same, Int.cast_ofNat_Int, List.length_append, List.length_cons, List.length_nil, Nat.zero_add])
        · simp only [PP, P1, P2, P3, P4, P5, P6, P7, P8, P9, P10, P11, P12, P13, P14, L1, P15, N1, N2, N3, N4, N5, N6, N7, I1, I2, I3, I4, I5, I6, I7, reduceIte, reduceCtorEq, d]
          refine dual_p T BD ?_
          unfold dualM
          rw [if_pos (check_of D.v')]
          by_cases c4 : maxL (dualP pr) = 16
          · rw [if_pos c4]
            simp only [PP, P1, P2, P3, P4, P5, P6, P7, P8, P9, P10, P11, P12, P13, P14, L1, P15, N1, N2, N3, N4, N5, N6, N7, I1, I2, I3, I4, I5, I6, I7, reduceIte, reduceCtorEq]
          · rw [if_neg c4]
            have D2 := dual_of D.v' ho' c4
            have BD2 : Bnd (dualO (dualO ow)) (dualP (dualP pr)) su := ⟨by rw [D2.n]; exact BD.o, by rw [D2.p]; exact BD.p, B.s, B.r⟩
            have ho2 : ∀ x ∈ dualO (dualO ow), 0 ≤ x := fun x hx => by
              obtain ⟨i, hi⟩ := List.getElem?_of_mem hx
              have hil := getSome_lt hi
              rw [D2.n] at hil
              have := (D2.o i hil)
              rw [getD_some hi] at this
              omega
            simp only [PP, P1, P2, P3, P4, P5, P6, P7, P8, P9, P10, P11, P12, P13, P14, L1, P15, N1, N2, N3, N4, N5, N6, N7, I1, I2, I3, I4, I5, I6, I7, reduceIte, reduceCtorEq]
            refine solve_p T BD2 ho2 (fun c5 => absurd (check_of D2.v') c5) (fun c5 ws3 ss3 L3 => ?_)
            have hu3 := L3.unique D2.v' ho2 (D2.sol (D.sol L.sol))
            have l3 := L3.lw
            rw [D2.n, D.n] at hu3 l3
            have e3 : ws3 = ws := getD_ext (by rw [l3, l1]) fun v hv => by rw [hu3 v (by rw [← l3]; exact hv)]; omega
            subst e3
            simp only [PP, P1, P2, P3, P4, P5, P6, P7, P8, P9, P10, P11, P12, P13, P14, L1, P15, N1, N2, N3, N4, N5, N6, N7, I1, I2, I3, I4, I5, I6, I7, reduceIte, reduceCtorEq]
            refine bytes_p T (by show _ < 1000000000000; omega) ?_
            simp only [PP, P1, P2, P3, P4, P5, P6, P7, P8, P9, P10, P11, P12, P13, P14, L1, P15, N1, N2, N3, N4, N5, N6, N7, I1, I2, I3, I4, I5, I6, I7, reduceIte, reduceCtorEq]
end
end Go.Am.Ar

set_option linter.unusedVariables false
set_option linter.unusedSimpArgs false
namespace Go.Am.Ar

/-- The type of games. -/
abbrev gameTy : Ty := .pair (.slice (.int .u8)) (.pair (.slice (.int .i64)) (.pair (.slice (.slice (.int .i64))) .unit))

/-- What is known of the numbers of a game that a law gets. -/
structure Nums (ow pr : List Int) (su : List (List Int)) : Prop where
  o : ∀ x ∈ ow, 0 ≤ x ∧ x ≤ 255
  p : ∀ x ∈ pr, -9223372036854775808 ≤ x ∧ x ≤ 9223372036854775807
  s : ∀ r ∈ su, ∀ x ∈ r, -9223372036854775808 ≤ x ∧ x ≤ 9223372036854775807
  lo : ow.length ≤ 9223372036854775807
  lp : pr.length ≤ 9223372036854775807
  ls : su.length ≤ 9223372036854775807
  lr : ∀ r ∈ su, r.length ≤ 9223372036854775807

theorem arg_game {v : AV} {h : H} (hs : ShV gameTy v h) : ∃ (ow pr : List Int) (su : List (List Int)), RepV (wH h) (gmP false false false false false false false false ow pr su) v ∧ Nums ow pr su := by
  obtain ⟨avs, hs, rfl⟩ := hs
  obtain ⟨c1, c2, rfl, h1, c3, c4, rfl, h2, c5, c6, rfl, h3, h4⟩ := hs
  have h4 : c6 = [] := h4
  subst h4
  obtain ⟨vo, ow, rfl, p1, q1, r1⟩ := sh_intsP h1
  obtain ⟨vp, pr, rfl, p2, q2, r2⟩ := sh_intsP h2
  obtain ⟨vs, su, rfl, p3, q3, r3⟩ := sh_rowsP h3
  refine ⟨ow, pr, su, ?_, ⟨r1, r2, fun r hr => (r3 r hr).2, q1, q2, q3, fun r hr => (r3 r hr).1⟩⟩
  have := RepL.cons p1 (.cons p2 (.cons p3 (.nil (wH h))))
  exact .agg this.len this.get
theorem arg_ints {k : IntKind} {v : AV} {h : H} (hs : ShV (.slice (.int k)) v h) : ∃ (xs : List Int), RepV (wH h) (slI false false k xs) v ∧ xs.length ≤ 9223372036854775807 ∧ ∀ x ∈ xs, k.min ≤ x ∧ x ≤ k.max := by
  obtain ⟨avs, hs, rfl⟩ := hs
  obtain ⟨v, xs, rfl, p, q, r⟩ := sh_intsP hs
  exact ⟨xs, p, q, r⟩
theorem arg_int {k : IntKind} {v : AV} {h : H} (hs : ShV (.int k) v h) : ∃ (x : Int), v = .int k x ∧ RepV (wH h) (.int k x) v ∧ k.min ≤ x ∧ x ≤ k.max := by
  obtain ⟨avs, hs, rfl⟩ := hs
  obtain ⟨x, rfl, p⟩ := hs
  exact ⟨x, rfl, .int k x, p⟩

theorem run_of_C {tab : FuncId → Option AF} {g : FuncId} {args : List AV} {h : H} (hc : C (lim tab) g args h fun v _ => v = .bool true) : ∃ n h', (run tab n).call g args h = some (.bool true, h') := by
  unfold C at hc
  obtain ⟨v, h', he, rfl⟩ := hc
  obtain ⟨n, hn⟩ := (lim_call_iff tab).1 he
  exact ⟨n, h', hn⟩
theorem shVs1 {A : Ty} {args : List AV} {h : H} (hs : ShVs [A] args h) : ∃ a, args = [a] ∧ ShV A a h := by
  match args, hs with
  | [a], ⟨h1, _⟩ => exact ⟨a, rfl, h1⟩
theorem shVs2 {A B : Ty} {args : List AV} {h : H} (hs : ShVs [A, B] args h) : ∃ a b, args = [a, b] ∧ ShV A a h ∧ ShV B b h := by
  match args, hs with
  | [a, b], ⟨h1, h2, _⟩ => exact ⟨a, b, rfl, h1, h2⟩
theorem shVs3 {A B D : Ty} {args : List AV} {h : H} (hs : ShVs [A, B, D] args h) : ∃ a b d, args = [a, b, d] ∧ ShV A a h ∧ ShV B b h ∧ ShV D d h := by
  match args, hs with
  | [a, b, d], ⟨h1, h2, h3, _⟩ => exact ⟨a, b, d, rfl, h1, h2, h3⟩
theorem shVs4 {A B D E : Ty} {args : List AV} {h : H} (hs : ShVs [A, B, D, E] args h) : ∃ a b d e, args = [a, b, d, e] ∧ ShV A a h ∧ ShV B b h ∧ ShV D d h ∧ ShV E e h := by
  match args, hs with
  | [a, b, d, e], ⟨h1, h2, h3, h4, _⟩ => exact ⟨a, b, d, e, rfl, h1, h2, h3, h4⟩
theorem shVs5 {A B D E F : Ty} {args : List AV} {h : H} (hs : ShVs [A, B, D, E, F] args h) : ∃ a b d e f, args = [a, b, d, e, f] ∧ ShV A a h ∧ ShV B b h ∧ ShV D d h ∧ ShV E e h ∧ ShV F f h := by
  match args, hs with
  | [a, b, d, e, f], ⟨h1, h2, h3, h4, h5, _⟩ => exact ⟨a, b, d, e, f, rfl, h1, h2, h3, h4, h5⟩
end Go.Am.Ar

set_option linter.unusedVariables false
namespace Go.Am.Ar
theorem zdual_all {tab : FuncId → Option AF} (T : HasA tab) (args : List AV) (h : H) (hs : ShVs [gameTy] args h) :
    ∃ n h', (run tab n).call 6 args h = some (.bool true, h') := by
  obtain ⟨a, rfl, ha⟩ := shVs1 hs
  obtain ⟨ow, pr, su, r1, N⟩ := arg_game ha
  exact run_of_C (law_of_sem (.cons r1 (.nil _)) (zdual_p T (fun x hx => (N.o x hx).1)))
end Go.Am.Ar
