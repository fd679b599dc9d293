/- The law of plays that are consistent with a correct solution. -/
import Derived.Test.YtkbdnbmnopmhdaaCertifyPlaysG5
set_option linter.unusedVariables false
set_option linter.unusedSimpArgs false
set_option maxRecDepth 10000
namespace Go.Am.Ar
open Go.Am renaming pchk → P1, pold → P2, PKNo → P3, ppack → P4, PObj.under → P5, pput → P6, ptset → P7, ptget → P8, pev → P9, ofAV → P10, ofAV1 → P11, ppad → P12, pfill → P13, prepl → P14, AO.effect → P15
open List renaming replicate → L1
open Nat renaming reduceAdd → N1, reduceSub → N2, reduceMul → N3, reduceLT → N4, reduceLeDiff → N5, reduceEqDiff → N6, reduceBEq → N7
open Int renaming reduceToNat → I1, reduceLT → I2, reduceLE → I3, reduceEq → I4, reduceAdd → I5, reduceSub → I6, reduceNeg → I7
section
variable {tab : FuncId → Option AF} (T : HasA tab)
include T
set_option maxHeartbeats 2000000 in
theorem cplays_p {ow pr ws ss mvs : List Int} {su : List (List Int)} {fr : Int} (hw0 : ∀ x ∈ ws, 0 ≤ x) (hm : ∀ x ∈ mvs, 0 ≤ x ∧ x ≤ 255) (hf0 : 0 ≤ fr) (hf1 : fr ≤ 255) :
    SemC tab 6 [gmP false false false false false false false false ow pr su, .agg [slI false false .u8 ws, slI false false .i64 ss], slI false false .u8 mvs, p8 fr] [] fun r _ => r = .bool true := by
  refine SemC_fn T.h6 ?_
  simp only [af6, PP, P1, P2, P3, P4, P5, P6, P7, P8, P9, P10, P11, P12, P13, P14, L1, P15, N1, N2, N3, N4, N5, N6, N7, I1, I2, I3, I4, I5, I6, I7, reduceIte, reduceCtorEq]
  refine long33_p T (fun b hb => ?_)
  cases b with
  | true =>
    simp only [PP, P1, P2, P3, P4, P5, P6, P7, P8, P9, P10, P11, P12, P13, P14, L1, P15, N1, N2, N3, N4, N5, N6, N7, I1, I2, I3, I4, I5, I6, I7, reduceIte, reduceCtorEq]
    refine SemC_true T.awake ?_
    simp only [PP, P1, P2, P3, P4, P5, P6, P7, P8, P9, P10, P11, P12, P13, P14, L1, P15, N1, N2, N3, N4, N5, N6, N7, I1, I2, I3, I4, I5, I6, I7, reduceIte, reduceCtorEq]
  | false =>
    obtain ⟨hl, h40⟩ := hb rfl
    have S := longM_false hl
    have B := S.bnd
    have so := S.o
    simp only [PP, P1, P2, P3, P4, P5, P6, P7, P8, P9, P10, P11, P12, P13, P14, L1, P15, N1, N2, N3, N4, N5, N6, N7, I1, I2, I3, I4, I5, I6, I7, reduceIte, reduceCtorEq]
    refine QIf.intro (fun c0 => ?_) (fun c0 => ?_)
    · simp only [PP, P1, P2, P3, P4, P5, P6, P7, P8, P9, P10, P11, P12, P13, P14, L1, P15, N1, N2, N3, N4, N5, N6, N7, I1, I2, I3, I4, I5, I6, I7, reduceIte, reduceCtorEq, c0]
      refine SemC_true T.awake ?_
      simp only [PP, P1, P2, P3, P4, P5, P6, P7, P8, P9, P10, P11, P12, P13, P14, L1, P15, N1, N2, N3, N4, N5, N6, N7, I1, I2, I3, I4, I5, I6, I7, reduceIte, reduceCtorEq]
    simp only [PP, P1, P2, P3, P4, P5, P6, P7, P8, P9, P10, P11, P12, P13, P14, L1, P15, N1, N2, N3, N4, N5, N6, N7, I1, I2, I3, I4, I5, I6, I7, reduceIte, reduceCtorEq, c0]
    refine SemC_true T.awake ?_
    simp only [PP, P1, P2, P3, P4, P5, P6, P7, P8, P9, P10, P11, P12, P13, P14, L1, P15, N1, N2, N3, N4, N5, N6, N7, I1, I2, I3, I4, I5, I6, I7, reduceIte, reduceCtorEq]
    refine check33_p T B fun e hE => ?_
    simp only [PP, P1, P2, P3, P4, P5, P6, P7, P8, P9, P10, P11, P12, P13, P14, L1, P15, N1, N2, N3, N4, N5, N6, N7, I1, I2, I3, I4, I5, I6, I7, reduceIte, reduceCtorEq]
    refine QIf.intro (fun c1 => ?_) (fun c1 => ?_)
    rotate_left
    · simp only [PP, P1, P2, P3, P4, P5, P6, P7, P8, P9, P10, P11, P12, P13, P14, L1, P15, N1, N2, N3, N4, N5, N6, N7, I1, I2, I3, I4, I5, I6, I7, reduceIte, reduceCtorEq, c1]
    have C : CorrP ow pr su ws ss := by
      rcases hE with ⟨h1, _⟩ | ⟨_, _, h3⟩ | ⟨h, _⟩
      · exact absurd c1 h1
      · rw [h3] at c1; cases c1
      · exact h
    have F := C.formP
    have V := valid_of F.c
    have n0 := V.n0
    have n1 := V.n1
    have hs := V.s
    have lw := F.lw
    have ls := F.ls
    simp only [PP, P1, P2, P3, P4, P5, P6, P7, P8, P9, P10, P11, P12, P13, P14, L1, P15, N1, N2, N3, N4, N5, N6, N7, I1, I2, I3, I4, I5, I6, I7, reduceIte, reduceCtorEq, c1]
    refine refForm_p T B fun e2 hE2 => ?_
    have c2 := hE2.zero.2 F
    have cn : ¬ (ow.length : Int) = 0 := by omega
    have b0 : (0 : Int) ≤ ow.length := by omega
    have b1' : (ow.length : Int) * 8 ≤ 140737488355328 := by omega
    have b2' : (ow.length : Int) ≤ 9223372036854775807 := by omega
    have w0 : IntKind.i64.wrap fr = fr := wrap64 (by omega) (by omega)
    obtain ⟨q, hq, hqn⟩ : ∃ q : Nat, fr.tmod ow.length = q ∧ q < ow.length := by
      have h1 := Int.tmod_nonneg (a := fr) (ow.length : Int) hf0
      have h2 := Int.tmod_lt_of_pos fr (b := (ow.length : Int)) (by omega)
      exact ⟨(fr.tmod ow.length).toNat, by omega, by omega⟩
    have q0 : (0 : Int) ≤ q := by omega
    have q1 : (q : Int) < ow.length := by omega
    obtain ⟨p, g8⟩ := some_of (xs := ws) (k := q) (by omega)
    have hwq : ws.getD q 0 = p := getD_some g8
    have hp01 : p = 0 ∨ p = 1 := by
      have h1 := hw0 p (List.mem_of_getElem? g8)
      have h2 := (F.form q hqn).k
      rw [hwq] at h2
      omega
    simp only [PP, P1, P2, P3, P4, P5, P6, P7, P8, P9, P10, P11, P12, P13, P14, L1, P15, N1, N2, N3, N4, N5, N6, N7, I1, I2, I3, I4, I5, I6, I7, reduceIte, reduceCtorEq, c2, w0, prem cn, hq, b0, b1', b2', Int.le_refl, q0, q1, g8, lw]
    refine SemW_gh ?_
    refine loop3 (fun (v ver : Nat) (a : List Int) => v ≤ ow.length ∧ a.length = ow.length ∧ ∀ u, u < v → a[u]? = some (detG ow ws ss su mvs p u))
      (fun v ver a => [.junk, .junk, slI false false .u8 mvs, .junk, .ptr 0 0 0, .ptr 1 0 0, .junk, .junk, .junk, p64 q, p8 p, .ref 2 0 1 0 ow.length, p64 v, .junk, .junk, .junk, .junk, .junk, .junk, .junk, .junk, .junk, .junk, .junk, .junk, .junk, .junk, .junk, .junk, .junk, .junk, .junk, .junk, .junk, .junk, .junk, .junk, .junk, .junk, .junk, .junk, .junk, .junk, .junk, .junk, .junk, .junk, .junk, .junk, .junk, .junk, .junk, .junk, .junk, .junk, .junk, .junk, .junk, .junk, .junk, .junk, .junk, .junk, .junk, .junk, .junk, .junk, .junk, .junk, .junk, .junk, .junk, .junk, .junk, .junk, .junk, .junk, .junk, .junk, .junk, .junk, .junk, .junk, .junk, .junk, .junk, .junk, .junk, .junk, .junk, .junk, .junk, .junk, .junk, .junk, .junk, .junk, .junk, .junk, .junk, .junk, .junk, .junk, .junk, .junk, .junk, .junk, .junk, .junk, .junk, .junk, .junk, .junk, .junk, .junk, .junk, .junk, .junk, .junk, .junk, .junk, .junk, .junk, .junk, .junk, .junk, .junk, .junk, .junk, .junk, .junk, .junk, .junk, .junk, .junk, .junk, .junk, .junk, .junk])
      (fun v ver a => [.cells 0 0 [slI false false .u8 ow, slI false false .i64 pr, slR false false false false .i64 su], .cells 0 0 [slI false false .u8 ws, slI false false .i64 ss], .cells 0 ver (a.map (PV.int .i64))])
      (fun v _ _ => ow.length - v) 0 0 (List.replicate ow.length 0) ⟨by omega, by simp, by intro u h; omega⟩ (by simp only [PWeak_nil, PWeak_junk, PWeak_same, Int.cast_ofNat_Int, List.length_append, List.length_cons, List.length_nil, Nat.zero_add]) (by simp only [List.map_replicate]) ?_
    intro v ver a ⟨hle, ha, hget⟩ ih
    refine SemW_go (by kernel_rfl) ?_
    simp only [PP, P1, P2, P3, P4, P5, P6, P7, P8, P9, P10, P11, P12, P13, P14, L1, P15, N1, N2, N3, N4, N5, N6, N7, I1, I2, I3, I4, I5, I6, I7, reduceIte, reduceCtorEq]
    refine QIf.intro (fun d => ?_) (fun d => ?_)
    · have hv : v < ow.length := by omega
      have hwv := wrap_succ (k := v) (by show _ < 1000000000000; omega)
      have v0 : (0 : Int) ≤ v := by omega
      have vn : (v : Int) < ow.length := by omega
      have hvs : v < su.length := by have := V.s; omega
      have hvl : (v : Int) < su.length := by omega
      have i1 : v + 1 ≤ ow.length := hv
      obtain ⟨_, _, _, hr0, _⟩ := V.row v hvs
      obtain ⟨row, g2⟩ := some_of (xs := su) (k := v) hvs
      have hr0 : 0 < row.length := by rw [List.getElem?_eq_getElem hvs] at g2; cases g2; exact hr0
      have e2 : su.getD v [] = row := by simp [List.getD, g2]
      obtain ⟨o, g5⟩ := some_of (xs := ow) (k := v) hv
      obtain ⟨w, g6⟩ := some_of (xs := ws) (k := v) (by omega)
      obtain ⟨s, g7⟩ := some_of (xs := ss) (k := v) (by omega)
      simp only [PP, P1, P2, P3, P4, P5, P6, P7, P8, P9, P10, P11, P12, P13, P14, L1, P15, N1, N2, N3, N4, N5, N6, N7, I1, I2, I3, I4, I5, I6, I7, reduceIte, reduceCtorEq, d, v0]
      refine QIf.intro (fun c => ?_) (fun c => ?_)
      · obtain ⟨m, gm⟩ := some_of (xs := mvs) (k := v) (by omega)
        have gmv : mvs.getD v 0 = m := getD_some gm
        obtain ⟨m0, m1⟩ := hm m (List.mem_of_getElem? gm)
        have hwm : IntKind.i64.wrap m = m := wrap64 (by omega) (by omega)
        simp only [PP, P1, P2, P3, P4, P5, P6, P7, P8, P9, P10, P11, P12, P13, P14, L1, P15, N1, N2, N3, N4, N5, N6, N7, I1, I2, I3, I4, I5, I6, I7, reduceIte, reduceCtorEq, c, gm, v0]
        have hrl : (row.length : Int) ≠ 0 := by omega
        have t1 := Int.tmod_nonneg (a := m) (row.length : Int) (by omega)
        have t2 := Int.tmod_lt_of_pos (m) (b := (row.length : Int)) (by omega)
        obtain ⟨x, g4⟩ := some_of (xs := row) (k := ((m : Int).tmod (row.length : Int)).toNat) (by omega)
        have hfx : detG ow ws ss su mvs p v = if o = p ∧ w = p then s else x := by
          unfold detG
          rw [gmv, e2, getD_some g4, getD_some g5, getD_some g6, getD_some g7]
        simp only [PP, P1, P2, P3, P4, P5, P6, P7, P8, P9, P10, P11, P12, P13, P14, L1, P15, N1, N2, N3, N4, N5, N6, N7, I1, I2, I3, I4, I5, I6, I7, reduceIte, reduceCtorEq, hwm, v0, g2, prem hrl, t1, t2, g4, hvl, i1, vn, d, g5, g6, ha, lw]
        refine QIf.intro (fun q => ?_) (fun q => ?_)
        · simp only [PP, P1, P2, P3, P4, P5, P6, P7, P8, P9, P10, P11, P12, P13, P14, L1, P15, N1, N2, N3, N4, N5, N6, N7, I1, I2, I3, I4, I5, I6, I7, reduceIte, reduceCtorEq, q, g6, v0, vn, lw, ls]
          refine QIf.intro (fun q2 => ?_) (fun q2 => ?_)
          · rw [if_pos ⟨q, q2⟩] at hfx
            simp only [PP, P1, P2, P3, P4, P5, P6, P7, P8, P9, P10, P11, P12, P13, P14, L1, P15, N1, N2, N3, N4, N5, N6, N7, I1, I2, I3, I4, I5, I6, I7, reduceIte, reduceCtorEq, q, q2, v0, vn, g7, ls, i1, ha, hwv]
            refine SemW_to (ih (v + 1) (ver + 1 + 1) ((a.set v x).set v s) ⟨by omega, by simp [ha], fun u hu => ?_⟩ (by omega)) (by simp only [PWeak_nil, PWeak_junk, PWeak_same, Int.cast_ofNat_Int, List.length_append, List.length_cons, List.length_nil, Nat.zero_add]) (by simp only [← List.map_set])
            by_cases e : u = v
            · subst e; rw [set_at (by simp; omega), hfx]
            · rw [set_low e, set_low e]; exact hget u (by omega)
          · rw [if_neg (fun h => q2 h.2)] at hfx
            simp only [PP, P1, P2, P3, P4, P5, P6, P7, P8, P9, P10, P11, P12, P13, P14, L1, P15, N1, N2, N3, N4, N5, N6, N7, I1, I2, I3, I4, I5, I6, I7, reduceIte, reduceCtorEq, q2, hwv]
            refine SemW_to (ih (v + 1) (ver + 1) (a.set v x) ⟨by omega, by simp [ha], fun u hu => ?_⟩ (by omega)) (by simp only [PWeak_nil, PWeak_junk, PWeak_same, Int.cast_ofNat_Int, List.length_append, List.length_cons, List.length_nil, Nat.zero_add]) (by simp only [← List.map_set])
            by_cases e : u = v
            · subst e; rw [set_at (by omega), hfx]
            · rw [set_low e]; exact hget u (by omega)
        · rw [if_neg (fun h => q h.1)] at hfx
          simp only [PP, P1, P2, P3, P4, P5, P6, P7, P8, P9, P10, P11, P12, P13, P14, L1, P15, N1, N2, N3, N4, N5, N6, N7, I1, I2, I3, I4, I5, I6, I7, reduceIte, reduceCtorEq, q, hwv]
          refine SemW_to (ih (v + 1) (ver + 1) (a.set v x) ⟨by omega, by simp [ha], fun u hu => ?_⟩ (by omega)) (by simp only [PWeak_nil, PWeak_junk, PWeak_same, Int.cast_ofNat_Int, List.length_append, List.length_cons, List.length_nil, Nat.zero_add]) (by simp only [← List.map_set])
          by_cases e : u = v
          · subst e; rw [set_at (by omega), hfx]
          · rw [set_low e]; exact hget u (by omega)
      · have gmv : mvs.getD v 0 = 0 := by rw [List.getD, List.getElem?_eq_none (by omega)]; rfl
        simp only [PP, P1, P2, P3, P4, P5, P6, P7, P8, P9, P10, P11, P12, P13, P14, L1, P15, N1, N2, N3, N4, N5, N6, N7, I1, I2, I3, I4, I5, I6, I7, reduceIte, reduceCtorEq, c]
        have hrl : (row.length : Int) ≠ 0 := by omega
        have t1 := Int.tmod_nonneg (a := 0) (row.length : Int) (by omega)
        have t2 := Int.tmod_lt_of_pos (0 : Int) (b := (row.length : Int)) (by omega)
        obtain ⟨x, g4⟩ := some_of (xs := row) (k := ((0 : Int).tmod (row.length : Int)).toNat) (by omega)
        have hfx : detG ow ws ss su mvs p v = if o = p ∧ w = p then s else x := by
          unfold detG
          rw [gmv, e2, getD_some g4, getD_some g5, getD_some g6, getD_some g7]
        simp only [PP, P1, P2, P3, P4, P5, P6, P7, P8, P9, P10, P11, P12, P13, P14, L1, P15, N1, N2, N3, N4, N5, N6, N7, I1, I2, I3, I4, I5, I6, I7, reduceIte, reduceCtorEq, v0, g2, prem hrl, t1, t2, g4, hvl, i1, vn, d, g5, g6, ha, lw]
        refine QIf.intro (fun q => ?_) (fun q => ?_)
        · simp only [PP, P1, P2, P3, P4, P5, P6, P7, P8, P9, P10, P11, P12, P13, P14, L1, P15, N1, N2, N3, N4, N5, N6, N7, I1, I2, I3, I4, I5, I6, I7, reduceIte, reduceCtorEq, q, g6, v0, vn, lw, ls]
          refine QIf.intro (fun q2 => ?_) (fun q2 => ?_)
          · rw [if_pos ⟨q, q2⟩] at hfx
            simp only [PP, P1, P2, P3, P4, P5, P6, P7, P8, P9, P10, P11, P12, P13, P14, L1, P15, N1, N2, N3, N4, N5, N6, N7, I1, I2, I3, I4, I5, I6, I7, reduceIte, reduceCtorEq, q, q2, v0, vn, g7, ls, i1, ha, hwv]
            refine SemW_to (ih (v + 1) (ver + 1 + 1) ((a.set v x).set v s) ⟨by omega, by simp [ha], fun u hu => ?_⟩ (by omega)) (by simp only [PWeak_nil, PWeak_junk, PWeak_same, Int.cast_ofNat_Int, List.length_append, List.length_cons, List.length_nil, Nat.zero_add]) (by simp only [← List.map_set])
            by_cases e : u = v
            · subst e; rw [set_at (by simp; omega), hfx]
            · rw [set_low e, set_low e]; exact hget u (by omega)
          · rw [if_neg (fun h => q2 h.2)] at hfx
            simp only [PP, P1, P2, P3, P4, P5, P6, P7, P8, P9, P10, P11, P12, P13, P14, L1, P15, N1, N2, N3, N4, N5, N6, N7, I1, I2, I3, I4, I5, I6, I7, reduceIte, reduceCtorEq, q2, hwv]
            refine SemW_to (ih (v + 1) (ver + 1) (a.set v x) ⟨by omega, by simp [ha], fun u hu => ?_⟩ (by omega)) (by simp only [PWeak_nil, PWeak_junk, PWeak_same, Int.cast_ofNat_Int, List.length_append, List.length_cons, List.length_nil, Nat.zero_add]) (by simp only [← List.map_set])
            by_cases e : u = v
            · subst e; rw [set_at (by omega), hfx]
            · rw [set_low e]; exact hget u (by omega)
        · rw [if_neg (fun h => q h.1)] at hfx
          simp only [PP, P1, P2, P3, P4, P5, P6, P7, P8, P9, P10, P11, P12, P13, P14, L1, P15, N1, N2, N3, N4, N5, N6, N7, I1, I2, I3, I4, I5, I6, I7, reduceIte, reduceCtorEq, q, hwv]
          refine SemW_to (ih (v + 1) (ver + 1) (a.set v x) ⟨by omega, by simp [ha], fun u hu => ?_⟩ (by omega)) (by simp only [PWeak_nil, PWeak_junk, PWeak_same, Int.cast_ofNat_Int, List.length_append, List.length_cons, List.length_nil, Nat.zero_add]) (by simp only [← List.map_set])
          by_cases e : u = v
          · subst e; rw [set_at (by omega), hfx]
          · rw [set_low e]; exact hget u (by omega)
    · have hvn : v = ow.length := by omega
      subst hvn
      have hat := tabL_of ha hget
      subst hat
      simp only [PP, P1, P2, P3, P4, P5, P6, P7, P8, P9, P10, P11, P12, P13, P14, L1, P15, N1, N2, N3, N4, N5, N6, N7, I1, I2, I3, I4, I5, I6, I7, reduceIte, reduceCtorEq, d, tabL_len]
      refine Gh.step (GStep.freeze (b := [.junk, .junk, .junk, .junk, .ptr 0 0 0, .ptr 1 0 0, .junk, .junk, .junk, p64 q, p8 p, slI false true .i64 (tabL ow.length (detG ow ws ss su mvs p)), .junk, .junk, .junk, .junk, .junk, .junk, .junk, .junk, .junk, .junk, .junk, .junk, .junk, .junk, .junk, .junk, .junk, .junk, .junk, .junk, .junk, .junk, .junk, .junk, .junk, .junk, .junk, .junk, .junk, .junk, .junk, .junk, .junk, .junk, .junk, .junk, .junk, .junk, .junk, .junk, .junk, .junk, .junk, .junk, .junk, .junk, .junk, .junk, .junk, .junk, .junk, .junk, .junk, .junk, .junk, .junk, .junk, .junk, .junk, .junk, .junk, .junk, .junk, .junk, .junk, .junk, .junk, .junk, .junk, .junk, .junk, .junk, .junk, .junk, .junk, .junk, .junk, .junk, .junk, .junk, .junk, .junk, .junk, .junk, .junk, .junk, .junk, .junk, .junk, .junk, .junk, .junk, .junk, .junk, .junk, .junk, .junk, .junk, .junk, .junk, .junk, .junk, .junk, .junk, .junk, .junk, .junk, .junk, .junk, .junk, .junk, .junk, .junk, .junk, .junk, .junk, .junk, .junk, .junk, .junk, .junk, .junk, .junk, .junk, .junk, .junk, .junk]) 2 (Nat.zero_le _) rfl (by
        simp only [PFrz_junk, PFrz_same]
        rw [PFrz_ref (by rw [List.length_map, tabL_len]; omega) (by rw [Nat.mul_one, psub_tab]; unfold slI; rw [tabL_len])]
        simp only [PFrz_nil, PFrz_junk, PFrz_same]) rfl) (Gh.same ?_)
      have hF := fun v hv => detG_mem (p := p) V F (fun x hx => (hm x hx).1) (v := v) hv
      obtain ⟨hf, hfn, mm, kk, hpl⟩ := full_play V hqn (detG ow ws ss su mvs p) hF
      obtain ⟨hwin, hmem, hne⟩ := detG_wins V C hp01 (fun x hx => (hm x hx).1) hqn hwq hpl
      simp only [PP, P1, P2, P3, P4, P5, P6, P7, P8, P9, P10, P11, P12, P13, P14, L1, P15, N1, N2, N3, N4, N5, N6, N7, I1, I2, I3, I4, I5, I6, I7, reduceIte, reduceCtorEq]
      refine play_p T B (by show _ < 1000000000000; rw [tabL_len]; omega) ?_
      unfold playM
      rw [if_pos (playE_full F.c hqn hF)]
      have hln : (playL (tabL ow.length (detG ow ws ss su mvs p)) (ow.length + 1) q []).2.length ≤ ow.length := by
        have := hpl.len; have := hpl.mn; omega
      generalize playL (tabL ow.length (detG ow ws ss su mvs p)) (ow.length + 1) q [] = pl at hwin hmem hne hln ⊢
      obtain ⟨pre, lp⟩ := pl
      simp only at hwin hmem hne hln ⊢
      have hne' : ¬ (lp.length : Int) = 0 := fun h => hne (List.length_eq_zero_iff.1 (by omega))
      have hwm : winM ow pr su lp = .tuple [p8 p, p64 0] := by
        unfold winM
        rw [if_pos F.c, if_neg hne', winL_of hmem, par_u8 mxP_ge, hwin]
      simp only [PP, P1, P2, P3, P4, P5, P6, P7, P8, P9, P10, P11, P12, P13, P14, L1, P15, N1, N2, N3, N4, N5, N6, N7, I1, I2, I3, I4, I5, I6, I7, reduceIte, reduceCtorEq]
      refine winner_p T B (by show _ < 1000000000000; omega) ?_
      rw [hwm]
      simp only [PP, P1, P2, P3, P4, P5, P6, P7, P8, P9, P10, P11, P12, P13, P14, L1, P15, N1, N2, N3, N4, N5, N6, N7, I1, I2, I3, I4, I5, I6, I7, reduceIte, reduceCtorEq, q0, q1, g8, lw]
theorem cplays_all (args : List AV) (h : H) (hs : ShVs [gameTy, solTy, .slice (.int .u8), .int .u8] args h) :
    ∃ n h', (run tab n).call 6 args h = some (.bool true, h') := by
  obtain ⟨a, b, c, d, rfl, ha, hb, hc, hd⟩ := shVs4 hs
  obtain ⟨ow, pr, su, r1, N⟩ := arg_game ha
  obtain ⟨ws, ss, r2, hw⟩ := arg_sol hb
  obtain ⟨mvs, r3, m1, m2⟩ := arg_ints hc
  obtain ⟨fr, rfl, r4, f0, f1⟩ := arg_int hd
  exact run_of_C (law_of_sem (.cons r1 (.cons r2 (.cons r3 (.cons r4 (.nil _))))) (cplays_p T (fun x hx => (hw x hx).1) m2 f0 f1))
end
end Go.Am.Ar

