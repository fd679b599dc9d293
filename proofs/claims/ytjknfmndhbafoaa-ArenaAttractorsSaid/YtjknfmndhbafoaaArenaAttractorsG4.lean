/- The theorem of layer 29: complements of attractors are traps, attractors are their own attractors, and ranks tell what the player can force, and what goes with it. -/
import Derived.Test.YtjknfmndhbafoaaArenaAttractorsG3
import Derived.Test.YtjknfmndhbafoaaArenaAttractorsG0
import Derived.Test.YtjknfmndhbafoaaPmL
set_option linter.unusedVariables false
set_option linter.unusedSimpArgs false
set_option maxRecDepth 10000
namespace Go.Am.Ar
open Go.Am renaming pchk → P1, pold → P2, PKNo → P3, ppack → P4, PObj.under → P5, pput → P6, ptset → P7, ptget → P8, pev → P9, ofAV → P10, ofAV1 → P11, ppad → P12, pfill → P13, prepl → P14, AO.effect → P15
open List renaming replicate → L1
open Nat renaming reduceAdd → N1, reduceSub → N2, reduceMul → N3, reduceLT → N4, reduceLeDiff → N5, reduceEqDiff → N6, reduceBEq → N7
open Int renaming reduceToNat → I1, reduceLT → I2, reduceLE → I3, reduceEq → I4, reduceAdd → I5, reduceSub → I6, reduceNeg → I7
/-- Ranked, and below a position. -/
def Below (R : Nat → Int) (v : Nat) (u : Int) : Prop := 0 ≤ R u.toNat ∧ (R v < 0 ∨ R u.toNat < R v)
/-- What a loop over a row has found. -/
def Iv (row : List Int) (B : Int → Prop) (i : Nat) (s a : Bool) : Prop := (s = true ↔ ∃ u ∈ row.take i, B u) ∧ (a = true ↔ ∀ u ∈ row.take i, B u)
theorem Iv.step {row : List Int} {B : Int → Prop} {i : Nat} {s a bel : Bool} {u : Int} (h : Iv row B i s a) (g : row[i]? = some u) (hb : bel = true ↔ B u) : Iv row B (i + 1) (s || bel) (a && bel) := by
  unfold Iv
  rw [take_some g]
  constructor
  · rw [Bool.or_eq_true, h.1, hb]
    simp only [List.mem_append, List.mem_singleton]
    constructor
    · rintro (⟨x, h1, h2⟩ | h1)
      · exact ⟨x, .inl h1, h2⟩
      · exact ⟨u, .inr rfl, h1⟩
    · rintro ⟨x, h1 | rfl, h2⟩
      · exact .inl ⟨x, h1, h2⟩
      · exact .inr h2
  · rw [Bool.and_eq_true, h.2, hb]
    simp only [List.mem_append, List.mem_singleton]
    constructor
    · rintro ⟨h1, h2⟩ x (h3 | rfl)
      · exact h1 x h3
      · exact h2
    · intro h1
      exact ⟨fun x hx => h1 x (.inl hx), h1 u (.inr rfl)⟩
section
variable {tab : FuncId → Option AF} (T : HasA tab)
include T
theorem ranked_p {M : Mem} {K : PV → Mem → Prop} {f o : Bool} {n : Nat} {R : Nat → Int} {b : Bool} (hb : n < 1000000) (hk : K (slI false true .i64 (natI (rankedL n R b))) M) :
    SemC tab 27 [slI f o .i64 (tabL n R), .bool b] M K := by
  refine SemC_pure T.h27 (by simp only [PP, P1, P2, P3, P4, P5, P6, P7, P8, P9, P10, P11, P12, P13, P14, L1, P15, N1, N2, N3, N4, N5, N6, N7, I1, I2, I3, I4, I5, I6, I7, reduceIte, reduceCtorEq]) ?_
  simp only [af27, PP, P1, P2, P3, P4, P5, P6, P7, P8, P9, P10, P11, P12, P13, P14, L1, P15, N1, N2, N3, N4, N5, N6, N7, I1, I2, I3, I4, I5, I6, I7, reduceIte, reduceCtorEq, tabL_len]
  refine SemW_re (GStep.nil 5 1 rfl rfl rfl) ?_
  simp only [ptset, List.cons_append, List.nil_append, List.length_cons, List.length_nil, Nat.reduceAdd]
  refine loop3 (fun (v g : Nat) (acc : List Int) => v ≤ n ∧ acc = natI (rankedL v R b))
    (fun v g acc => [slI f o .i64 (tabL n R), .bool b, .junk, .junk, .junk, .ref 0 g 1 0 acc.length, p64 v, .junk, .junk, .junk, .junk, .junk, .junk, .junk, .junk, .junk, .junk, .junk, .junk, .junk, .junk, .junk, .junk, .junk, .junk])
    (fun v g acc => [.cells g 0 (acc.map (PV.int .i64))]) (fun v _ _ => n - v) 0 0 [] ⟨by omega, rfl⟩ (by simp only [PWeak_nil, PWeak_junk, PWeak_same, Int.cast_ofNat_Int, List.length_append, List.length_cons, List.length_nil, Nat.zero_add]) rfl ?_
  intro v g acc ⟨hle, hacc⟩ ih
  refine SemW_go (by kernel_rfl) ?_
  simp only [PP, P1, P2, P3, P4, P5, P6, P7, P8, P9, P10, P11, P12, P13, P14, L1, P15, N1, N2, N3, N4, N5, N6, N7, I1, I2, I3, I4, I5, I6, I7, reduceIte, reduceCtorEq, tabL_len]
  refine QIf.intro (fun c => ?_) (fun c => ?_)
  · have hv : v < n := by omega
    have v0 : (0 : Int) ≤ v := by omega
    have hw := wrap_succ (k := v) (by show _ < 1000000000000; omega)
    have hl : acc.length ≤ v := by rw [hacc, List.length_map]; exact rankedL_len _ _ _
    have b1 : (acc.length + 1) * 8 ≤ 140737488355328 := by omega
    have b2 : acc.length ≤ 9223372036854775806 := by omega
    have g1 := tabL_get (R := R) hv
    have hs : natI (rankedL (v + 1) R b) = acc ++ (if (decide (0 ≤ R v) == b) = true then [(v : Int)] else []) := by
      rw [hacc]
      unfold rankedL
      rw [List.range_succ, List.filter_append]
      by_cases h : (decide (0 ≤ R v) == b) = true
      · rw [if_pos h, List.filter_cons, if_pos h]; simp
      · rw [if_neg h, List.filter_cons, if_neg h]; simp
    simp only [PP, P1, P2, P3, P4, P5, P6, P7, P8, P9, P10, P11, P12, P13, P14, L1, P15, N1, N2, N3, N4, N5, N6, N7, I1, I2, I3, I4, I5, I6, I7, reduceIte, reduceCtorEq, tabL_len, c, v0, g1]
    by_cases h : (decide (0 ≤ R v) == b) = true
    · rw [if_pos h] at hs
      simp only [PP, P1, P2, P3, P4, P5, P6, P7, P8, P9, P10, P11, P12, P13, P14, L1, P15, N1, N2, N3, N4, N5, N6, N7, I1, I2, I3, I4, I5, I6, I7, reduceIte, reduceCtorEq, h, b1, b2, hw]
      exact SemW_to (ih (v + 1) (g + 1) (acc ++ [(v : Int)]) ⟨by omega, hs.symm⟩ (by omega)) (by simp only [PWeak_nil, PWeak_junk, PWeak_same, Int.cast_ofNat_Int, List.length_append, List.length_cons, List.length_nil, Nat.zero_add]) (by simp only [List.map_append, List.map_cons, List.map_nil])
    · rw [if_neg h, List.append_nil] at hs
      have h : (decide (0 ≤ R v) == b) = false := by simpa using h
      simp only [PP, P1, P2, P3, P4, P5, P6, P7, P8, P9, P10, P11, P12, P13, P14, L1, P15, N1, N2, N3, N4, N5, N6, N7, I1, I2, I3, I4, I5, I6, I7, reduceIte, reduceCtorEq, h, hw]
      exact SemW_to (ih (v + 1) g acc ⟨by omega, hs.symm⟩ (by omega)) (by simp only [PWeak_nil, PWeak_junk, PWeak_same, Int.cast_ofNat_Int, List.length_append, List.length_cons, List.length_nil, Nat.zero_add]) rfl
  · have : v = n := by omega
    subst this
    simp only [PP, P1, P2, P3, P4, P5, P6, P7, P8, P9, P10, P11, P12, P13, P14, L1, P15, N1, N2, N3, N4, N5, N6, N7, I1, I2, I3, I4, I5, I6, I7, reduceIte, reduceCtorEq, c]
    rw [hacc]
    exact hk

set_option maxHeartbeats 1000000 in
theorem attractors_p {ow pr keep : List Int} {side : Int} {su : List (List Int)} (hs0 : 0 ≤ side) (ho : ∀ x ∈ ow, 0 ≤ x) :
    SemC tab 7 [gmP false false false false false false false false ow pr su, p8 side, slI false false .i64 keep] [] fun r _ => r = .bool true := by
  refine SemC_fn T.h7 ?_
  simp only [af7, PP, P1, P2, P3, P4, P5, P6, P7, P8, P9, P10, P11, P12, P13, P14, L1, P15, N1, N2, N3, N4, N5, N6, N7, I1, I2, I3, I4, I5, I6, I7, reduceIte, reduceCtorEq]
  refine long_p T (ls := [keep]) (by show 1 < 1000000000000; omega) ?_
  simp only [PP, P1, P2, P3, P4, P5, P6, P7, P8, P9, P10, P11, P12, P13, P14, L1, P15, N1, N2, N3, N4, N5, N6, N7, I1, I2, I3, I4, I5, I6, I7, reduceIte, reduceCtorEq]
  cases hl : longM ow pr su [keep] with
  | true =>
    simp only [PP, P1, P2, P3, P4, P5, P6, P7, P8, P9, P10, P11, P12, P13, P14, L1, P15, N1, N2, N3, N4, N5, N6, N7, I1, I2, I3, I4, I5, I6, I7, reduceIte, reduceCtorEq]
    refine SemC_true T.awake ?_
    simp only [PP, P1, P2, P3, P4, P5, P6, P7, P8, P9, P10, P11, P12, P13, P14, L1, P15, N1, N2, N3, N4, N5, N6, N7, I1, I2, I3, I4, I5, I6, I7, reduceIte, reduceCtorEq]
  | false =>
    have S := longM_false hl
    have B := S.bnd
    have hkl := S.l keep (by simp)
    have hkb : keep.length < big := by show _ < 1000000000000; omega
    have so := S.o
    simp only [PP, P1, P2, P3, P4, P5, P6, P7, P8, P9, P10, P11, P12, P13, P14, L1, P15, N1, N2, N3, N4, N5, N6, N7, I1, I2, I3, I4, I5, I6, I7, reduceIte, reduceCtorEq]
    refine SemC_true T.awake ?_
    simp only [PP, P1, P2, P3, P4, P5, P6, P7, P8, P9, P10, P11, P12, P13, P14, L1, P15, N1, N2, N3, N4, N5, N6, N7, I1, I2, I3, I4, I5, I6, I7, reduceIte, reduceCtorEq]
    refine attract_p T B hkb hs0 ho ?_
    unfold attrM
    by_cases c1 : wrongM ow pr su side keep = 0
    · rw [if_pos c1]
      obtain ⟨V, hside, hpm⟩ := wrong_zero c1
      have hS2 : ∀ v, v < ow.length → Sf su v ≠ [] ∧ ∀ u ∈ Sf su v, u < ow.length := fun v hv => ⟨(Sf_ok V hv).1, (Sf_ok V hv).2.1⟩
      have hrk : IsRank ow.length (fun v => Pf ow side v = true) (Sf su) (fun v => Zf keep v = true) (rkOf ow su side keep) := rk_isRank hS2
      have hRn := rankOf_le V (side := side) (keep := keep)
      have hstr := fun v hv => strat_nonneg V hrk (v := v) hv
      have hin : ∀ v, v < ow.length → ((v : Int) ∈ keep ↔ rkOf ow su side keep v = 0) := fun v hv => ((hrk.z v hv).trans decide_eq_true_iff).symm
      have hge := hrk.ge
      have hP := hrk.p
      have hO := hrk.o
      have hrk2 : IsRank ow.length (fun v => Pf ow side v = true) (Sf su) (fun v => Zf (natI (rankedL ow.length (rkOf ow su side keep) true)) v = true) (rkOf ow su side (natI (rankedL ow.length (rkOf ow su side keep) true))) := rk_isRank hS2
      have hag := again_iff V hrk hRn hrk2
      have w1 := rankedL_wrong c1 (rkOf ow su side keep) false
      have w2 := rankedL_wrong c1 (rkOf ow su side keep) true
      have hto : trapM ow pr su side (natI (rankedL ow.length (rkOf ow su side keep) false)) = .tuple [.bool true, p64 0] := by
        unfold trapM; rw [if_pos w1, out_trap V hrk hRn]
      have hro := out_rows V hrk hRn
      have hos := fun v hv => out_some V hrk hRn (v := v) hv
      have hoa := fun v hv => out_all hrk (v := v) hv
      have hrl := rankedL_len ow.length (rkOf ow su side keep) false
      have hrl2 := rankedL_len ow.length (rkOf ow su side keep) true
      have hri := rankedL_rise ow.length (rkOf ow su side keep) false
      generalize hSt : stratOf ow su side (rkOf ow su side keep) = St at hstr ⊢
      generalize hRR : rkOf ow su side keep = R at *
      have c1' : wrongM ow pr su side keep = 0 := c1
      have ob : (natI (rankedL ow.length R false)).length < big := by show _ < 1000000000000; rw [List.length_map]; omega
      have ib : (natI (rankedL ow.length R true)).length < big := by show _ < 1000000000000; rw [List.length_map]; omega
      simp only [PP, P1, P2, P3, P4, P5, P6, P7, P8, P9, P10, P11, P12, P13, P14, L1, P15, N1, N2, N3, N4, N5, N6, N7, I1, I2, I3, I4, I5, I6, I7, reduceIte, reduceCtorEq, tabL_len]
      refine wrong_p T B hkb ?_
      simp only [PP, P1, P2, P3, P4, P5, P6, P7, P8, P9, P10, P11, P12, P13, P14, L1, P15, N1, N2, N3, N4, N5, N6, N7, I1, I2, I3, I4, I5, I6, I7, reduceIte, reduceCtorEq, c1, tabL_len]
      refine ranked_p T (by omega) ?_
      simp only [PP, P1, P2, P3, P4, P5, P6, P7, P8, P9, P10, P11, P12, P13, P14, L1, P15, N1, N2, N3, N4, N5, N6, N7, I1, I2, I3, I4, I5, I6, I7, reduceIte, reduceCtorEq]
      refine trap_p T B ob ?_
      rw [hto]
      simp only [PP, P1, P2, P3, P4, P5, P6, P7, P8, P9, P10, P11, P12, P13, P14, L1, P15, N1, N2, N3, N4, N5, N6, N7, I1, I2, I3, I4, I5, I6, I7, reduceIte, reduceCtorEq]
      refine ranked_p T (by omega) ?_
      simp only [PP, P1, P2, P3, P4, P5, P6, P7, P8, P9, P10, P11, P12, P13, P14, L1, P15, N1, N2, N3, N4, N5, N6, N7, I1, I2, I3, I4, I5, I6, I7, reduceIte, reduceCtorEq]
      refine attract_p T B ib hs0 ho ?_
      unfold attrM
      rw [if_pos w2]
      simp only [PP, P1, P2, P3, P4, P5, P6, P7, P8, P9, P10, P11, P12, P13, P14, L1, P15, N1, N2, N3, N4, N5, N6, N7, I1, I2, I3, I4, I5, I6, I7, reduceIte, reduceCtorEq]
      refine ranked_p T (by omega) ?_
      rw [rankedL_congr hag]
      simp only [PP, P1, P2, P3, P4, P5, P6, P7, P8, P9, P10, P11, P12, P13, P14, L1, P15, N1, N2, N3, N4, N5, N6, N7, I1, I2, I3, I4, I5, I6, I7, reduceIte, reduceCtorEq]
      refine equalInts_p T ob ?_
      simp only [PP, P1, P2, P3, P4, P5, P6, P7, P8, P9, P10, P11, P12, P13, P14, L1, P15, N1, N2, N3, N4, N5, N6, N7, I1, I2, I3, I4, I5, I6, I7, reduceIte, reduceCtorEq]
      apply QIf_both
      rotate_left
      · intro c2 gg
        simp only [PP, P1, P2, P3, P4, P5, P6, P7, P8, P9, P10, P11, P12, P13, P14, L1, P15, N1, N2, N3, N4, N5, N6, N7, I1, I2, I3, I4, I5, I6, I7, reduceIte, reduceCtorEq, c2]
        refine SemW_to (b := [.junk, p8 side, slI false false .i64 keep, .ptr 0 0 0, .junk, .junk, .junk, slI false true .i64 (tabL ow.length R), slI false true .i64 (tabL ow.length St), .junk, .junk, .junk, .junk, .junk, .junk, .junk, .junk, .junk, p64 0, .junk, .junk, .junk, .junk, .junk, .junk, .junk, .junk, .junk, .junk, .junk, .junk, .junk, .junk, .junk, .junk, .junk, .junk, .junk, .junk, .junk, .junk, .junk, .junk, .junk, .junk, .junk, .junk, .junk, .junk, .junk, .junk, .junk, .junk, .junk, .junk, .junk, .junk, .junk, .junk, .junk, .junk, .junk, .junk, .junk, .junk, .junk, .junk, .junk, .junk, .junk, .junk, .junk, .junk, .junk, .junk, .junk, .junk, .junk, .junk, .junk, .junk, .junk, .junk, .junk, .junk, .junk, .junk, .junk, .junk, .junk, .junk, .junk, .junk, .junk, .junk, .junk, .junk, .junk, .junk, .junk, .junk, .junk, .junk, .junk, .junk, .junk, .junk, .junk, .junk, .junk, .junk, .junk, .junk, .junk, .junk, .junk, .junk, .junk, .junk, .junk, .junk, .junk, .junk, .junk, .junk, .junk, .junk, .junk, .junk, .junk, .junk, .junk, .junk, .junk, .junk, .junk, .junk, .junk, .junk, .junk, .junk, .junk, .junk, .junk, .junk, .junk, .junk, .junk, .junk, .junk, .junk, .junk, .junk, .junk, .junk, .junk, .junk, .junk, .junk, .junk, .junk, .junk, .junk, .junk, .junk, .junk, .junk, .junk, .junk, .junk, .junk, .junk, .junk, .junk, .junk, .junk, .junk, .junk, .junk, .junk, .junk, .junk, .junk, .junk, .junk, .junk, .junk, .junk, .junk, .junk, .junk, .junk, .junk, .junk, .junk, .junk, .junk, .junk, .junk, .junk, .junk, .junk, .junk, .junk, .junk, .junk, .junk, .junk, .junk, .junk, .junk, .junk, .junk, .junk, .junk, .junk, .junk, .junk, .junk, .junk, .junk, .junk, .junk, .junk, .junk, .junk, .junk, .junk, .junk, .junk, .junk, .junk, .junk, .junk, .junk, .junk, .junk, .junk, .junk, .junk, .junk, .junk, .junk, .junk, .junk, .junk, .junk, .junk, .junk, .junk, .junk, .junk, .junk, .junk, .junk, .junk, .junk, .junk, .junk, .junk, .junk, .junk, .junk, .junk, .junk, .junk, .junk, .junk, .junk, .junk]) (N := [.cells 0 0 [slI false false .u8 ow, slI false false .i64 pr, slR false false false false .i64 su]]) gg (by simp only [PWeak_nil, PWeak_junk, PWeak_same, Int.cast_ofNat_Int, List.length_append, List.length_cons, List.length_nil, Nat.zero_add]) rfl
      rotate_left
      · intro c2 gg
        simp only [PP, P1, P2, P3, P4, P5, P6, P7, P8, P9, P10, P11, P12, P13, P14, L1, P15, N1, N2, N3, N4, N5, N6, N7, I1, I2, I3, I4, I5, I6, I7, reduceIte, reduceCtorEq, c2]
        have hV2 := restrict_valid V hri.1 hri.2 (by rw [List.length_map]; omega) hro
        have hrm : restrictM ow pr su (natI (rankedL ow.length R false)) = .tuple [gmP false true false true false true false true ((natI (rankedL ow.length R false)).map fun v => ow.getD v.toNat 0) ((natI (rankedL ow.length R false)).map fun v => pr.getD v.toNat 0) ((natI (rankedL ow.length R false)).map fun v => rowM (natI (rankedL ow.length R false)) (su.getD v.toNat [])), p64 0] := by
          have w0 : wrongM ow pr su 0 (natI (rankedL ow.length R false)) = 0 := by
            unfold wrongM
            rw [if_pos (wrong_check c1'), if_neg (by omega), if_pos (posM_of hri.1 hri.2)]
          unfold restrictM
          rw [if_pos w0, if_neg (by rw [List.length_map]; omega), if_neg (fun ⟨v, h1, h2⟩ => hro v h1 h2)]
        refine restrict_p T B ob ?_
        rw [hrm]
        have hB2 : Bnd ((natI (rankedL ow.length R false)).map fun v => ow.getD v.toNat 0) ((natI (rankedL ow.length R false)).map fun v => pr.getD v.toNat 0) ((natI (rankedL ow.length R false)).map fun v => rowM (natI (rankedL ow.length R false)) (su.getD v.toNat [])) := by
          refine ⟨by rw [List.length_map]; exact ob, by rw [List.length_map]; exact ob, by rw [List.length_map]; exact ob, fun r hr => ?_⟩
          obtain ⟨v, hv, rfl⟩ := List.mem_map.1 hr
          unfold rowM
          rw [List.length_map]
          refine Nat.lt_of_le_of_lt (List.length_filter_le _ _) ?_
          rw [List.getD]
          cases hx : su[v.toNat]? with
          | none => show 0 < 1000000000000; omega
          | some row => exact B.r row (List.mem_of_getElem? hx)
        generalize ((natI (rankedL ow.length R false)).map fun v => ow.getD v.toNat 0) = o2 at *
        generalize ((natI (rankedL ow.length R false)).map fun v => pr.getD v.toNat 0) = p2 at *
        generalize ((natI (rankedL ow.length R false)).map fun v => rowM (natI (rankedL ow.length R false)) (su.getD v.toNat [])) = s2 at *
        simp only [PP, P1, P2, P3, P4, P5, P6, P7, P8, P9, P10, P11, P12, P13, P14, L1, P15, N1, N2, N3, N4, N5, N6, N7, I1, I2, I3, I4, I5, I6, I7, reduceIte, reduceCtorEq]
        refine check_p T hB2 ?_
        rw [check_of hV2]
        simp only [PP, P1, P2, P3, P4, P5, P6, P7, P8, P9, P10, P11, P12, P13, P14, L1, P15, N1, N2, N3, N4, N5, N6, N7, I1, I2, I3, I4, I5, I6, I7, reduceIte, reduceCtorEq]
        refine SemW_re (GStep.drop (b := [.junk, p8 side, slI false false .i64 keep, .ptr 0 0 0, .junk, .junk, .junk, slI false true .i64 (tabL ow.length R), slI false true .i64 (tabL ow.length St), .junk, .junk, .junk, .junk, .junk, .junk, .junk, .junk, .junk, p64 0, .junk, .junk, .junk, .junk, .junk, .junk, .junk, .junk, .junk, .junk, .junk, .junk, .junk, .junk, .junk, .junk, .junk, .junk, .junk, .junk, .junk, .junk, .junk, .junk, .junk, .junk, .junk, .junk, .junk, .junk, .junk, .junk, .junk, .junk, .junk, .junk, .junk, .junk, .junk, .junk, .junk, .junk, .junk, .junk, .junk, .junk, .junk, .junk, .junk, .junk, .junk, .junk, .junk, .junk, .junk, .junk, .junk, .junk, .junk, .junk, .junk, .junk, .junk, .junk, .junk, .junk, .junk, .junk, .junk, .junk, .junk, .junk, .junk, .junk, .junk, .junk, .junk, .junk, .junk, .junk, .junk, .junk, .junk, .junk, .junk, .junk, .junk, .junk, .junk, .junk, .junk, .junk, .junk, .junk, .junk, .junk, .junk, .junk, .junk, .junk, .junk, .junk, .junk, .junk, .junk, .junk, .junk, .junk, .junk, .junk, .junk, .junk, .junk, .junk, .junk, .junk, .junk, .junk, .junk, .junk, .junk, .junk, .junk, .junk, .junk, .junk, .junk, .junk, .junk, .junk, .junk, .junk, .junk, .junk, .junk, .junk, .junk, .junk, .junk, .junk, .junk, .junk, .junk, .junk, .junk, .junk, .junk, .junk, .junk, .junk, .junk, .junk, .junk, .junk, .junk, .junk, .junk, .junk, .junk, .junk, .junk, .junk, .junk, .junk, .junk, .junk, .junk, .junk, .junk, .junk, .junk, .junk, .junk, .junk, .junk, .junk, .junk, .junk, .junk, .junk, .junk, .junk, .junk, .junk, .junk, .junk, .junk, .junk, .junk, .junk, .junk, .junk, .junk, .junk, .junk, .junk, .junk, .junk, .junk, .junk, .junk, .junk, .junk, .junk, .junk, .junk, .junk, .junk, .junk, .junk, .junk, .junk, .junk, .junk, .junk, .junk, .junk, .junk, .junk, .junk, .junk, .junk, .junk, .junk, .junk, .junk, .junk, .junk, .junk, .junk, .junk, .junk, .junk, .junk, .junk, .junk, .junk, .junk, .junk, .junk, .junk, .junk, .junk, .junk, .junk, .junk, .junk, .junk, .junk, .junk, .junk]) 1 (Nat.zero_le _) (by simp) (by simp only [PWeak_nil, PWeak_junk, PWeak_same, Int.cast_ofNat_Int, List.length_append, List.length_cons, List.length_nil, Nat.zero_add]) (by simp only [PP, P1, P2, P3, P4, P5, P6, P7, P8, P9, P10, P11, P12, P13, P14, L1, P15, N1, N2, N3, N4, N5, N6, N7, I1, I2, I3, I4, I5, I6, I7, reduceIte, reduceCtorEq]) (by simp only [PP, P1, P2, P3, P4, P5, P6, P7, P8, P9, P10, P11, P12, P13, P14, L1, P15, N1, N2, N3, N4, N5, N6, N7, I1, I2, I3, I4, I5, I6, I7, reduceIte, reduceCtorEq]) rfl) gg
      refine loop1 (fun (v : Nat) => v ≤ ow.length) (fun v => [.junk, p8 side, slI false false .i64 keep, .ptr 0 0 0, .junk, .junk, .junk, slI false true .i64 (tabL ow.length R), slI false true .i64 (tabL ow.length St), .junk, .junk, .junk, .junk, .junk, .junk, .junk, .junk, .junk, p64 v, .junk, .junk, .junk, .junk, .junk, .junk, .junk, .junk, .junk, .junk, .junk, .junk, .junk, .junk, .junk, .junk, .junk, .junk, .junk, .junk, .junk, .junk, .junk, .junk, .junk, .junk, .junk, .junk, .junk, .junk, .junk, .junk, .junk, .junk, .junk, .junk, .junk, .junk, .junk, .junk, .junk, .junk, .junk, .junk, .junk, .junk, .junk, .junk, .junk, .junk, .junk, .junk, .junk, .junk, .junk, .junk, .junk, .junk, .junk, .junk, .junk, .junk, .junk, .junk, .junk, .junk, .junk, .junk, .junk, .junk, .junk, .junk, .junk, .junk, .junk, .junk, .junk, .junk, .junk, .junk, .junk, .junk, .junk, .junk, .junk, .junk, .junk, .junk, .junk, .junk, .junk, .junk, .junk, .junk, .junk, .junk, .junk, .junk, .junk, .junk, .junk, .junk, .junk, .junk, .junk, .junk, .junk, .junk, .junk, .junk, .junk, .junk, .junk, .junk, .junk, .junk, .junk, .junk, .junk, .junk, .junk, .junk, .junk, .junk, .junk, .junk, .junk, .junk, .junk, .junk, .junk, .junk, .junk, .junk, .junk, .junk, .junk, .junk, .junk, .junk, .junk, .junk, .junk, .junk, .junk, .junk, .junk, .junk, .junk, .junk, .junk, .junk, .junk, .junk, .junk, .junk, .junk, .junk, .junk, .junk, .junk, .junk, .junk, .junk, .junk, .junk, .junk, .junk, .junk, .junk, .junk, .junk, .junk, .junk, .junk, .junk, .junk, .junk, .junk, .junk, .junk, .junk, .junk, .junk, .junk, .junk, .junk, .junk, .junk, .junk, .junk, .junk, .junk, .junk, .junk, .junk, .junk, .junk, .junk, .junk, .junk, .junk, .junk, .junk, .junk, .junk, .junk, .junk, .junk, .junk, .junk, .junk, .junk, .junk, .junk, .junk, .junk, .junk, .junk, .junk, .junk, .junk, .junk, .junk, .junk, .junk, .junk, .junk, .junk, .junk, .junk, .junk, .junk, .junk, .junk, .junk, .junk, .junk, .junk, .junk, .junk, .junk, .junk, .junk, .junk, .junk, .junk, .junk, .junk, .junk, .junk]) (fun _ => [.cells 0 0 [slI false false .u8 ow, slI false false .i64 pr, slR false false false false .i64 su]]) (fun v => ow.length - v) 0 (by omega) (by simp only [PWeak_nil, PWeak_junk, PWeak_same, Int.cast_ofNat_Int, List.length_append, List.length_cons, List.length_nil, Nat.zero_add]) rfl ?_
      intro v hle ih
      refine SemW_go (by kernel_rfl) ?_
      simp only [PP, P1, P2, P3, P4, P5, P6, P7, P8, P9, P10, P11, P12, P13, P14, L1, P15, N1, N2, N3, N4, N5, N6, N7, I1, I2, I3, I4, I5, I6, I7, reduceIte, reduceCtorEq, tabL_len]
      refine QIf.intro (fun d => ?_) (fun d => ?_)
      rotate_left
      · simp only [PP, P1, P2, P3, P4, P5, P6, P7, P8, P9, P10, P11, P12, P13, P14, L1, P15, N1, N2, N3, N4, N5, N6, N7, I1, I2, I3, I4, I5, I6, I7, reduceIte, reduceCtorEq, d]
      have hv : v < ow.length := by omega
      have v0 : (0 : Int) ≤ v := by omega
      have hwv := wrap_succ (k := v) (by show _ < 1000000000000; omega)
      have g1 := tabL_get (R := R) hv
      have g2 := tabL_get (R := St) hv
      obtain ⟨o, g3⟩ := some_of (xs := ow) (k := v) hv
      obtain ⟨row, g4⟩ := some_of (xs := su) (k := v) (by rw [V.s]; exact hv)
      have e3 : ow.getD v 0 = o := getD_some g3
      have e4 : su.getD v [] = row := by simp [List.getD, g4]
      have hvs : (v : Int) < su.length := by have := V.s; omega
      have hrb : row.length < 1000000000000 := B.r _ (List.mem_of_getElem? g4)
      have hst := hstr v hv
      rw [e3] at hst
      have hrr : ∀ u ∈ row, 0 ≤ u ∧ u < ow.length := fun u hu => su_range V hv (by rw [e4]; exact hu)
      have m1 : 0 < R v → o = side → ∃ u ∈ row, Below R v u := fun q1 q2 => by
        obtain ⟨u, hu, h1⟩ := hP v hv (decide_eq_true (by rw [e3]; exact q2)) q1
        obtain ⟨y, hy, rfl⟩ := List.mem_map.1 hu
        rw [e4] at hy
        exact ⟨y, hy, by omega, .inr (by omega)⟩
      have m2 : 0 < R v → ¬ o = side → ∀ u ∈ row, Below R v u := fun q1 q2 u hu => by
        obtain ⟨h1, h2⟩ := hO v hv (fun q => q2 (by rw [← e3]; exact of_decide_eq_true q)) q1 u.toNat (List.mem_map.2 ⟨u, by rw [e4]; exact hu, rfl⟩)
        exact ⟨h1, .inr h2⟩
      have m3 : R v < 0 → o = side → ¬ ∃ u ∈ row, Below R v u := fun q1 q2 ⟨u, hu, h1, _⟩ => by
        have := hoa v hv q1 (decide_eq_true (by rw [e3]; exact q2)) u (by rw [e4]; exact hu)
        omega
      have m4 : R v < 0 → ¬ o = side → ¬ ∀ u ∈ row, Below R v u := fun q1 q2 h => by
        obtain ⟨u, hu, h1⟩ := hos v hv q1
        rw [e4] at hu
        have := (h u hu).1
        omega
      simp only [PP, P1, P2, P3, P4, P5, P6, P7, P8, P9, P10, P11, P12, P13, P14, L1, P15, N1, N2, N3, N4, N5, N6, N7, I1, I2, I3, I4, I5, I6, I7, reduceIte, reduceCtorEq, d]
      refine hasInt_p T hkb ?_
      have hdi : decide ((v : Int) ∈ keep) = decide (R v = 0) := by simp only [hin v hv]
      rw [hdi]
      simp only [PP, P1, P2, P3, P4, P5, P6, P7, P8, P9, P10, P11, P12, P13, P14, L1, P15, N1, N2, N3, N4, N5, N6, N7, I1, I2, I3, I4, I5, I6, I7, reduceIte, reduceCtorEq, g1, g2, v0, d, tabL_len]
      apply QIf_both
      · intro q gg
        have hds : decide (0 ≤ St v) = decide (o = side) := by simp only [hst, q, true_and]
        simp only [PP, P1, P2, P3, P4, P5, P6, P7, P8, P9, P10, P11, P12, P13, P14, L1, P15, N1, N2, N3, N4, N5, N6, N7, I1, I2, I3, I4, I5, I6, I7, reduceIte, reduceCtorEq, q, g1, g2, g3, v0, d, tabL_len, hds]
        exact SemW_to (b := [.junk, p8 side, slI false false .i64 keep, .ptr 0 0 0, .junk, .junk, .junk, slI false true .i64 (tabL ow.length R), slI false true .i64 (tabL ow.length St), .junk, .junk, .junk, .junk, .junk, .junk, .junk, .junk, .junk, p64 v, .bool false, .bool true, p64 0, .junk, .junk, .junk, .junk, .junk, .junk, .junk, .junk, .junk, .junk, .junk, .junk, .junk, .junk, .junk, .junk, .junk, .junk, .junk, .junk, .junk, .junk, .junk, .junk, .junk, .junk, .junk, .junk, .junk, .junk, .junk, .junk, .junk, .junk, .junk, .junk, .junk, .junk, .junk, .junk, .junk, .junk, .junk, .junk, .junk, .junk, .junk, .junk, .junk, .junk, .junk, .junk, .junk, .junk, .junk, .junk, .junk, .junk, .junk, .junk, .junk, .junk, .junk, .junk, .junk, .junk, .junk, .junk, .junk, .junk, .junk, .junk, .junk, .junk, .junk, .junk, .junk, .junk, .junk, .junk, .junk, .junk, .junk, .junk, .junk, .junk, .junk, .junk, .junk, .junk, .junk, .junk, .junk, .junk, .junk, .junk, .junk, .junk, .junk, .junk, .junk, .junk, .junk, .junk, .junk, .junk, .junk, .junk, .junk, .junk, .junk, .junk, .junk, .junk, .junk, .junk, .junk, .junk, .junk, .junk, .junk, .junk, .junk, .junk, .junk, .junk, .junk, .junk, .junk, .junk, .junk, .junk, .junk, .junk, .junk, .junk, .junk, .junk, .junk, .junk, .junk, .junk, .junk, .junk, .junk, .junk, .junk, .junk, .junk, .junk, .junk, .junk, .junk, .junk, .junk, .junk, .junk, .junk, .junk, .junk, .junk, .junk, .junk, .junk, .junk, .junk, .junk, .junk, .junk, .junk, .junk, .junk, .junk, .junk, .junk, .junk, .junk, .junk, .junk, .junk, .junk, .junk, .junk, .junk, .junk, .junk, .junk, .junk, .junk, .junk, .junk, .junk, .junk, .junk, .junk, .junk, .junk, .junk, .junk, .junk, .junk, .junk, .junk, .junk, .junk, .junk, .junk, .junk, .junk, .junk, .junk, .junk, .junk, .junk, .junk, .junk, .junk, .junk, .junk, .junk, .junk, .junk, .junk, .junk, .junk, .junk, .junk, .junk, .junk, .junk, .junk, .junk, .junk, .junk, .junk, .junk, .junk, .junk, .junk, .junk, .junk, .junk, .junk, .junk, .junk, .junk, .junk, .junk]) (N := [.cells 0 0 [slI false false .u8 ow, slI false false .i64 pr, slR false false false false .i64 su]]) gg (by simp only [PWeak_nil, PWeak_junk, PWeak_same, Int.cast_ofNat_Int, List.length_append, List.length_cons, List.length_nil, Nat.zero_add]) rfl
      · intro q gg
        have hds : decide (0 ≤ St v) = false := by simp only [hst, q, false_and, decide_false]
        simp only [PP, P1, P2, P3, P4, P5, P6, P7, P8, P9, P10, P11, P12, P13, P14, L1, P15, N1, N2, N3, N4, N5, N6, N7, I1, I2, I3, I4, I5, I6, I7, reduceIte, reduceCtorEq, q, g1, g2, g3, v0, d, tabL_len, hds]
        exact SemW_to (b := [.junk, p8 side, slI false false .i64 keep, .ptr 0 0 0, .junk, .junk, .junk, slI false true .i64 (tabL ow.length R), slI false true .i64 (tabL ow.length St), .junk, .junk, .junk, .junk, .junk, .junk, .junk, .junk, .junk, p64 v, .bool false, .bool true, p64 0, .junk, .junk, .junk, .junk, .junk, .junk, .junk, .junk, .junk, .junk, .junk, .junk, .junk, .junk, .junk, .junk, .junk, .junk, .junk, .junk, .junk, .junk, .junk, .junk, .junk, .junk, .junk, .junk, .junk, .junk, .junk, .junk, .junk, .junk, .junk, .junk, .junk, .junk, .junk, .junk, .junk, .junk, .junk, .junk, .junk, .junk, .junk, .junk, .junk, .junk, .junk, .junk, .junk, .junk, .junk, .junk, .junk, .junk, .junk, .junk, .junk, .junk, .junk, .junk, .junk, .junk, .junk, .junk, .junk, .junk, .junk, .junk, .junk, .junk, .junk, .junk, .junk, .junk, .junk, .junk, .junk, .junk, .junk, .junk, .junk, .junk, .junk, .junk, .junk, .junk, .junk, .junk, .junk, .junk, .junk, .junk, .junk, .junk, .junk, .junk, .junk, .junk, .junk, .junk, .junk, .junk, .junk, .junk, .junk, .junk, .junk, .junk, .junk, .junk, .junk, .junk, .junk, .junk, .junk, .junk, .junk, .junk, .junk, .junk, .junk, .junk, .junk, .junk, .junk, .junk, .junk, .junk, .junk, .junk, .junk, .junk, .junk, .junk, .junk, .junk, .junk, .junk, .junk, .junk, .junk, .junk, .junk, .junk, .junk, .junk, .junk, .junk, .junk, .junk, .junk, .junk, .junk, .junk, .junk, .junk, .junk, .junk, .junk, .junk, .junk, .junk, .junk, .junk, .junk, .junk, .junk, .junk, .junk, .junk, .junk, .junk, .junk, .junk, .junk, .junk, .junk, .junk, .junk, .junk, .junk, .junk, .junk, .junk, .junk, .junk, .junk, .junk, .junk, .junk, .junk, .junk, .junk, .junk, .junk, .junk, .junk, .junk, .junk, .junk, .junk, .junk, .junk, .junk, .junk, .junk, .junk, .junk, .junk, .junk, .junk, .junk, .junk, .junk, .junk, .junk, .junk, .junk, .junk, .junk, .junk, .junk, .junk, .junk, .junk, .junk, .junk, .junk, .junk, .junk, .junk, .junk, .junk, .junk, .junk, .junk, .junk, .junk, .junk, .junk, .junk, .junk, .junk, .junk]) (N := [.cells 0 0 [slI false false .u8 ow, slI false false .i64 pr, slR false false false false .i64 su]]) gg (by simp only [PWeak_nil, PWeak_junk, PWeak_same, Int.cast_ofNat_Int, List.length_append, List.length_cons, List.length_nil, Nat.zero_add]) rfl
      refine loop3 (fun (i : Nat) (s a : Bool) => i ≤ row.length ∧ Iv row (Below R v) i s a)
        (fun i s a => [.junk, p8 side, slI false false .i64 keep, .ptr 0 0 0, .junk, .junk, .junk, slI false true .i64 (tabL ow.length R), slI false true .i64 (tabL ow.length St), .junk, .junk, .junk, .junk, .junk, .junk, .junk, .junk, .junk, p64 v, .bool s, .bool a, p64 i, .junk, .junk, .junk, .junk, .junk, .junk, .junk, .junk, .junk, .junk, .junk, .junk, .junk, .junk, .junk, .junk, .junk, .junk, .junk, .junk, .junk, .junk, .junk, .junk, .junk, .junk, .junk, .junk, .junk, .junk, .junk, .junk, .junk, .junk, .junk, .junk, .junk, .junk, .junk, .junk, .junk, .junk, .junk, .junk, .junk, .junk, .junk, .junk, .junk, .junk, .junk, .junk, .junk, .junk, .junk, .junk, .junk, .junk, .junk, .junk, .junk, .junk, .junk, .junk, .junk, .junk, .junk, .junk, .junk, .junk, .junk, .junk, .junk, .junk, .junk, .junk, .junk, .junk, .junk, .junk, .junk, .junk, .junk, .junk, .junk, .junk, .junk, .junk, .junk, .junk, .junk, .junk, .junk, .junk, .junk, .junk, .junk, .junk, .junk, .junk, .junk, .junk, .junk, .junk, .junk, .junk, .junk, .junk, .junk, .junk, .junk, .junk, .junk, .junk, .junk, .junk, .junk, .junk, .junk, .junk, .junk, .junk, .junk, .junk, .junk, .junk, .junk, .junk, .junk, .junk, .junk, .junk, .junk, .junk, .junk, .junk, .junk, .junk, .junk, .junk, .junk, .junk, .junk, .junk, .junk, .junk, .junk, .junk, .junk, .junk, .junk, .junk, .junk, .junk, .junk, .junk, .junk, .junk, .junk, .junk, .junk, .junk, .junk, .junk, .junk, .junk, .junk, .junk, .junk, .junk, .junk, .junk, .junk, .junk, .junk, .junk, .junk, .junk, .junk, .junk, .junk, .junk, .junk, .junk, .junk, .junk, .junk, .junk, .junk, .junk, .junk, .junk, .junk, .junk, .junk, .junk, .junk, .junk, .junk, .junk, .junk, .junk, .junk, .junk, .junk, .junk, .junk, .junk, .junk, .junk, .junk, .junk, .junk, .junk, .junk, .junk, .junk, .junk, .junk, .junk, .junk, .junk, .junk, .junk, .junk, .junk, .junk, .junk, .junk, .junk, .junk, .junk, .junk, .junk, .junk, .junk, .junk, .junk, .junk, .junk, .junk, .junk, .junk, .junk, .junk, .junk, .junk, .junk]) (fun _ _ _ => [.cells 0 0 [slI false false .u8 ow, slI false false .i64 pr, slR false false false false .i64 su]]) (fun i _ _ => row.length - i) 0 false true ⟨by omega, by simp [Iv]⟩ (by simp only [PWeak_nil, PWeak_junk, PWeak_same, Int.cast_ofNat_Int, List.length_append, List.length_cons, List.length_nil, Nat.zero_add]) rfl ?_
      intro i s a ⟨hi, hIv⟩ ih2
      refine SemW_go (by kernel_rfl) ?_
      simp only [PP, P1, P2, P3, P4, P5, P6, P7, P8, P9, P10, P11, P12, P13, P14, L1, P15, N1, N2, N3, N4, N5, N6, N7, I1, I2, I3, I4, I5, I6, I7, reduceIte, reduceCtorEq, g4, v0, hvs]
      refine QIf.intro (fun e => ?_) (fun e => ?_)
      · have hil : i < row.length := by omega
        have i0 : (0 : Int) ≤ i := by omega
        have hwi := wrap_succ (k := i) (by show _ < 1000000000000; omega)
        obtain ⟨u, g5⟩ := some_of hil
        obtain ⟨u0, u1⟩ := hrr u (List.mem_of_getElem? g5)
        have g6 := tabL_get (R := R) (n := ow.length) (v := u.toNat) (by omega)
        simp only [PP, P1, P2, P3, P4, P5, P6, P7, P8, P9, P10, P11, P12, P13, P14, L1, P15, N1, N2, N3, N4, N5, N6, N7, I1, I2, I3, I4, I5, I6, I7, reduceIte, reduceCtorEq, e, g4, v0, hvs, i0, g5, u0, u1, g6, tabL_len]
        refine QIf.intro (fun q1 => ?_) (fun q1 => ?_)
        · simp only [PP, P1, P2, P3, P4, P5, P6, P7, P8, P9, P10, P11, P12, P13, P14, L1, P15, N1, N2, N3, N4, N5, N6, N7, I1, I2, I3, I4, I5, I6, I7, reduceIte, reduceCtorEq, q1, g1, v0, d, tabL_len]
          refine QIf.intro (fun q2 => ?_) (fun q2 => ?_)
          · have hnext : Iv row (Below R v) (i + 1) true a := by simpa only [Bool.or_true, Bool.and_true] using hIv.step g5 (bel := true) ⟨fun _ => ⟨q1, .inl q2⟩, fun _ => rfl⟩
            cases s <;> cases a <;> simp only [PP, P1, P2, P3, P4, P5, P6, P7, P8, P9, P10, P11, P12, P13, P14, L1, P15, N1, N2, N3, N4, N5, N6, N7, I1, I2, I3, I4, I5, I6, I7, reduceIte, reduceCtorEq, q2, hwi] <;> exact SemW_weak (ih2 (i + 1) _ _ ⟨by omega, hnext⟩ (by omega)) (by simp only [PWeak_nil, PWeak_junk, PWeak_same, Int.cast_ofNat_Int, List.length_append, List.length_cons, List.length_nil, Nat.zero_add])
          · simp only [PP, P1, P2, P3, P4, P5, P6, P7, P8, P9, P10, P11, P12, P13, P14, L1, P15, N1, N2, N3, N4, N5, N6, N7, I1, I2, I3, I4, I5, I6, I7, reduceIte, reduceCtorEq, q2, g1, v0, d, tabL_len]
            by_cases q3 : R u.toNat < R v
            · have hnext : Iv row (Below R v) (i + 1) true a := by simpa only [Bool.or_true, Bool.and_true] using hIv.step g5 (bel := true) ⟨fun _ => ⟨q1, .inr q3⟩, fun _ => rfl⟩
              cases s <;> cases a <;> simp only [PP, P1, P2, P3, P4, P5, P6, P7, P8, P9, P10, P11, P12, P13, P14, L1, P15, N1, N2, N3, N4, N5, N6, N7, I1, I2, I3, I4, I5, I6, I7, reduceIte, reduceCtorEq, q3, hwi] <;> exact SemW_weak (ih2 (i + 1) _ _ ⟨by omega, hnext⟩ (by omega)) (by simp only [PWeak_nil, PWeak_junk, PWeak_same, Int.cast_ofNat_Int, List.length_append, List.length_cons, List.length_nil, Nat.zero_add])
            · have hnext : Iv row (Below R v) (i + 1) s false := by simpa only [Bool.or_false, Bool.and_false] using hIv.step g5 (bel := false) ⟨fun h => (by cases h), fun h => absurd h.2 (fun h => h.elim q2 q3)⟩
              cases s <;> cases a <;> simp only [PP, P1, P2, P3, P4, P5, P6, P7, P8, P9, P10, P11, P12, P13, P14, L1, P15, N1, N2, N3, N4, N5, N6, N7, I1, I2, I3, I4, I5, I6, I7, reduceIte, reduceCtorEq, q3, hwi] <;> exact SemW_weak (ih2 (i + 1) _ _ ⟨by omega, hnext⟩ (by omega)) (by simp only [PWeak_nil, PWeak_junk, PWeak_same, Int.cast_ofNat_Int, List.length_append, List.length_cons, List.length_nil, Nat.zero_add])
        · have hnext : Iv row (Below R v) (i + 1) s false := by simpa only [Bool.or_false, Bool.and_false] using hIv.step g5 (bel := false) ⟨fun h => (by cases h), fun h => absurd h.1 q1⟩
          cases s <;> cases a <;> simp only [PP, P1, P2, P3, P4, P5, P6, P7, P8, P9, P10, P11, P12, P13, P14, L1, P15, N1, N2, N3, N4, N5, N6, N7, I1, I2, I3, I4, I5, I6, I7, reduceIte, reduceCtorEq, q1, hwi] <;> exact SemW_weak (ih2 (i + 1) _ _ ⟨by omega, hnext⟩ (by omega)) (by simp only [PWeak_nil, PWeak_junk, PWeak_same, Int.cast_ofNat_Int, List.length_append, List.length_cons, List.length_nil, Nat.zero_add])
      · unfold Iv at hIv
        rw [List.take_of_length_le (by omega)] at hIv
        simp only [PP, P1, P2, P3, P4, P5, P6, P7, P8, P9, P10, P11, P12, P13, P14, L1, P15, N1, N2, N3, N4, N5, N6, N7, I1, I2, I3, I4, I5, I6, I7, reduceIte, reduceCtorEq, e]
        by_cases p1 : 0 < R v
        · have p2 : ¬ R v < 0 := by omega
          by_cases p3 : o = side
          · have hs : s = true := hIv.1.2 (m1 p1 p3)
            subst hs
            simp only [PP, P1, P2, P3, P4, P5, P6, P7, P8, P9, P10, P11, P12, P13, P14, L1, P15, N1, N2, N3, N4, N5, N6, N7, I1, I2, I3, I4, I5, I6, I7, reduceIte, reduceCtorEq, g1, g3, v0, d, tabL_len, p1, p2, p3, hwv]
            exact SemW_weak (ih (v + 1) (by omega) (by omega)) (by simp only [PWeak_nil, PWeak_junk, PWeak_same, Int.cast_ofNat_Int, List.length_append, List.length_cons, List.length_nil, Nat.zero_add])
          · have ha : a = true := hIv.2.2 (m2 p1 p3)
            subst ha
            simp only [PP, P1, P2, P3, P4, P5, P6, P7, P8, P9, P10, P11, P12, P13, P14, L1, P15, N1, N2, N3, N4, N5, N6, N7, I1, I2, I3, I4, I5, I6, I7, reduceIte, reduceCtorEq, g1, g3, v0, d, tabL_len, p1, p2, p3, hwv]
            exact SemW_weak (ih (v + 1) (by omega) (by omega)) (by simp only [PWeak_nil, PWeak_junk, PWeak_same, Int.cast_ofNat_Int, List.length_append, List.length_cons, List.length_nil, Nat.zero_add])
        · by_cases p2 : R v < 0
          · by_cases p3 : o = side
            · have hs : s = false := by
                have := fun h => m3 p2 p3 (hIv.1.1 h)
                cases s with
                | false => rfl
                | true => exact absurd rfl this
              subst hs
              simp only [PP, P1, P2, P3, P4, P5, P6, P7, P8, P9, P10, P11, P12, P13, P14, L1, P15, N1, N2, N3, N4, N5, N6, N7, I1, I2, I3, I4, I5, I6, I7, reduceIte, reduceCtorEq, g1, g3, v0, d, tabL_len, p1, p2, p3, hwv]
              exact SemW_weak (ih (v + 1) (by omega) (by omega)) (by simp only [PWeak_nil, PWeak_junk, PWeak_same, Int.cast_ofNat_Int, List.length_append, List.length_cons, List.length_nil, Nat.zero_add])
            · have ha : a = false := by
                have := fun h => m4 p2 p3 (hIv.2.1 h)
                cases a with
                | false => rfl
                | true => exact absurd rfl this
              subst ha
              simp only [PP, P1, P2, P3, P4, P5, P6, P7, P8, P9, P10, P11, P12, P13, P14, L1, P15, N1, N2, N3, N4, N5, N6, N7, I1, I2, I3, I4, I5, I6, I7, reduceIte, reduceCtorEq, g1, g3, v0, d, tabL_len, p1, p2, p3, hwv]
              exact SemW_weak (ih (v + 1) (by omega) (by omega)) (by simp only [PWeak_nil, PWeak_junk, PWeak_same, Int.cast_ofNat_Int, List.length_append, List.length_cons, List.length_nil, Nat.zero_add])
          · simp only [PP, P1, P2, P3, P4, P5, P6, P7, P8, P9, P10, P11, P12, P13, P14, L1, P15, N1, N2, N3, N4, N5, N6, N7, I1, I2, I3, I4, I5, I6, I7, reduceIte, reduceCtorEq, g1, g3, v0, d, tabL_len, p1, p2, hwv]
            exact SemW_weak (ih (v + 1) (by omega) (by omega)) (by simp only [PWeak_nil, PWeak_junk, PWeak_same, Int.cast_ofNat_Int, List.length_append, List.length_cons, List.length_nil, Nat.zero_add])
    · rw [if_neg c1]
      simp only [PP, P1, P2, P3, P4, P5, P6, P7, P8, P9, P10, P11, P12, P13, P14, L1, P15, N1, N2, N3, N4, N5, N6, N7, I1, I2, I3, I4, I5, I6, I7, reduceIte, reduceCtorEq, c1]
      rfl
end
end Go.Am.Ar

set_option linter.unusedVariables false
set_option linter.unusedSimpArgs false
namespace Go.Am.Ar

/-- The type of games. -/
abbrev gameTy : Ty := .pair (.slice (.int .u8)) (.pair (.slice (.int .i64)) (.pair (.slice (.slice (.int .i64))) .unit))

/-- What is known of the numbers of a game that a law gets. -/
structure Nums (ow pr : List Int) (su : List (List Int)) : Prop where
  o : ∀ x ∈ ow, 0 ≤ x ∧ x ≤ 255
  p : ∀ x ∈ pr, -9223372036854775808 ≤ x ∧ x ≤ 9223372036854775807
  s : ∀ r ∈ su, ∀ x ∈ r, -9223372036854775808 ≤ x ∧ x ≤ 9223372036854775807
  lo : ow.length ≤ 9223372036854775807
  lp : pr.length ≤ 9223372036854775807
  ls : su.length ≤ 9223372036854775807
  lr : ∀ r ∈ su, r.length ≤ 9223372036854775807

theorem arg_game {v : AV} {h : H} (hs : ShV gameTy v h) : ∃ (ow pr : List Int) (su : List (List Int)), RepV (wH h) (gmP false false false false false false false false ow pr su) v ∧ Nums ow pr su := by
  obtain ⟨avs, hs, rfl⟩ := hs
  obtain ⟨c1, c2, rfl, h1, c3, c4, rfl, h2, c5, c6, rfl, h3, h4⟩ := hs
  have h4 : c6 = [] := h4
  subst h4
  obtain ⟨vo, ow, rfl, p1, q1, r1⟩ := sh_intsP h1
  obtain ⟨vp, pr, rfl, p2, q2, r2⟩ := sh_intsP h2
  obtain ⟨vs, su, rfl, p3, q3, r3⟩ := sh_rowsP h3
  refine ⟨ow, pr, su, ?_, ⟨r1, r2, fun r hr => (r3 r hr).2, q1, q2, q3, fun r hr => (r3 r hr).1⟩⟩
  have := RepL.cons p1 (.cons p2 (.cons p3 (.nil (wH h))))
  exact .agg this.len this.get
theorem arg_ints {k : IntKind} {v : AV} {h : H} (hs : ShV (.slice (.int k)) v h) : ∃ (xs : List Int), RepV (wH h) (slI false false k xs) v ∧ xs.length ≤ 9223372036854775807 ∧ ∀ x ∈ xs, k.min ≤ x ∧ x ≤ k.max := by
  obtain ⟨avs, hs, rfl⟩ := hs
  obtain ⟨v, xs, rfl, p, q, r⟩ := sh_intsP hs
  exact ⟨xs, p, q, r⟩
theorem arg_int {k : IntKind} {v : AV} {h : H} (hs : ShV (.int k) v h) : ∃ (x : Int), v = .int k x ∧ RepV (wH h) (.int k x) v ∧ k.min ≤ x ∧ x ≤ k.max := by
  obtain ⟨avs, hs, rfl⟩ := hs
  obtain ⟨x, rfl, p⟩ := hs
  exact ⟨x, rfl, .int k x, p⟩

theorem run_of_C {tab : FuncId → Option AF} {g : FuncId} {args : List AV} {h : H} (hc : C (lim tab) g args h fun v _ => v = .bool true) : ∃ n h', (run tab n).call g args h = some (.bool true, h') := by
  unfold C at hc
  obtain ⟨v, h', he, rfl⟩ := hc
  obtain ⟨n, hn⟩ := (lim_call_iff tab).1 he
  exact ⟨n, h', hn⟩
theorem shVs2 {A B : Ty} {args : List AV} {h : H} (hs : ShVs [A, B] args h) : ∃ a b, args = [a, b] ∧ ShV A a h ∧ ShV B b h := by
  match args, hs with
  | [a, b], ⟨h1, h2, _⟩ => exact ⟨a, b, rfl, h1, h2⟩
theorem shVs3 {A B D : Ty} {args : List AV} {h : H} (hs : ShVs [A, B, D] args h) : ∃ a b d, args = [a, b, d] ∧ ShV A a h ∧ ShV B b h ∧ ShV D d h := by
  match args, hs with
  | [a, b, d], ⟨h1, h2, h3, _⟩ => exact ⟨a, b, d, rfl, h1, h2, h3⟩
theorem shVs4 {A B D E : Ty} {args : List AV} {h : H} (hs : ShVs [A, B, D, E] args h) : ∃ a b d e, args = [a, b, d, e] ∧ ShV A a h ∧ ShV B b h ∧ ShV D d h ∧ ShV E e h := by
  match args, hs with
  | [a, b, d, e], ⟨h1, h2, h3, h4, _⟩ => exact ⟨a, b, d, e, rfl, h1, h2, h3, h4⟩
theorem shVs5 {A B D E F : Ty} {args : List AV} {h : H} (hs : ShVs [A, B, D, E, F] args h) : ∃ a b d e f, args = [a, b, d, e, f] ∧ ShV A a h ∧ ShV B b h ∧ ShV D d h ∧ ShV E e h ∧ ShV F f h := by
  match args, hs with
  | [a, b, d, e, f], ⟨h1, h2, h3, h4, h5, _⟩ => exact ⟨a, b, d, e, f, rfl, h1, h2, h3, h4, h5⟩
end Go.Am.Ar

set_option linter.unusedVariables false
namespace Go.Am.Ar
theorem attractors_all {tab : FuncId → Option AF} (T : HasA tab) (args : List AV) (h : H) (hs : ShVs [gameTy, .int .u8, .slice (.int .i64)] args h) :
    ∃ n h', (run tab n).call 7 args h = some (.bool true, h') := by
  obtain ⟨a, b, c, rfl, ha, hb, hc⟩ := shVs3 hs
  obtain ⟨ow, pr, su, r1, N⟩ := arg_game ha
  obtain ⟨side, rfl, r2, s0, s1⟩ := arg_int hb
  obtain ⟨keep, r3, _, _⟩ := arg_ints hc
  exact run_of_C (law_of_sem (.cons r1 (.cons r2 (.cons r3 (.nil _)))) (attractors_p T s0 (fun x hx => (N.o x hx).1)))
end Go.Am.Ar
