/- Arguments of the laws of chapter 32, and the law of the order. -/
import Derived.Test.YtgapkfaikhlipaaImproveOrderG1
import Derived.Test.YtgapkfaikhlipaaImproveOrderG0
set_option linter.unusedVariables false
set_option linter.unusedSimpArgs false
set_option maxRecDepth 10000
namespace Go.Am.Ar
open Go.Am renaming pchk → P1, pold → P2, PKNo → P3, ppack → P4, PObj.under → P5, pput → P6, ptset → P7, ptget → P8, pev → P9, ofAV → P10, ofAV1 → P11, ppad → P12, pfill → P13, prepl → P14, AO.effect → P15
open List renaming replicate → L1
open Nat renaming reduceAdd → N1, reduceSub → N2, reduceMul → N3, reduceLT → N4, reduceLeDiff → N5, reduceEqDiff → N6, reduceBEq → N7
open Int renaming reduceToNat → I1, reduceLT → I2, reduceLE → I3, reduceEq → I4, reduceAdd → I5, reduceSub → I6, reduceNeg → I7
abbrev valTy : Ty := .pair (.int .i64) (.pair (.slice (.int .i64)) (.pair (.int .i64) .unit))
theorem arg_val {v : AV} {h : H} (hs : ShV valTy v h) : ∃ x : Vl, RepV (wH h) (.agg (vlL false false x)) v ∧ (-9223372036854775808 ≤ x.st ∧ x.st ≤ 9223372036854775807) := by
  obtain ⟨avs, hs, rfl⟩ := hs
  obtain ⟨c1, c2, rfl, h1, c3, c4, rfl, h2, c5, c6, rfl, h3, h4⟩ := hs
  have h4 : c6 = [] := h4
  subst h4
  obtain ⟨vc, rfl, q1⟩ := h1
  obtain ⟨vo, se, rfl, p2, q2, r2⟩ := sh_intsP h2
  obtain ⟨vs, rfl, q3⟩ := h3
  refine ⟨⟨vc, se, vs⟩, ?_, q3⟩
  have := RepL.cons (w := wH h) (RepV.int .i64 vc) (.cons p2 (.cons (RepV.int .i64 vs) (.nil (wH h))))
  exact .agg this.len this.get
theorem ord_facts {ow pr : List Int} {su : List (List Int)} {a b c : Vl} (V : Valid ow pr su) (ha : vlE ow.length a = 0) (hb : vlE ow.length b = 0) (hc : vlE ow.length c = 0) (la : a.se.length < big) (lb : b.se.length < big) (lc : c.se.length < big) :
    ordI pr a a = 0 ∧ (ordI pr a b = -1 ∨ ordI pr a b = 0 ∨ ordI pr a b = 1) ∧ ordI pr a b = - ordI pr b a ∧ (ordI pr a b = 0 ↔ a = b) ∧ (ordI pr a b = ordI pr b c → ordI pr a c = ordI pr a b) := by
  obtain ⟨_, ra, _⟩ := vlE_in ha la
  obtain ⟨_, rb, _⟩ := vlE_in hb lb
  obtain ⟨_, rc, _⟩ := vlE_in hc lc
  have hp := fun v => (V.prI v).1
  have na : Nn a.se := fun v hv => by have := ra.lt hv; omega
  have nb : Nn b.se := fun v hv => by have := rb.lt hv; omega
  have nc : Nn c.se := fun v hv => by have := rc.lt hv; omega
  have O := ord3_ord hp
  exact ⟨O.self ⟨a, na⟩, O.rng ⟨a, na⟩ ⟨b, nb⟩, by have := O.anti ⟨b, nb⟩ ⟨a, na⟩; exact this, ordI_zero hp ra rb, fun h => O.same (a := ⟨a, na⟩) (b := ⟨b, nb⟩) (c := ⟨c, nc⟩) h⟩
section
variable {tab : FuncId → Option AF} (T : HasA tab)
include T
theorem long32_p {M : Mem} {K : PV → Mem → Prop} {F : GF} {f5 o5 f6 o6 : Bool} {ow pr : List Int} {su ls : List (List Int)} (hl : ls.length < big) (hk : ∀ b : Bool, (b = false → longM ow pr su ls = false ∧ ow.length ≤ 14) → K (.bool b) M) :
    SemC tab 10 [.agg (gmF F ow pr su), slR f5 o5 f6 o6 .i64 ls] M K := by
  refine SemC_pure T.h10 (by simp only [PP, P1, P2, P3, P4, P5, P6, P7, P8, P9, P10, P11, P12, P13, P14, L1, P15, N1, N2, N3, N4, N5, N6, N7, I1, I2, I3, I4, I5, I6, I7, reduceIte, reduceCtorEq]) ?_
  simp only [af10, PP, P1, P2, P3, P4, P5, P6, P7, P8, P9, P10, P11, P12, P13, P14, L1, P15, N1, N2, N3, N4, N5, N6, N7, I1, I2, I3, I4, I5, I6, I7, reduceIte, reduceCtorEq]
  refine long_p T hl ?_
  simp only [PP, P1, P2, P3, P4, P5, P6, P7, P8, P9, P10, P11, P12, P13, P14, L1, P15, N1, N2, N3, N4, N5, N6, N7, I1, I2, I3, I4, I5, I6, I7, reduceIte, reduceCtorEq]
  cases h : longM ow pr su ls with
  | true =>
    simp only [PP, P1, P2, P3, P4, P5, P6, P7, P8, P9, P10, P11, P12, P13, P14, L1, P15, N1, N2, N3, N4, N5, N6, N7, I1, I2, I3, I4, I5, I6, I7, reduceIte, reduceCtorEq]
    exact hk true fun h => by cases h
  | false =>
    simp only [PP, P1, P2, P3, P4, P5, P6, P7, P8, P9, P10, P11, P12, P13, P14, L1, P15, N1, N2, N3, N4, N5, N6, N7, I1, I2, I3, I4, I5, I6, I7, reduceIte, reduceCtorEq]
    by_cases c : (14 : Int) < ow.length
    · rw [decide_eq_true c]
      exact hk true fun h => by cases h
    · rw [decide_eq_false c]
      exact hk false fun _ => ⟨h, by omega⟩
theorem copied_p {M : Mem} {K : PV → Mem → Prop} {f o : Bool} {x : Vl} (hm : x.se.length < big) (hk : K (.agg (vlL false true x)) M) :
    SemC tab 25 [.agg (vlL f o x)] M K := by
  refine SemC_pure T.h25 (by simp only [PP, P1, P2, P3, P4, P5, P6, P7, P8, P9, P10, P11, P12, P13, P14, L1, P15, N1, N2, N3, N4, N5, N6, N7, I1, I2, I3, I4, I5, I6, I7, reduceIte, reduceCtorEq]) ?_
  simp only [af25, PP, P1, P2, P3, P4, P5, P6, P7, P8, P9, P10, P11, P12, P13, P14, L1, P15, N1, N2, N3, N4, N5, N6, N7, I1, I2, I3, I4, I5, I6, I7, reduceIte, reduceCtorEq]
  refine copyInts_p T hm ?_
  simp only [PP, P1, P2, P3, P4, P5, P6, P7, P8, P9, P10, P11, P12, P13, P14, L1, P15, N1, N2, N3, N4, N5, N6, N7, I1, I2, I3, I4, I5, I6, I7, reduceIte, reduceCtorEq]
  exact hk
set_option maxHeartbeats 2000000 in
theorem iorder_p {F : GF} {ow pr : List Int} {su : List (List Int)} {a b c : Vl} :
    SemC tab 6 [.agg (gmF F ow pr su), .agg (vlL false false a), .agg (vlL false false b), .agg (vlL false false c)] [] fun r _ => r = .bool true := by
  refine SemC_fn T.h6 ?_
  simp only [af6, PP, P1, P2, P3, P4, P5, P6, P7, P8, P9, P10, P11, P12, P13, P14, L1, P15, N1, N2, N3, N4, N5, N6, N7, I1, I2, I3, I4, I5, I6, I7, reduceIte, reduceCtorEq]
  refine long32_p T (ls := [a.se, b.se, c.se]) (f5 := true) (o5 := true) (f6 := false) (o6 := false) (by show 3 < 1000000000000; omega) (fun r hr => ?_)
  cases r with
  | true =>
    simp only [PP, P1, P2, P3, P4, P5, P6, P7, P8, P9, P10, P11, P12, P13, P14, L1, P15, N1, N2, N3, N4, N5, N6, N7, I1, I2, I3, I4, I5, I6, I7, reduceIte, reduceCtorEq]
    refine SemC_true T.awake ?_
    simp only [PP, P1, P2, P3, P4, P5, P6, P7, P8, P9, P10, P11, P12, P13, P14, L1, P15, N1, N2, N3, N4, N5, N6, N7, I1, I2, I3, I4, I5, I6, I7, reduceIte, reduceCtorEq]
  | false =>
    obtain ⟨hl, h14⟩ := hr rfl
    have S := longM_false hl
    have B := S.bnd
    have la : a.se.length < big := by have := S.l a.se (by simp); show _ < 1000000000000; omega
    have lb : b.se.length < big := by have := S.l b.se (by simp); show _ < 1000000000000; omega
    have lc : c.se.length < big := by have := S.l c.se (by simp); show _ < 1000000000000; omega
    simp only [PP, P1, P2, P3, P4, P5, P6, P7, P8, P9, P10, P11, P12, P13, P14, L1, P15, N1, N2, N3, N4, N5, N6, N7, I1, I2, I3, I4, I5, I6, I7, reduceIte, reduceCtorEq]
    refine SemC_true T.awake ?_
    simp only [PP, P1, P2, P3, P4, P5, P6, P7, P8, P9, P10, P11, P12, P13, P14, L1, P15, N1, N2, N3, N4, N5, N6, N7, I1, I2, I3, I4, I5, I6, I7, reduceIte, reduceCtorEq]
    refine copied_p T la ?_
    simp only [PP, P1, P2, P3, P4, P5, P6, P7, P8, P9, P10, P11, P12, P13, P14, L1, P15, N1, N2, N3, N4, N5, N6, N7, I1, I2, I3, I4, I5, I6, I7, reduceIte, reduceCtorEq]
    refine copied_p T lb ?_
    simp only [PP, P1, P2, P3, P4, P5, P6, P7, P8, P9, P10, P11, P12, P13, P14, L1, P15, N1, N2, N3, N4, N5, N6, N7, I1, I2, I3, I4, I5, I6, I7, reduceIte, reduceCtorEq]
    refine vcompare_p T B la lb ?_
    simp only [PP, P1, P2, P3, P4, P5, P6, P7, P8, P9, P10, P11, P12, P13, P14, L1, P15, N1, N2, N3, N4, N5, N6, N7, I1, I2, I3, I4, I5, I6, I7, reduceIte, reduceCtorEq]
    refine copied_p T lb ?_
    simp only [PP, P1, P2, P3, P4, P5, P6, P7, P8, P9, P10, P11, P12, P13, P14, L1, P15, N1, N2, N3, N4, N5, N6, N7, I1, I2, I3, I4, I5, I6, I7, reduceIte, reduceCtorEq]
    refine copied_p T la ?_
    simp only [PP, P1, P2, P3, P4, P5, P6, P7, P8, P9, P10, P11, P12, P13, P14, L1, P15, N1, N2, N3, N4, N5, N6, N7, I1, I2, I3, I4, I5, I6, I7, reduceIte, reduceCtorEq]
    refine vcompare_p T B lb la ?_
    simp only [PP, P1, P2, P3, P4, P5, P6, P7, P8, P9, P10, P11, P12, P13, P14, L1, P15, N1, N2, N3, N4, N5, N6, N7, I1, I2, I3, I4, I5, I6, I7, reduceIte, reduceCtorEq]
    refine copied_p T lb ?_
    simp only [PP, P1, P2, P3, P4, P5, P6, P7, P8, P9, P10, P11, P12, P13, P14, L1, P15, N1, N2, N3, N4, N5, N6, N7, I1, I2, I3, I4, I5, I6, I7, reduceIte, reduceCtorEq]
    refine copied_p T lc ?_
    simp only [PP, P1, P2, P3, P4, P5, P6, P7, P8, P9, P10, P11, P12, P13, P14, L1, P15, N1, N2, N3, N4, N5, N6, N7, I1, I2, I3, I4, I5, I6, I7, reduceIte, reduceCtorEq]
    refine vcompare_p T B lb lc ?_
    simp only [PP, P1, P2, P3, P4, P5, P6, P7, P8, P9, P10, P11, P12, P13, P14, L1, P15, N1, N2, N3, N4, N5, N6, N7, I1, I2, I3, I4, I5, I6, I7, reduceIte, reduceCtorEq]
    refine copied_p T la ?_
    simp only [PP, P1, P2, P3, P4, P5, P6, P7, P8, P9, P10, P11, P12, P13, P14, L1, P15, N1, N2, N3, N4, N5, N6, N7, I1, I2, I3, I4, I5, I6, I7, reduceIte, reduceCtorEq]
    refine copied_p T lc ?_
    simp only [PP, P1, P2, P3, P4, P5, P6, P7, P8, P9, P10, P11, P12, P13, P14, L1, P15, N1, N2, N3, N4, N5, N6, N7, I1, I2, I3, I4, I5, I6, I7, reduceIte, reduceCtorEq]
    refine vcompare_p T B la lc ?_
    simp only [PP, P1, P2, P3, P4, P5, P6, P7, P8, P9, P10, P11, P12, P13, P14, L1, P15, N1, N2, N3, N4, N5, N6, N7, I1, I2, I3, I4, I5, I6, I7, reduceIte, reduceCtorEq]
    refine copied_p T la ?_
    simp only [PP, P1, P2, P3, P4, P5, P6, P7, P8, P9, P10, P11, P12, P13, P14, L1, P15, N1, N2, N3, N4, N5, N6, N7, I1, I2, I3, I4, I5, I6, I7, reduceIte, reduceCtorEq]
    refine copied_p T la ?_
    simp only [PP, P1, P2, P3, P4, P5, P6, P7, P8, P9, P10, P11, P12, P13, P14, L1, P15, N1, N2, N3, N4, N5, N6, N7, I1, I2, I3, I4, I5, I6, I7, reduceIte, reduceCtorEq]
    refine vcompare_p T B la la ?_
    simp only [PP, P1, P2, P3, P4, P5, P6, P7, P8, P9, P10, P11, P12, P13, P14, L1, P15, N1, N2, N3, N4, N5, N6, N7, I1, I2, I3, I4, I5, I6, I7, reduceIte, reduceCtorEq]
    by_cases c1 : checkM ow pr su = 0
    rotate_left
    · have e : ∀ x y, cmpE ow pr su x y = checkM ow pr su := fun x y => by unfold cmpE; rw [if_neg c1]
      simp only [PP, P1, P2, P3, P4, P5, P6, P7, P8, P9, P10, P11, P12, P13, P14, L1, P15, N1, N2, N3, N4, N5, N6, N7, I1, I2, I3, I4, I5, I6, I7, reduceIte, reduceCtorEq, e, c1]
    by_cases c2 : vlE ow.length a = 0
    rotate_left
    · have e : cmpE ow pr su a b ≠ 0 := by unfold cmpE; rw [if_pos c1, if_neg c2]; exact c2
      simp only [PP, P1, P2, P3, P4, P5, P6, P7, P8, P9, P10, P11, P12, P13, P14, L1, P15, N1, N2, N3, N4, N5, N6, N7, I1, I2, I3, I4, I5, I6, I7, reduceIte, reduceCtorEq, e]
    by_cases c3 : vlE ow.length b = 0
    rotate_left
    · have e : cmpE ow pr su a b ≠ 0 := by unfold cmpE; rw [if_pos c1, if_pos c2]; exact c3
      simp only [PP, P1, P2, P3, P4, P5, P6, P7, P8, P9, P10, P11, P12, P13, P14, L1, P15, N1, N2, N3, N4, N5, N6, N7, I1, I2, I3, I4, I5, I6, I7, reduceIte, reduceCtorEq, e]
    have eab : cmpE ow pr su a b = 0 := by unfold cmpE; rw [if_pos c1, if_pos c2, c3]
    have eba : cmpE ow pr su b a = 0 := by unfold cmpE; rw [if_pos c1, if_pos c3, c2]
    have eaa : cmpE ow pr su a a = 0 := by unfold cmpE; rw [if_pos c1, if_pos c2, c2]
    by_cases c4 : vlE ow.length c = 0
    rotate_left
    · have e : cmpE ow pr su b c ≠ 0 := by unfold cmpE; rw [if_pos c1, if_pos c3]; exact c4
      simp only [PP, P1, P2, P3, P4, P5, P6, P7, P8, P9, P10, P11, P12, P13, P14, L1, P15, N1, N2, N3, N4, N5, N6, N7, I1, I2, I3, I4, I5, I6, I7, reduceIte, reduceCtorEq, eab, eba, e]
    have ebc : cmpE ow pr su b c = 0 := by unfold cmpE; rw [if_pos c1, if_pos c3, c4]
    have eac : cmpE ow pr su a c = 0 := by unfold cmpE; rw [if_pos c1, if_pos c2, c4]
    obtain ⟨f1, f2, f3, f4, f5⟩ := ord_facts (valid_of c1) c2 c3 c4 la lb lc
    have m : ∀ x y, cmpE ow pr su x y = 0 → cmpM ow pr su x y = ordI pr x y := fun x y h => if_pos h
    have hw : IntKind.i64.wrap (0 - ordI pr b a) = ordI pr a b := by
      rw [Int.zero_sub, ← f3]; rcases f2 with h | h | h <;> rw [h] <;> decide
    simp only [PP, P1, P2, P3, P4, P5, P6, P7, P8, P9, P10, P11, P12, P13, P14, L1, P15, N1, N2, N3, N4, N5, N6, N7, I1, I2, I3, I4, I5, I6, I7, reduceIte, reduceCtorEq, eab, eba, eaa, ebc, eac, m, f1, hw]
    have fin : decide (ordI pr a b = ordI pr b c) = true → decide (ordI pr a c = ordI pr a b) = true := fun h => decide_eq_true (f5 (of_decide_eq_true h))
    by_cases d1 : a.cy = b.cy
    · simp only [PP, P1, P2, P3, P4, P5, P6, P7, P8, P9, P10, P11, P12, P13, P14, L1, P15, N1, N2, N3, N4, N5, N6, N7, I1, I2, I3, I4, I5, I6, I7, reduceIte, reduceCtorEq, d1]
      by_cases d2 : a.st = b.st
      · simp only [PP, P1, P2, P3, P4, P5, P6, P7, P8, P9, P10, P11, P12, P13, P14, L1, P15, N1, N2, N3, N4, N5, N6, N7, I1, I2, I3, I4, I5, I6, I7, reduceIte, reduceCtorEq, d2]
        refine equalInts_p T la ?_
        have e : decide (ordI pr a b = 0) = decide (a.se = b.se) := by
          congr 1; refine propext (f4.trans ?_)
          cases a; cases b; simp_all
        simp only [PP, P1, P2, P3, P4, P5, P6, P7, P8, P9, P10, P11, P12, P13, P14, L1, P15, N1, N2, N3, N4, N5, N6, N7, I1, I2, I3, I4, I5, I6, I7, reduceIte, reduceCtorEq, hw, e]
        by_cases g : ordI pr a b = ordI pr b c
        · have g2 := f5 g
          simp only [PP, P1, P2, P3, P4, P5, P6, P7, P8, P9, P10, P11, P12, P13, P14, L1, P15, N1, N2, N3, N4, N5, N6, N7, I1, I2, I3, I4, I5, I6, I7, reduceIte, reduceCtorEq, hw, g, g2]
        · simp only [PP, P1, P2, P3, P4, P5, P6, P7, P8, P9, P10, P11, P12, P13, P14, L1, P15, N1, N2, N3, N4, N5, N6, N7, I1, I2, I3, I4, I5, I6, I7, reduceIte, reduceCtorEq, hw, g]
      · have e : ¬ ordI pr a b = 0 := fun h => d2 (by rw [f4.1 h])
        simp only [PP, P1, P2, P3, P4, P5, P6, P7, P8, P9, P10, P11, P12, P13, P14, L1, P15, N1, N2, N3, N4, N5, N6, N7, I1, I2, I3, I4, I5, I6, I7, reduceIte, reduceCtorEq, hw, d2, e]
        by_cases g : ordI pr a b = ordI pr b c
        · have g2 := f5 g
          simp only [PP, P1, P2, P3, P4, P5, P6, P7, P8, P9, P10, P11, P12, P13, P14, L1, P15, N1, N2, N3, N4, N5, N6, N7, I1, I2, I3, I4, I5, I6, I7, reduceIte, reduceCtorEq, hw, g, g2]
        · simp only [PP, P1, P2, P3, P4, P5, P6, P7, P8, P9, P10, P11, P12, P13, P14, L1, P15, N1, N2, N3, N4, N5, N6, N7, I1, I2, I3, I4, I5, I6, I7, reduceIte, reduceCtorEq, hw, g]
    · have e : ¬ ordI pr a b = 0 := fun h => d1 (by rw [f4.1 h])
      simp only [PP, P1, P2, P3, P4, P5, P6, P7, P8, P9, P10, P11, P12, P13, P14, L1, P15, N1, N2, N3, N4, N5, N6, N7, I1, I2, I3, I4, I5, I6, I7, reduceIte, reduceCtorEq, hw, d1, e]
      by_cases g : ordI pr a b = ordI pr b c
      · have g2 := f5 g
        simp only [PP, P1, P2, P3, P4, P5, P6, P7, P8, P9, P10, P11, P12, P13, P14, L1, P15, N1, N2, N3, N4, N5, N6, N7, I1, I2, I3, I4, I5, I6, I7, reduceIte, reduceCtorEq, hw, g, g2]
      · simp only [PP, P1, P2, P3, P4, P5, P6, P7, P8, P9, P10, P11, P12, P13, P14, L1, P15, N1, N2, N3, N4, N5, N6, N7, I1, I2, I3, I4, I5, I6, I7, reduceIte, reduceCtorEq, hw, g]
theorem iorder_all (args : List AV) (h : H) (hs : ShVs [gameTy, valTy, valTy, valTy] args h) :
    ∃ n h', (run tab n).call 6 args h = some (.bool true, h') := by
  obtain ⟨a, b, c, d, rfl, ha, hb, hc, hd⟩ := shVs4 hs
  obtain ⟨ow, pr, su, r1, N⟩ := arg_game ha
  obtain ⟨x, r2, _⟩ := arg_val hb
  obtain ⟨y, r3, _⟩ := arg_val hc
  obtain ⟨z, r4, _⟩ := arg_val hd
  exact run_of_C (law_of_sem (.cons r1 (.cons r2 (.cons r3 (.cons r4 (.nil _))))) (iorder_p T (F := ⟨false, false, false, false, false, false, false, false⟩)))
end
end Go.Am.Ar

