/- The law of the chapter's examples. -/
import Derived.Test.YtfapjojfiaiidaaSimulateExamplesG4
import Derived.Test.YtfapjojfiaiidaaSimulateExamplesG1
set_option linter.unusedVariables false
set_option linter.unusedSimpArgs false
set_option maxRecDepth 10000
namespace Go.Am.Ar
open Go.Am renaming pchk → P1, pold → P2, PKNo → P3, ppack → P4, PObj.under → P5, pput → P6, ptset → P7, ptget → P8, pev → P9, ofAV → P10, ofAV1 → P11, ppad → P12, pfill → P13, prepl → P14, AO.effect → P15
open List renaming replicate → L1
open Nat renaming reduceAdd → N1, reduceSub → N2, reduceMul → N3, reduceLT → N4, reduceLeDiff → N5, reduceEqDiff → N6, reduceBEq → N7
open Int renaming reduceToNat → I1, reduceLT → I2, reduceLE → I3, reduceEq → I4, reduceAdd → I5, reduceSub → I6, reduceNeg → I7
inductive WkL : List PV → List PV → Prop
  | nil : WkL [] []
  | cons {x y : PV} {a b : List PV} : PvWk x y → WkL a b → WkL (x :: a) (y :: b)
theorem WkL.get {a b : List PV} (h : WkL a b) : a.length = b.length ∧ ∀ (i : Nat) (y z : PV), a[i]? = some y → b[i]? = some z → PvWk y z := by
  induction h with
  | nil => exact ⟨rfl, fun i y z h => by simp at h⟩
  | cons h1 _ ih =>
    refine ⟨by simp [ih.1], fun i y z p q => ?_⟩
    cases i with
    | zero => simp at p q; subst p; subst q; exact h1
    | succ i => exact ih.2 i y z (by simpa using p) (by simpa using q)
theorem WkL.refl : ∀ a : List PV, WkL a a
  | [] => .nil
  | x :: a => .cons (PvWk.refl x) (WkL.refl a)
theorem SemC_wkA {tab : FuncId → Option AF} {g : FuncId} {args args2 : List PV} {M : Mem} {K : PV → Mem → Prop} (h : WkL args args2) (hc : SemC tab g args2 M K) : SemC tab g args M K :=
  fun w hh args' h0 s ha => hc w hh args' h0 s ⟨by rw [← h.get.1]; exact ha.len, fun i y z p q => by
    have hi := getSome_lt p
    obtain ⟨v, hv⟩ : ∃ v, args[i]? = some v := ⟨_, List.getElem?_eq_getElem (by rw [h.get.1]; exact hi)⟩
    exact h.get.2 i v y hv p w z (ha.get i v z hv q)⟩
theorem wk_nf (v n : Int) : PvWk (.agg [p64 v, p64 n, .nils, .nils, .nils]) (.agg (nfC true true true true true true ⟨v, n, [], [], []⟩)) := by
  have := (WkL.cons (PvWk.refl (p64 v)) (.cons (PvWk.refl (p64 n)) (.cons (PvWk.nils true true 1) (.cons (PvWk.nils true true 1) (.cons (PvWk.nils true true 4) .nil))))).get
  exact PvWk.agg this.1 this.2
theorem wk_els {f o : Bool} {sz n : Nat} {cs cs' : List PV} (h : WkL cs cs') : PvWk (.sl f o sz n cs) (.sl f o sz n cs') := by
  intro w x hx
  obtain ⟨hl, hg⟩ := h.get
  cases hx with
  | slN =>
    have : cs' = [] := List.length_eq_zero_iff.1 (by rw [← hl]; rfl)
    subst this
    exact .slN
  | sl h1 h2 h3 h4 h5 h7 h6 =>
    refine .sl h1 (by rw [← hl]; exact h2) (by rw [← hl]; exact h3) h4 h5 h7 fun i y z p q => ?_
    have hi := getSome_lt p
    obtain ⟨v, hv⟩ : ∃ v, cs[i]? = some v := ⟨_, List.getElem?_eq_getElem (by rw [hl]; exact hi)⟩
    exact hg i v y hv p w z (h6 i v z hv q)
section
variable {tab : FuncId → Option AF} (T : HasA tab)
include T
theorem three_p {M : Mem} {K : PV → Mem → Prop} {pos : Int} (hk : K (.agg (nfC true true true true true true (thrN pos))) M) : SemC tab 35 [p8 pos] M K := by
  refine SemC_wk ?_
  refine SemC_pure T.h35 (by simp only [PP, P1, P2, P3, P4, P5, P6, P7, P8, P9, P10, P11, P12, P13, P14, L1, P15, N1, N2, N3, N4, N5, N6, N7, I1, I2, I3, I4, I5, I6, I7, reduceIte, reduceCtorEq]) ?_
  simp only [af35, PP, P1, P2, P3, P4, P5, P6, P7, P8, P9, P10, P11, P12, P13, P14, L1, P15, N1, N2, N3, N4, N5, N6, N7, I1, I2, I3, I4, I5, I6, I7, reduceIte, reduceCtorEq]
  refine ⟨_, ?_, hk⟩
  have := (WkL.cons (PvWk.refl (p64 1)) (.cons (PvWk.refl (p64 3)) (.cons (PvWk.nils true true 1) (WkL.refl [slI true true .i64 [2], slE true true [⟨0, 2, pos, 0⟩, ⟨1, 2, 0, 0⟩]])))).get
  exact PvWk.agg this.1 this.2
set_option maxHeartbeats 4000000 in
theorem sexamples_p : SemC tab 9 [] [] fun r _ => r = .bool true := by
  have B1 := (thr_bn 1 0 (by decide)).1
  have S10 := (thr_bn 1 0 (by decide)).2
  have S01 := (thr_bn 0 1 (by decide)).2
  refine SemC_fn T.h9 ?_
  simp only [af9, PP, P1, P2, P3, P4, P5, P6, P7, P8, P9, P10, P11, P12, P13, P14, L1, P15, N1, N2, N3, N4, N5, N6, N7, I1, I2, I3, I4, I5, I6, I7, reduceIte, reduceCtorEq]
  refine SemC_true T.awake ?_
  simp only [PP, P1, P2, P3, P4, P5, P6, P7, P8, P9, P10, P11, P12, P13, P14, L1, P15, N1, N2, N3, N4, N5, N6, N7, I1, I2, I3, I4, I5, I6, I7, reduceIte, reduceCtorEq]
  refine SemC_wkA (.cons (wk_nf 7 0) .nil) (relationZ_p T (N := badN) bad_bn fun rs e h => ?_)
  obtain rfl : e = 7 := by
    rcases h with ⟨_, _, h⟩ | ⟨h, _⟩
    · rw [h]; exact bad_ck
    · rw [bad_ck] at h; cases h
  simp only [PP, P1, P2, P3, P4, P5, P6, P7, P8, P9, P10, P11, P12, P13, P14, L1, P15, N1, N2, N3, N4, N5, N6, N7, I1, I2, I3, I4, I5, I6, I7, reduceIte, reduceCtorEq]
  refine SemC_wkA (.cons (wk_nf 7 0) (.cons (wk_els (.cons (PvWk.nils true true 1) .nil)) .nil)) (is_p T (N := badN) (rs := [[]]) (f4 := true) (o4 := true) (f5 := true) (o5 := true) bad_bn (by decide) fun b e h => ?_)
  obtain rfl : e = 7 := by
    rcases h with ⟨_, _, h⟩ | ⟨h, _⟩ | ⟨h, _⟩
    · rw [h]; exact bad_ck
    · rw [bad_ck] at h; cases h
    · rw [bad_ck] at h; cases h
  simp only [PP, P1, P2, P3, P4, P5, P6, P7, P8, P9, P10, P11, P12, P13, P14, L1, P15, N1, N2, N3, N4, N5, N6, N7, I1, I2, I3, I4, I5, I6, I7, reduceIte, reduceCtorEq]
  refine three_p T ?_
  simp only [PP, P1, P2, P3, P4, P5, P6, P7, P8, P9, P10, P11, P12, P13, P14, L1, P15, N1, N2, N3, N4, N5, N6, N7, I1, I2, I3, I4, I5, I6, I7, reduceIte, reduceCtorEq]
  refine is_p T (N := thrN 1) (rs := [[true]]) (f4 := true) (o4 := true) (f5 := true) (o5 := true) B1 (by decide) fun b e h => ?_
  obtain rfl := is_short h
  simp only [PP, P1, P2, P3, P4, P5, P6, P7, P8, P9, P10, P11, P12, P13, P14, L1, P15, N1, N2, N3, N4, N5, N6, N7, I1, I2, I3, I4, I5, I6, I7, reduceIte, reduceCtorEq]
  refine three_p T ?_
  simp only [PP, P1, P2, P3, P4, P5, P6, P7, P8, P9, P10, P11, P12, P13, P14, L1, P15, N1, N2, N3, N4, N5, N6, N7, I1, I2, I3, I4, I5, I6, I7, reduceIte, reduceCtorEq]
  refine is_p T (N := thrN 1) (rs := [[true, true, true], [true, true, true], [true, true]]) (f4 := true) (o4 := true) (f5 := true) (o5 := true) B1 (by decide) fun b e h => ?_
  obtain rfl := is_rag h
  simp only [PP, P1, P2, P3, P4, P5, P6, P7, P8, P9, P10, P11, P12, P13, P14, L1, P15, N1, N2, N3, N4, N5, N6, N7, I1, I2, I3, I4, I5, I6, I7, reduceIte, reduceCtorEq]
  refine three_p T ?_
  simp only [PP, P1, P2, P3, P4, P5, P6, P7, P8, P9, P10, P11, P12, P13, P14, L1, P15, N1, N2, N3, N4, N5, N6, N7, I1, I2, I3, I4, I5, I6, I7, reduceIte, reduceCtorEq]
  refine is_p T (N := thrN 1) (rs := [[false, false, false], [false, false, false], [false, false, false]]) (f4 := true) (o4 := true) (f5 := true) (o5 := true) B1 (by decide) fun b e h => ?_
  obtain ⟨rfl, rfl⟩ := is_none h
  simp only [PP, P1, P2, P3, P4, P5, P6, P7, P8, P9, P10, P11, P12, P13, P14, L1, P15, N1, N2, N3, N4, N5, N6, N7, I1, I2, I3, I4, I5, I6, I7, reduceIte, reduceCtorEq]
  refine three_p T ?_
  simp only [PP, P1, P2, P3, P4, P5, P6, P7, P8, P9, P10, P11, P12, P13, P14, L1, P15, N1, N2, N3, N4, N5, N6, N7, I1, I2, I3, I4, I5, I6, I7, reduceIte, reduceCtorEq]
  refine is_p T (N := thrN 1) (rs := [[true, true, true], [true, true, true], [true, true, true]]) (f4 := true) (o4 := true) (f5 := true) (o5 := true) B1 (by decide) fun b e h => ?_
  obtain ⟨rfl, rfl⟩ := is_all h
  simp only [PP, P1, P2, P3, P4, P5, P6, P7, P8, P9, P10, P11, P12, P13, P14, L1, P15, N1, N2, N3, N4, N5, N6, N7, I1, I2, I3, I4, I5, I6, I7, reduceIte, reduceCtorEq]
  refine SemC_wkA (.cons (wk_nf 7 0) .nil) (classesZ_p T (N := badN) bad_bn fun l e h => ?_)
  obtain rfl : e = 7 := by
    rcases h with ⟨_, _, h⟩ | ⟨h, _⟩
    · rw [h]; exact bad_ck
    · rw [bad_ck] at h; cases h
  simp only [PP, P1, P2, P3, P4, P5, P6, P7, P8, P9, P10, P11, P12, P13, P14, L1, P15, N1, N2, N3, N4, N5, N6, N7, I1, I2, I3, I4, I5, I6, I7, reduceIte, reduceCtorEq]
  refine SemC_wkA (.cons (wk_nf 7 0) .nil) (quotientZ_p T (N := badN) bad_bn (fun h => by rw [bad_ck] at h; cases h) fun Q e h => ?_)
  obtain rfl : e = 7 := by
    rcases h with ⟨_, _, h⟩ | ⟨h, _⟩
    · rw [h]; exact bad_ck
    · rw [bad_ck] at h; cases h
  simp only [PP, P1, P2, P3, P4, P5, P6, P7, P8, P9, P10, P11, P12, P13, P14, L1, P15, N1, N2, N3, N4, N5, N6, N7, I1, I2, I3, I4, I5, I6, I7, reduceIte, reduceCtorEq]
  refine three_p T ?_
  simp only [PP, P1, P2, P3, P4, P5, P6, P7, P8, P9, P10, P11, P12, P13, P14, L1, P15, N1, N2, N3, N4, N5, N6, N7, I1, I2, I3, I4, I5, I6, I7, reduceIte, reduceCtorEq]
  refine SemC_wkA (.cons (wk_nf 7 0) (.cons (PvWk.refl _) .nil)) (between_p T (A := badN) (B := thrN 1) bad_bn B1 fun b e h => ?_)
  obtain rfl : e = 7 := btw_err h (by decide) (by decide)
  simp only [PP, P1, P2, P3, P4, P5, P6, P7, P8, P9, P10, P11, P12, P13, P14, L1, P15, N1, N2, N3, N4, N5, N6, N7, I1, I2, I3, I4, I5, I6, I7, reduceIte, reduceCtorEq]
  refine three_p T ?_
  simp only [PP, P1, P2, P3, P4, P5, P6, P7, P8, P9, P10, P11, P12, P13, P14, L1, P15, N1, N2, N3, N4, N5, N6, N7, I1, I2, I3, I4, I5, I6, I7, reduceIte, reduceCtorEq]
  refine SemC_wkA (.cons (PvWk.refl _) (.cons (wk_nf 0 0) .nil)) (between_p T (A := thrN 1) (B := ⟨0, 0, [], [], []⟩) B1 zero_bn fun b e h => ?_)
  obtain rfl : e = 7 := btw_err h (by decide) (by decide)
  simp only [PP, P1, P2, P3, P4, P5, P6, P7, P8, P9, P10, P11, P12, P13, P14, L1, P15, N1, N2, N3, N4, N5, N6, N7, I1, I2, I3, I4, I5, I6, I7, reduceIte, reduceCtorEq]
  refine SemC_wkA (.cons (wk_nf 0 40) (.cons (wk_nf 0 25) .nil)) (between_p T (A := ⟨0, 40, [], [], []⟩) (B := ⟨0, 25, [], [], []⟩) (bn_small (by decide) (by decide) (by decide) (fun x hx => nomatch hx)) (bn_small (by decide) (by decide) (by decide) (fun x hx => nomatch hx)) fun b e h => ?_)
  obtain rfl : e = 4 := btw_err h (by decide) (by decide)
  simp only [PP, P1, P2, P3, P4, P5, P6, P7, P8, P9, P10, P11, P12, P13, P14, L1, P15, N1, N2, N3, N4, N5, N6, N7, I1, I2, I3, I4, I5, I6, I7, reduceIte, reduceCtorEq]
  refine three_p T ?_
  simp only [PP, P1, P2, P3, P4, P5, P6, P7, P8, P9, P10, P11, P12, P13, P14, L1, P15, N1, N2, N3, N4, N5, N6, N7, I1, I2, I3, I4, I5, I6, I7, reduceIte, reduceCtorEq]
  refine three_p T ?_
  simp only [PP, P1, P2, P3, P4, P5, P6, P7, P8, P9, P10, P11, P12, P13, P14, L1, P15, N1, N2, N3, N4, N5, N6, N7, I1, I2, I3, I4, I5, I6, I7, reduceIte, reduceCtorEq]
  refine SemC_wkA (.cons (PvWk.refl _) (.cons (PvWk.refl _) .nil)) (between_p T (A := thrN 1) (B := thrN 1) B1 B1 fun b e h => ?_)
  obtain ⟨rfl, rfl⟩ := btw_empty h
  simp only [PP, P1, P2, P3, P4, P5, P6, P7, P8, P9, P10, P11, P12, P13, P14, L1, P15, N1, N2, N3, N4, N5, N6, N7, I1, I2, I3, I4, I5, I6, I7, reduceIte, reduceCtorEq]
  refine three_p T ?_
  simp only [PP, P1, P2, P3, P4, P5, P6, P7, P8, P9, P10, P11, P12, P13, P14, L1, P15, N1, N2, N3, N4, N5, N6, N7, I1, I2, I3, I4, I5, I6, I7, reduceIte, reduceCtorEq]
  refine three_p T ?_
  simp only [PP, P1, P2, P3, P4, P5, P6, P7, P8, P9, P10, P11, P12, P13, P14, L1, P15, N1, N2, N3, N4, N5, N6, N7, I1, I2, I3, I4, I5, I6, I7, reduceIte, reduceCtorEq]
  refine between_p T (A := thrS 1 0) (B := thrS 0 1) (f1 := true) (o1 := true) (g1 := true) (p1 := true) S10 S01 fun b e h => ?_
  obtain ⟨rfl, rfl⟩ := btw_upX h
  simp only [PP, P1, P2, P3, P4, P5, P6, P7, P8, P9, P10, P11, P12, P13, P14, L1, P15, N1, N2, N3, N4, N5, N6, N7, I1, I2, I3, I4, I5, I6, I7, reduceIte, reduceCtorEq]
  refine between_p T (A := thrS 0 1) (B := thrS 1 0) (f1 := true) (o1 := true) (g1 := true) (p1 := true) S01 S10 fun b e h => ?_
  obtain ⟨rfl, rfl⟩ := btw_downX h
  simp only [PP, P1, P2, P3, P4, P5, P6, P7, P8, P9, P10, P11, P12, P13, P14, L1, P15, N1, N2, N3, N4, N5, N6, N7, I1, I2, I3, I4, I5, I6, I7, reduceIte, reduceCtorEq]
  refine SemC_wkA (.cons (wk_nf 0 0) .nil) (relationZ_p T (N := ⟨0, 0, [], [], []⟩) zero_bn fun rs e h => ?_)
  obtain ⟨rfl, rfl⟩ : rs = [] ∧ e = 0 := by
    rcases h with ⟨h, _⟩ | ⟨_, R, h⟩
    · exact absurd (by decide) h
    · exact ⟨List.length_eq_zero_iff.1 (by have : (rs.length : Int) = 0 := R.d.1; omega), h⟩
  simp only [PP, P1, P2, P3, P4, P5, P6, P7, P8, P9, P10, P11, P12, P13, P14, L1, P15, N1, N2, N3, N4, N5, N6, N7, I1, I2, I3, I4, I5, I6, I7, reduceIte, reduceCtorEq]
theorem sexamples_all (args : List AV) (h : H) (hs : ShVs [] args h) :
    ∃ n h', (run tab n).call 9 args h = some (.bool true, h') := by
  cases args with
  | nil => exact run_of_C (law_of_sem (.nil _) (sexamples_p T))
  | cons a l => exact hs.elim
end
end Go.Am.Ar

