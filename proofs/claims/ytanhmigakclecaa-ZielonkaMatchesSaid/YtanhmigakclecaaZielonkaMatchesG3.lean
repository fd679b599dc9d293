/- Contracts: the moves that remain under a strategy, and a player's strategy (sentinelref30.Moves, own), and what goes with it. -/
import Derived.Test.YtanhmigakclecaaZielonkaMatchesG2
import Derived.Test.YtanhmigakclecaaZielonkaMatchesG0
import Derived.Test.YtanhmigakclecaaZielonkaMatchesG1
set_option linter.unusedVariables false
set_option linter.unusedSimpArgs false
set_option maxRecDepth 10000
namespace Go.Am.Ar
open Go.Am renaming pchk → P1, pold → P2, PKNo → P3, ppack → P4, PObj.under → P5, pput → P6, ptset → P7, ptget → P8, pev → P9, ofAV → P10, ofAV1 → P11, ppad → P12, pfill → P13, prepl → P14, AO.effect → P15
open List renaming replicate → L1
open Nat renaming reduceAdd → N1, reduceSub → N2, reduceMul → N3, reduceLT → N4, reduceLeDiff → N5, reduceEqDiff → N6, reduceBEq → N7
open Int renaming reduceToNat → I1, reduceLT → I2, reduceLE → I3, reduceEq → I4, reduceAdd → I5, reduceSub → I6, reduceNeg → I7
def RwWk : List PV → List (List Int) → Prop
  | [], [] => True
  | y :: cs, r :: rows => (∃ f o, y = slI f o .i64 r) ∧ RwWk cs rows
  | _, _ => False
theorem RwWk.app : ∀ {cs : List PV} {rows : List (List Int)}, RwWk cs rows → ∀ (f o : Bool) (r : List Int), RwWk (cs ++ [slI f o .i64 r]) (rows ++ [r])
  | [], [], _, f, o, r => ⟨⟨f, o, rfl⟩, trivial⟩
  | y :: cs, x :: rows, ⟨h1, h2⟩, f, o, r => ⟨h1, h2.app f o r⟩
  | [], _ :: _, h, _, _, _ => h.elim
  | _ :: _, [], h, _, _, _ => h.elim
theorem RwWk.len : ∀ {cs : List PV} {rows : List (List Int)}, RwWk cs rows → cs.length = rows.length
  | [], [], _ => rfl
  | y :: cs, x :: rows, ⟨h1, h2⟩ => by simp [h2.len]
  | [], _ :: _, h => h.elim
  | _ :: _, [], h => h.elim
theorem RwWk.one : ∀ {cs : List PV} {rows : List (List Int)}, RwWk cs rows → cs.all PV.one = true
  | [], [], _ => rfl
  | y :: cs, x :: rows, ⟨⟨f, o, e⟩, h2⟩ => by subst e; simp only [List.all_cons, one_sl, h2.one, Bool.and_self]
  | [], _ :: _, h => h.elim
  | _ :: _, [], h => h.elim
theorem RwWk.und (m : Nat) : ∀ {cs : List PV} {rows : List (List Int)}, RwWk cs rows → underL m cs = true
  | [], [], _ => underL_nil _
  | y :: cs, x :: rows, ⟨⟨f, o, e⟩, h2⟩ => by subst e; rw [underL_cons, h2.und m, under_slI]; rfl
  | [], _ :: _, h => h.elim
  | _ :: _, [], h => h.elim
theorem RwWk.get : ∀ {cs : List PV} {rows : List (List Int)}, RwWk cs rows → ∀ (i : Nat) (y z : PV), cs[i]? = some y → (rows.map (slI true false .i64))[i]? = some z → PvWk y z
  | y :: cs, x :: rows, ⟨⟨f, o, e⟩, h2⟩, 0, a, b, ha, hb => by
    cases ha; cases hb; subst e; exact PvWk.sl0 _ _ _ _ _
  | y :: cs, x :: rows, ⟨_, h2⟩, i + 1, a, b, ha, hb => h2.get i a b (by simpa using ha) (by simpa using hb)
  | [], [], _, i, a, b, ha, _ => by simp at ha
  | [], _ :: _, h, _, _, _, _, _ => h.elim
  | _ :: _, [], h, _, _, _, _, _ => h.elim
theorem PvWk.cells {f o : Bool} {sz n : Nat} {cs cs' : List PV} (hl : cs.length = cs'.length) (h : ∀ (i : Nat) (y z : PV), cs[i]? = some y → cs'[i]? = some z → PvWk y z) : PvWk (.sl f o sz n cs) (.sl f o sz n cs') := fun w x hx => by
  cases hx with
  | sl h1 h2 h3 h4 h5 h7 h6 =>
    refine .sl h1 (by rw [← hl]; exact h2) (by rw [← hl]; exact h3) h4 h5 h7 fun i y z hy hz => ?_
    have hi : i < cs.length := by rw [hl]; exact getSome_lt hy
    exact h i _ y (List.getElem?_eq_getElem hi) hy w z (h6 i _ z (List.getElem?_eq_getElem hi) hz)
  | slN =>
    have : cs' = [] := List.length_eq_zero_iff.1 (by rw [← hl]; rfl)
    subst this; exact .slN
def movF (ow : List Int) (su : List (List Int)) (p : Int) (st : List Int) (v : Nat) : List Int := if ow.getD v 0 = p ∧ st.getD v 0 ∈ su.getD v [] then [st.getD v 0] else su.getD v []
def ownF (ow ws ss : List Int) (p : Int) (v : Nat) : Int := if ow.getD v 0 = p ∧ ws.getD v 0 = p then ss.getD v 0 else -1
section
variable {tab : FuncId → Option AF} (T : HasA tab)
include T
theorem moves_p {M : Mem} {K : PV → Mem → Prop} {f1 o1 f2 o2 f3 o3 f4 o4 f5 o5 : Bool} {ow pr st : List Int} {su : List (List Int)} {p : Int} (B : Bnd ow pr su) (hs : su.length = ow.length) (ht : st.length = ow.length)
    (hk : K (slR false true true false .i64 (tabA ow.length (movF ow su p st))) M) :
    SemC tab 39 [gmP f1 o1 f2 o2 f3 o3 f4 o4 ow pr su, p8 p, slI f5 o5 .i64 st] M K := by
  refine SemC_wk ?_
  refine SemC_pure T.h39 (by simp only [PP, P1, P2, P3, P4, P5, P6, P7, P8, P9, P10, P11, P12, P13, P14, L1, P15, N1, N2, N3, N4, N5, N6, N7, I1, I2, I3, I4, I5, I6, I7, reduceIte, reduceCtorEq]) ?_
  simp only [af39, PP, P1, P2, P3, P4, P5, P6, P7, P8, P9, P10, P11, P12, P13, P14, L1, P15, N1, N2, N3, N4, N5, N6, N7, I1, I2, I3, I4, I5, I6, I7, reduceIte, reduceCtorEq]
  have hn : ow.length < 1000000000000 := B.o
  refine SemW_re (GStep.nil 7 1 rfl rfl rfl) ?_
  refine loop4 (fun (k g v : Nat) (cs : List PV) => k ≤ ow.length ∧ RwWk cs (tabA k (movF ow su p st)))
    (fun k g v cs => [.junk, p8 p, slI f5 o5 .i64 st, .ptr 0 0 0, .junk, .junk, .junk, .ref 1 g 1 0 k, p64 k, .junk, .junk, .junk, .junk, .junk, .junk, .junk, .junk, .junk, .junk, .junk, .junk, .junk, .junk, .junk, .junk, .junk, .junk, .junk, .junk, .junk, .junk, .junk, .junk, .junk, .junk, .junk, .junk, .junk, .junk, .junk, .junk, .junk, .junk, .junk, .junk, .junk, .junk, .junk, .junk, .junk, .junk, .junk])
    (fun k g v cs => [.cells 0 0 [slI f1 o1 .u8 ow, slI f2 o2 .i64 pr, slR f3 o3 f4 o4 .i64 su], .cells g v cs])
    (fun k _ _ _ => ow.length - k) 0 0 0 [] ⟨by omega, trivial⟩ (by simp only [PP, P1, P2, P3, P4, P5, P6, P7, P8, P9, P10, P11, P12, P13, P14, L1, P15, N1, N2, N3, N4, N5, N6, N7, I1, I2, I3, I4, I5, I6, I7, reduceIte, reduceCtorEq, PWeak_nil, PWeak_junk, PWeak_same, Int.cast_ofNat_Int]) (by simp only [PP, P1, P2, P3, P4, P5, P6, P7, P8, P9, P10, P11, P12, P13, P14, L1, P15, N1, N2, N3, N4, N5, N6, N7, I1, I2, I3, I4, I5, I6, I7, reduceIte, reduceCtorEq]) ?_
  intro k g v cs ⟨hle, hc⟩ ih
  have lc : cs.length = k := by rw [hc.len, tabA_len]
  refine SemW_go (by kernel_rfl) ?_
  simp only [PP, P1, P2, P3, P4, P5, P6, P7, P8, P9, P10, P11, P12, P13, P14, L1, P15, N1, N2, N3, N4, N5, N6, N7, I1, I2, I3, I4, I5, I6, I7, reduceIte, reduceCtorEq]
  refine QIf.intro (fun c => ?_) (fun c => ?_)
  · have hk' : k < ow.length := by omega
    have k0 : (0 : Int) ≤ k := by omega
    have kn : (k : Int) < ow.length := by omega
    have hwk := wrap_succ (k := k) (by show _ < 1000000000000; omega)
    obtain ⟨o, g1⟩ := some_of (xs := ow) (k := k) hk'
    obtain ⟨x, g2⟩ := some_of (xs := st) (k := k) (by omega)
    obtain ⟨r, g3⟩ := some_of (xs := su) (k := k) (by omega)
    have e1 : ow.getD k 0 = o := getD_some g1
    have e2 : st.getD k 0 = x := getD_some g2
    have e3 : su.getD k [] = r := by simp [List.getD, g3]
    have ef : movF ow su p st k = if o = p ∧ x ∈ r then [x] else r := by unfold movF; rw [e1, e2, e3]
    have hps : psub cs 0 k = cs := psub_all _ _ (by omega)
    have c24 : (k + 1) * 24 ≤ 140737488355328 := by omega
    have c1 : k + 1 ≤ 9223372036854775807 := by omega
    have ho := hc.one
    have hex : k ≤ cs.length := by omega
    have step : ∀ (f o' : Bool) (y : List Int), movF ow su p st k = y → RwWk (cs ++ [slI f o' .i64 y]) (tabA (k + 1) (movF ow su p st)) := fun f o' y hy => by
      rw [tabA_succ, hy]; exact hc.app f o' y
    simp only [PP, P1, P2, P3, P4, P5, P6, P7, P8, P9, P10, P11, P12, P13, P14, L1, P15, N1, N2, N3, N4, N5, N6, N7, I1, I2, I3, I4, I5, I6, I7, reduceIte, reduceCtorEq, c, k0, kn, g1]
    refine QIf.intro (fun d => ?_) (fun d => ?_)
    · simp only [PP, P1, P2, P3, P4, P5, P6, P7, P8, P9, P10, P11, P12, P13, P14, L1, P15, N1, N2, N3, N4, N5, N6, N7, I1, I2, I3, I4, I5, I6, I7, reduceIte, reduceCtorEq, d, k0, kn, g2, g3, hs, ht]
      refine hasInt_p T (B.r r (List.mem_of_getElem? g3)) ?_
      by_cases q : x ∈ r
      · simp only [PP, P1, P2, P3, P4, P5, P6, P7, P8, P9, P10, P11, P12, P13, P14, L1, P15, N1, N2, N3, N4, N5, N6, N7, I1, I2, I3, I4, I5, I6, I7, reduceIte, reduceCtorEq, q, k0, kn, g2, ht, hps, c24, c1, ho, hwk, hex]
        rw [if_pos ⟨d, q⟩] at ef
        refine SemW_to (ih (k + 1) (g + 1) 0 (cs ++ [slI true true .i64 [x]]) ⟨by omega, step true true [x] ef⟩ (by omega)) (by simp only [PWeak_nil, PWeak_junk, PWeak_same, Int.cast_ofNat_Int, List.length_append, List.length_cons, List.length_nil, Nat.zero_add]) rfl
      · simp only [PP, P1, P2, P3, P4, P5, P6, P7, P8, P9, P10, P11, P12, P13, P14, L1, P15, N1, N2, N3, N4, N5, N6, N7, I1, I2, I3, I4, I5, I6, I7, reduceIte, reduceCtorEq, q, k0, kn, g3, hs, hps, c24, c1, ho, hwk, hex]
        rw [if_neg (fun h => q h.2)] at ef
        refine SemW_to (ih (k + 1) (g + 1) 0 (cs ++ [slI f4 o4 .i64 r]) ⟨by omega, step f4 o4 r ef⟩ (by omega)) (by simp only [PWeak_nil, PWeak_junk, PWeak_same, Int.cast_ofNat_Int, List.length_append, List.length_cons, List.length_nil, Nat.zero_add]) rfl
    · simp only [PP, P1, P2, P3, P4, P5, P6, P7, P8, P9, P10, P11, P12, P13, P14, L1, P15, N1, N2, N3, N4, N5, N6, N7, I1, I2, I3, I4, I5, I6, I7, reduceIte, reduceCtorEq, d, k0, kn, g3, hs, hps, c24, c1, ho, hwk, hex]
      rw [if_neg (fun h => d h.1)] at ef
      refine SemW_to (ih (k + 1) (g + 1) 0 (cs ++ [slI f4 o4 .i64 r]) ⟨by omega, step f4 o4 r ef⟩ (by omega)) (by simp only [PWeak_nil, PWeak_junk, PWeak_same, Int.cast_ofNat_Int, List.length_append, List.length_cons, List.length_nil, Nat.zero_add]) rfl
  · have hkn : k = ow.length := by omega
    subst hkn
    have hps : psub cs 0 ow.length = cs := psub_all _ _ (by omega)
    simp only [PP, P1, P2, P3, P4, P5, P6, P7, P8, P9, P10, P11, P12, P13, P14, L1, P15, N1, N2, N3, N4, N5, N6, N7, I1, I2, I3, I4, I5, I6, I7, reduceIte, reduceCtorEq, c]
    rw [frzO_cells (by omega) (hc.und 0), Nat.mul_one, hps]
    simp only [PP, P1, P2, P3, P4, P5, P6, P7, P8, P9, P10, P11, P12, P13, P14, L1, P15, N1, N2, N3, N4, N5, N6, N7, I1, I2, I3, I4, I5, I6, I7, reduceIte, reduceCtorEq]
    refine ⟨_, ?_, hk⟩
    have := PvWk.cells (f := false) (o := true) (sz := 1) (n := ow.length) (cs := cs) (cs' := (tabA ow.length (movF ow su p st)).map (slI true false .i64)) (by simp [lc, tabA_len]) hc.get
    simp only [slR, tabA_len]
    exact this
theorem own_p {M : Mem} {K : PV → Mem → Prop} {f1 o1 f2 o2 f3 o3 f4 o4 f5 o5 f6 o6 : Bool} {ow pr ws ss : List Int} {su : List (List Int)} {p : Int} (hn : ow.length < big) (hw : ws.length = ow.length) (hs : ss.length = ow.length)
    (hk : K (slI false true .i64 (tabA ow.length (ownF ow ws ss p))) M) :
    SemC tab 40 [gmP f1 o1 f2 o2 f3 o3 f4 o4 ow pr su, .agg [slI f5 o5 .u8 ws, slI f6 o6 .i64 ss], p8 p] M K := by
  refine SemC_pure T.h40 (by simp only [PP, P1, P2, P3, P4, P5, P6, P7, P8, P9, P10, P11, P12, P13, P14, L1, P15, N1, N2, N3, N4, N5, N6, N7, I1, I2, I3, I4, I5, I6, I7, reduceIte, reduceCtorEq]) ?_
  simp only [af40, PP, P1, P2, P3, P4, P5, P6, P7, P8, P9, P10, P11, P12, P13, P14, L1, P15, N1, N2, N3, N4, N5, N6, N7, I1, I2, I3, I4, I5, I6, I7, reduceIte, reduceCtorEq]
  have hn : ow.length < 1000000000000 := hn
  refine SemW_re (GStep.nil 7 1 rfl rfl rfl) ?_
  refine loop3 (fun (k g v : Nat) => k ≤ ow.length)
    (fun k g v => [.junk, .junk, p8 p, .ptr 0 0 0, .ptr 1 0 0, .junk, .junk, .ref 2 g 1 0 k, p64 k, .junk, .junk, .junk, .junk, .junk, .junk, .junk, .junk, .junk, .junk, .junk, .junk, .junk, .junk, .junk, .junk, .junk, .junk, .junk, .junk, .junk, .junk, .junk, .junk, .junk, .junk, .junk, .junk, .junk, .junk, .junk, .junk, .junk, .junk])
    (fun k g v => [.cells 0 0 [slI f1 o1 .u8 ow, slI f2 o2 .i64 pr, slR f3 o3 f4 o4 .i64 su], .cells 0 0 [slI f5 o5 .u8 ws, slI f6 o6 .i64 ss], .cells g v ((tabA k (ownF ow ws ss p)).map (PV.int .i64))])
    (fun k _ _ => ow.length - k) 0 0 0 (by omega) (by simp only [PP, P1, P2, P3, P4, P5, P6, P7, P8, P9, P10, P11, P12, P13, P14, L1, P15, N1, N2, N3, N4, N5, N6, N7, I1, I2, I3, I4, I5, I6, I7, reduceIte, reduceCtorEq, PWeak_nil, PWeak_junk, PWeak_same, Int.cast_ofNat_Int]) (by simp only [PP, P1, P2, P3, P4, P5, P6, P7, P8, P9, P10, P11, P12, P13, P14, L1, P15, N1, N2, N3, N4, N5, N6, N7, I1, I2, I3, I4, I5, I6, I7, reduceIte, reduceCtorEq]; rfl) ?_
  intro k g v hle ih
  refine SemW_go (by kernel_rfl) ?_
  simp only [PP, P1, P2, P3, P4, P5, P6, P7, P8, P9, P10, P11, P12, P13, P14, L1, P15, N1, N2, N3, N4, N5, N6, N7, I1, I2, I3, I4, I5, I6, I7, reduceIte, reduceCtorEq, hs]
  refine QIf.intro (fun c => ?_) (fun c => ?_)
  · have hk' : k < ow.length := by omega
    have k0 : (0 : Int) ≤ k := by omega
    have kn : (k : Int) < ow.length := by omega
    have hwk := wrap_succ (k := k) (by show _ < 1000000000000; omega)
    obtain ⟨o, g1⟩ := some_of (xs := ow) (k := k) hk'
    obtain ⟨w, g2⟩ := some_of (xs := ws) (k := k) (by omega)
    obtain ⟨s, g3⟩ := some_of (xs := ss) (k := k) (by omega)
    have ef : ownF ow ws ss p k = if o = p ∧ w = p then s else -1 := by unfold ownF; rw [getD_some g1, getD_some g2, getD_some g3]
    have hps : psub ((tabA k (ownF ow ws ss p)).map (PV.int .i64)) 0 k = (tabA k (ownF ow ws ss p)).map (PV.int .i64) := psub_all _ _ (by simp [tabA_len])
    have c8 : (k + 1) * 8 ≤ 140737488355328 := by omega
    have c1 : k + 1 ≤ 9223372036854775807 := by omega
    have hex : k ≤ (tabA k (ownF ow ws ss p)).length := by rw [tabA_len]; omega
    have step : ∀ y : Int, ownF ow ws ss p k = y → (tabA k (ownF ow ws ss p)).map (PV.int .i64) ++ [p64 y] = (tabA (k + 1) (ownF ow ws ss p)).map (PV.int .i64) := fun y hy => by
      rw [tabA_succ, hy, List.map_append]; rfl
    simp only [PP, P1, P2, P3, P4, P5, P6, P7, P8, P9, P10, P11, P12, P13, P14, L1, P15, N1, N2, N3, N4, N5, N6, N7, I1, I2, I3, I4, I5, I6, I7, reduceIte, reduceCtorEq, c, k0, kn, g1]
    refine QIf.intro (fun d => ?_) (fun d => ?_)
    · simp only [PP, P1, P2, P3, P4, P5, P6, P7, P8, P9, P10, P11, P12, P13, P14, L1, P15, N1, N2, N3, N4, N5, N6, N7, I1, I2, I3, I4, I5, I6, I7, reduceIte, reduceCtorEq, d, k0, kn, g2, hw]
      refine QIf.intro (fun e => ?_) (fun e => ?_)
      · rw [if_pos ⟨d, e⟩] at ef
        simp only [PP, P1, P2, P3, P4, P5, P6, P7, P8, P9, P10, P11, P12, P13, P14, L1, P15, N1, N2, N3, N4, N5, N6, N7, I1, I2, I3, I4, I5, I6, I7, reduceIte, reduceCtorEq, e, k0, kn, g3, hs, hps, c8, c1, hwk, hex]
        exact SemW_to (ih (k + 1) (g + 1) 0 (by omega) (by omega)) (by simp only [PWeak_nil, PWeak_junk, PWeak_same, Int.cast_ofNat_Int, List.length_append, List.length_cons, List.length_nil, Nat.zero_add]) (by rw [step s ef])
      · rw [if_neg (fun h => e h.2)] at ef
        simp only [PP, P1, P2, P3, P4, P5, P6, P7, P8, P9, P10, P11, P12, P13, P14, L1, P15, N1, N2, N3, N4, N5, N6, N7, I1, I2, I3, I4, I5, I6, I7, reduceIte, reduceCtorEq, e, hps, c8, c1, hwk, hex]
        exact SemW_to (ih (k + 1) (g + 1) 0 (by omega) (by omega)) (by simp only [PWeak_nil, PWeak_junk, PWeak_same, Int.cast_ofNat_Int, List.length_append, List.length_cons, List.length_nil, Nat.zero_add]) (by rw [step _ ef])
    · rw [if_neg (fun h => d h.1)] at ef
      simp only [PP, P1, P2, P3, P4, P5, P6, P7, P8, P9, P10, P11, P12, P13, P14, L1, P15, N1, N2, N3, N4, N5, N6, N7, I1, I2, I3, I4, I5, I6, I7, reduceIte, reduceCtorEq, d, hps, c8, c1, hwk, hex]
      exact SemW_to (ih (k + 1) (g + 1) 0 (by omega) (by omega)) (by simp only [PWeak_nil, PWeak_junk, PWeak_same, Int.cast_ofNat_Int, List.length_append, List.length_cons, List.length_nil, Nat.zero_add]) (by rw [step _ ef])
  · have hkn : k = ow.length := by omega
    subst hkn
    simp only [PP, P1, P2, P3, P4, P5, P6, P7, P8, P9, P10, P11, P12, P13, P14, L1, P15, N1, N2, N3, N4, N5, N6, N7, I1, I2, I3, I4, I5, I6, I7, reduceIte, reduceCtorEq, c]
    rw [frzO_cells (by simp [tabA_len]) (underL_ints _ _ _), Nat.mul_one, psub_all _ _ (by simp [tabA_len])]
    simp only [PP, P1, P2, P3, P4, P5, P6, P7, P8, P9, P10, P11, P12, P13, P14, L1, P15, N1, N2, N3, N4, N5, N6, N7, I1, I2, I3, I4, I5, I6, I7, reduceIte, reduceCtorEq]
    simpa only [slI, tabA_len] using hk
end
end Go.Am.Ar
set_option linter.unusedVariables false
set_option linter.unusedSimpArgs false
set_option maxRecDepth 10000
namespace Go.Am.Ar
open Go.Am renaming pchk → P1, pold → P2, PKNo → P3, ppack → P4, PObj.under → P5, pput → P6, ptset → P7, ptget → P8, pev → P9, ofAV → P10, ofAV1 → P11, ppad → P12, pfill → P13, prepl → P14, AO.effect → P15
open List renaming replicate → L1
open Nat renaming reduceAdd → N1, reduceSub → N2, reduceMul → N3, reduceLT → N4, reduceLeDiff → N5, reduceEqDiff → N6, reduceBEq → N7
open Int renaming reduceToNat → I1, reduceLT → I2, reduceLE → I3, reduceEq → I4, reduceAdd → I5, reduceSub → I6, reduceNeg → I7
abbrev solE (ow : List Int) (su : List (List Int)) (ws ss : List Int) (p : Int) (a b : Nat) : Prop := b ∈ Sf (tabA ow.length (movF ow su p (tabA ow.length (ownF ow ws ss p)))) a
structure FormAt (ow : List Int) (su : List (List Int)) (ws ss : List Int) (v : Nat) : Prop where
  k : ¬ 1 < ws.getD v 0
  own : ws.getD v 0 = ow.getD v 0 → ss.getD v 0 ∈ su.getD v []
  opp : ¬ ws.getD v 0 = ow.getD v 0 → ss.getD v 0 = -1
structure CorrP (ow pr : List Int) (su : List (List Int)) (ws ss : List Int) : Prop where
  c : checkM ow pr su = 0
  lw : ws.length = ow.length
  ls : ss.length = ow.length
  form : ∀ v, v < ow.length → FormAt ow su ws ss v
  win : ∀ p : Int, p = 0 ∨ p = 1 → ∀ v, v < ow.length → ws.getD v 0 = p → ¬ Lost (solE ow su ws ss p) (zP pr) p v
theorem mov_in {ow pr st : List Int} {su : List (List Int)} {p : Int} (V : Valid ow pr su) (B : Bnd ow pr su) : RowsIn (tabA ow.length (movF ow su p st)) := by
  have n1 := V.n1
  refine ⟨by rw [tabA_len]; omega, fun row hrow => ?_⟩
  obtain ⟨v, hv, rfl⟩ := tabA_mem hrow
  have hvs : v < su.length := by rw [V.s]; exact hv
  have e : su.getD v [] = su[v] := by simp [List.getD, hvs]
  have hr : ∀ x ∈ su.getD v [], 0 ≤ x ∧ x < ow.length := fun x hx => su_range V hv hx
  rw [tabA_len]
  unfold movF
  split
  · rename_i h
    refine ⟨by simp, fun x hx => ?_⟩
    rw [List.mem_singleton] at hx; subst hx; exact hr _ h.2
  · exact ⟨by rw [e]; exact B.r _ (List.getElem_mem hvs), hr⟩
theorem Valid.pri0 {ow pr : List Int} {su : List (List Int)} (V : Valid ow pr su) : ∀ x ∈ pr, 0 ≤ x ∧ x ≤ 16 := fun x hx => by
  obtain ⟨i, hi⟩ := List.getElem?_of_mem hx
  have hl := getSome_lt hi
  have := V.row i (by rw [V.s, ← V.p]; exact hl)
  rw [getD_some hi] at this
  exact ⟨this.1, this.2.1⟩
section
variable {tab : FuncId → Option AF} (T : HasA tab)
include T
set_option maxHeartbeats 1000000 in
theorem correct_p {M : Mem} {K : PV → Mem → Prop} {f1 o1 f2 o2 f3 o3 f4 o4 f5 o5 f6 o6 : Bool} {ow pr ws ss : List Int} {su : List (List Int)} (B : Bnd ow pr su)
    (hk : ∀ b : Bool, (b = true ↔ CorrP ow pr su ws ss) → K (.bool b) M) :
    SemC tab 15 [gmP f1 o1 f2 o2 f3 o3 f4 o4 ow pr su, .agg [slI f5 o5 .u8 ws, slI f6 o6 .i64 ss]] M K := by
  have yes : CorrP ow pr su ws ss → K (.bool true) M := fun h => hk true ⟨fun _ => h, fun _ => rfl⟩
  have no : ¬ CorrP ow pr su ws ss → K (.bool false) M := fun h => hk false ⟨fun q => (by cases q), fun q => absurd q h⟩
  refine SemC_pure T.h15 (by simp only [PP, P1, P2, P3, P4, P5, P6, P7, P8, P9, P10, P11, P12, P13, P14, L1, P15, N1, N2, N3, N4, N5, N6, N7, I1, I2, I3, I4, I5, I6, I7, reduceIte, reduceCtorEq]) ?_
  simp only [af15, PP, P1, P2, P3, P4, P5, P6, P7, P8, P9, P10, P11, P12, P13, P14, L1, P15, N1, N2, N3, N4, N5, N6, N7, I1, I2, I3, I4, I5, I6, I7, reduceIte, reduceCtorEq]
  refine refCheck_p T B ?_
  simp only [PP, P1, P2, P3, P4, P5, P6, P7, P8, P9, P10, P11, P12, P13, P14, L1, P15, N1, N2, N3, N4, N5, N6, N7, I1, I2, I3, I4, I5, I6, I7, reduceIte, reduceCtorEq]
  refine QIf.intro (fun c1 => ?_) (fun c1 => ?_)
  rotate_left
  · simp only [PP, P1, P2, P3, P4, P5, P6, P7, P8, P9, P10, P11, P12, P13, P14, L1, P15, N1, N2, N3, N4, N5, N6, N7, I1, I2, I3, I4, I5, I6, I7, reduceIte, reduceCtorEq, c1]
    exact no fun h => c1 h.c
  have V := valid_of c1
  have n0 := V.n0
  have n1 := V.n1
  have hs := V.s
  have hp := V.p
  simp only [PP, P1, P2, P3, P4, P5, P6, P7, P8, P9, P10, P11, P12, P13, P14, L1, P15, N1, N2, N3, N4, N5, N6, N7, I1, I2, I3, I4, I5, I6, I7, reduceIte, reduceCtorEq, c1]
  refine QIf.intro (fun c2 => ?_) (fun c2 => ?_)
  rotate_left
  · simp only [PP, P1, P2, P3, P4, P5, P6, P7, P8, P9, P10, P11, P12, P13, P14, L1, P15, N1, N2, N3, N4, N5, N6, N7, I1, I2, I3, I4, I5, I6, I7, reduceIte, reduceCtorEq, c2]
    exact no fun h => c2 (by have := h.lw; omega)
  simp only [PP, P1, P2, P3, P4, P5, P6, P7, P8, P9, P10, P11, P12, P13, P14, L1, P15, N1, N2, N3, N4, N5, N6, N7, I1, I2, I3, I4, I5, I6, I7, reduceIte, reduceCtorEq, c2]
  refine QIf.intro (fun c3 => ?_) (fun c3 => ?_)
  rotate_left
  · simp only [PP, P1, P2, P3, P4, P5, P6, P7, P8, P9, P10, P11, P12, P13, P14, L1, P15, N1, N2, N3, N4, N5, N6, N7, I1, I2, I3, I4, I5, I6, I7, reduceIte, reduceCtorEq, c3]
    exact no fun h => c3 (by have := h.ls; omega)
  have lw : ws.length = ow.length := by omega
  have ls : ss.length = ow.length := by omega
  simp only [PP, P1, P2, P3, P4, P5, P6, P7, P8, P9, P10, P11, P12, P13, P14, L1, P15, N1, N2, N3, N4, N5, N6, N7, I1, I2, I3, I4, I5, I6, I7, reduceIte, reduceCtorEq, c3]
  refine loop1 (fun (k : Nat) => k ≤ ow.length ∧ ∀ v, v < k → FormAt ow su ws ss v)
    (fun k => [.junk, .junk, .ptr 0 0 0, .ptr 1 0 0, .junk, p64 ow.length, p64 k, .junk, .junk, .junk, .junk, .junk, .junk, .junk, .junk, .junk, .junk, .junk, .junk, .junk, .junk, .junk, .junk, .junk, .junk, .junk, .junk, .junk, .junk, .junk, .junk, .junk, .junk, .junk, .junk, .junk, .junk, .junk, .junk, .junk, .junk, .junk, .junk, .junk, .junk, .junk, .junk, .junk, .junk, .junk, .junk, .junk, .junk, .junk, .junk, .junk, .junk, .junk, .junk, .junk, .junk, .junk, .junk, .junk, .junk, .junk, .junk, .junk, .junk, .junk, .junk, .junk, .junk, .junk, .junk, .junk, .junk, .junk, .junk, .junk, .junk, .junk, .junk, .junk, .junk, .junk, .junk, .junk, .junk, .junk, .junk, .junk, .junk, .junk, .junk, .junk, .junk, .junk, .junk, .junk, .junk, .junk, .junk, .junk, .junk, .junk, .junk, .junk, .junk, .junk, .junk, .junk, .junk, .junk, .junk, .junk, .junk, .junk, .junk, .junk, .junk])
    (fun k => [.cells 0 0 [slI f1 o1 .u8 ow, slI f2 o2 .i64 pr, slR f3 o3 f4 o4 .i64 su], .cells 0 0 [slI f5 o5 .u8 ws, slI f6 o6 .i64 ss]])
    (fun k => ow.length - k) 0 ⟨by omega, by intro v h; omega⟩ (by simp only [PWeak_nil, PWeak_junk, PWeak_same, Int.cast_ofNat_Int, List.length_append, List.length_cons, List.length_nil, Nat.zero_add]) rfl ?_
  intro k ⟨hle, hf⟩ ih
  refine SemW_go (by kernel_rfl) ?_
  simp only [PP, P1, P2, P3, P4, P5, P6, P7, P8, P9, P10, P11, P12, P13, P14, L1, P15, N1, N2, N3, N4, N5, N6, N7, I1, I2, I3, I4, I5, I6, I7, reduceIte, reduceCtorEq]
  refine QIf.intro (fun c => ?_) (fun c => ?_)
  · have hk' : k < ow.length := by omega
    have k0 : (0 : Int) ≤ k := by omega
    have kn : (k : Int) < ow.length := by omega
    have hwk := wrap_succ (k := k) (by show _ < 1000000000000; omega)
    obtain ⟨o, g1⟩ := some_of (xs := ow) (k := k) hk'
    obtain ⟨w, g2⟩ := some_of (xs := ws) (k := k) (by omega)
    obtain ⟨s, g3⟩ := some_of (xs := ss) (k := k) (by omega)
    obtain ⟨r, g4⟩ := some_of (xs := su) (k := k) (by omega)
    have e1 : ow.getD k 0 = o := getD_some g1
    have e2 : ws.getD k 0 = w := getD_some g2
    have e3 : ss.getD k 0 = s := getD_some g3
    have e4 : su.getD k [] = r := by simp [List.getD, g4]
    have bad : ¬ FormAt ow su ws ss k → ¬ CorrP ow pr su ws ss := fun h q => h (q.form k hk')
    have good : FormAt ow su ws ss k → k + 1 ≤ ow.length ∧ ∀ v, v < k + 1 → FormAt ow su ws ss v := fun h => ⟨hk', fun v hv => by
      by_cases e : v = k
      · subst e; exact h
      · exact hf v (by omega)⟩
    simp only [PP, P1, P2, P3, P4, P5, P6, P7, P8, P9, P10, P11, P12, P13, P14, L1, P15, N1, N2, N3, N4, N5, N6, N7, I1, I2, I3, I4, I5, I6, I7, reduceIte, reduceCtorEq, c, k0, kn, g2, lw]
    refine QIf.intro (fun d => ?_) (fun d => ?_)
    · simp only [PP, P1, P2, P3, P4, P5, P6, P7, P8, P9, P10, P11, P12, P13, P14, L1, P15, N1, N2, N3, N4, N5, N6, N7, I1, I2, I3, I4, I5, I6, I7, reduceIte, reduceCtorEq, d]
      exact no (bad fun h => h.k (by rw [e2]; exact d))
    simp only [PP, P1, P2, P3, P4, P5, P6, P7, P8, P9, P10, P11, P12, P13, P14, L1, P15, N1, N2, N3, N4, N5, N6, N7, I1, I2, I3, I4, I5, I6, I7, reduceIte, reduceCtorEq, d, k0, kn, g1, g2, lw]
    refine QIf.intro (fun d2 => ?_) (fun d2 => ?_)
    · simp only [PP, P1, P2, P3, P4, P5, P6, P7, P8, P9, P10, P11, P12, P13, P14, L1, P15, N1, N2, N3, N4, N5, N6, N7, I1, I2, I3, I4, I5, I6, I7, reduceIte, reduceCtorEq, d2, k0, kn, g1, g2, g3, g4, hs, ls, lw]
      refine hasInt_p T (B.r r (List.mem_of_getElem? g4)) ?_
      by_cases q : s ∈ r
      · simp only [PP, P1, P2, P3, P4, P5, P6, P7, P8, P9, P10, P11, P12, P13, P14, L1, P15, N1, N2, N3, N4, N5, N6, N7, I1, I2, I3, I4, I5, I6, I7, reduceIte, reduceCtorEq, d2, q, k0, kn, g1, g2, lw, hwk]
        exact SemW_weak (ih (k + 1) (good ⟨by rw [e2]; exact d, fun _ => by rw [e3, e4]; exact q, fun h => absurd (by rw [e1, e2]; exact d2) h⟩) (by omega)) (by simp only [PWeak_nil, PWeak_junk, PWeak_same, Int.cast_ofNat_Int, List.length_append, List.length_cons, List.length_nil, Nat.zero_add])
      · simp only [PP, P1, P2, P3, P4, P5, P6, P7, P8, P9, P10, P11, P12, P13, P14, L1, P15, N1, N2, N3, N4, N5, N6, N7, I1, I2, I3, I4, I5, I6, I7, reduceIte, reduceCtorEq, q]
        exact no (bad fun h => q (by have := h.own (by rw [e1, e2]; exact d2); rwa [e3, e4] at this))
    · simp only [PP, P1, P2, P3, P4, P5, P6, P7, P8, P9, P10, P11, P12, P13, P14, L1, P15, N1, N2, N3, N4, N5, N6, N7, I1, I2, I3, I4, I5, I6, I7, reduceIte, reduceCtorEq, d2, k0, kn, g1, g2, g3, ls, lw]
      refine QIf.intro (fun q => ?_) (fun q => ?_)
      · simp only [PP, P1, P2, P3, P4, P5, P6, P7, P8, P9, P10, P11, P12, P13, P14, L1, P15, N1, N2, N3, N4, N5, N6, N7, I1, I2, I3, I4, I5, I6, I7, reduceIte, reduceCtorEq, q, hwk]
        exact SemW_weak (ih (k + 1) (good ⟨by rw [e2]; exact d, fun h => absurd (by rw [← e1, ← e2]; exact h) d2, fun _ => by rw [e3]; exact q⟩) (by omega)) (by simp only [PWeak_nil, PWeak_junk, PWeak_same, Int.cast_ofNat_Int, List.length_append, List.length_cons, List.length_nil, Nat.zero_add])
      · simp only [PP, P1, P2, P3, P4, P5, P6, P7, P8, P9, P10, P11, P12, P13, P14, L1, P15, N1, N2, N3, N4, N5, N6, N7, I1, I2, I3, I4, I5, I6, I7, reduceIte, reduceCtorEq, q]
        exact no (bad fun h => q (by have := h.opp (by rw [e1, e2]; exact d2); rwa [e3] at this))
  have hkn : k = ow.length := by omega
  subst hkn
  simp only [PP, P1, P2, P3, P4, P5, P6, P7, P8, P9, P10, P11, P12, P13, P14, L1, P15, N1, N2, N3, N4, N5, N6, N7, I1, I2, I3, I4, I5, I6, I7, reduceIte, reduceCtorEq, c]
  refine loop1 (fun (q : Nat) => q ≤ 2 ∧ ∀ p : Int, 0 ≤ p → p < q → ∀ v, v < ow.length → ws.getD v 0 = p → ¬ Lost (solE ow su ws ss p) (zP pr) p v)
    (fun q => [.junk, .junk, .ptr 0 0 0, .ptr 1 0 0, .junk, p64 ow.length, .junk, p8 q, .junk, .junk, .junk, .junk, .junk, .junk, .junk, .junk, .junk, .junk, .junk, .junk, .junk, .junk, .junk, .junk, .junk, .junk, .junk, .junk, .junk, .junk, .junk, .junk, .junk, .junk, .junk, .junk, .junk, .junk, .junk, .junk, .junk, .junk, .junk, .junk, .junk, .junk, .junk, .junk, .junk, .junk, .junk, .junk, .junk, .junk, .junk, .junk, .junk, .junk, .junk, .junk, .junk, .junk, .junk, .junk, .junk, .junk, .junk, .junk, .junk, .junk, .junk, .junk, .junk, .junk, .junk, .junk, .junk, .junk, .junk, .junk, .junk, .junk, .junk, .junk, .junk, .junk, .junk, .junk, .junk, .junk, .junk, .junk, .junk, .junk, .junk, .junk, .junk, .junk, .junk, .junk, .junk, .junk, .junk, .junk, .junk, .junk, .junk, .junk, .junk, .junk, .junk, .junk, .junk, .junk, .junk, .junk, .junk, .junk, .junk, .junk, .junk])
    (fun q => [.cells 0 0 [slI f1 o1 .u8 ow, slI f2 o2 .i64 pr, slR f3 o3 f4 o4 .i64 su], .cells 0 0 [slI f5 o5 .u8 ws, slI f6 o6 .i64 ss]])
    (fun q => 2 - q) 0 ⟨by omega, by intro v h1 h2; omega⟩ (by simp only [PWeak_nil, PWeak_junk, PWeak_same, Int.cast_ofNat_Int, List.length_append, List.length_cons, List.length_nil, Nat.zero_add]) rfl ?_
  intro q ⟨hle2, hq⟩ ih2
  refine SemW_go (by kernel_rfl) ?_
  simp only [PP, P1, P2, P3, P4, P5, P6, P7, P8, P9, P10, P11, P12, P13, P14, L1, P15, N1, N2, N3, N4, N5, N6, N7, I1, I2, I3, I4, I5, I6, I7, reduceIte, reduceCtorEq]
  refine QIf.intro (fun d => ?_) (fun d => ?_)
  · have hq2 : q < 2 := by omega
    have hwq : IntKind.u8.wrap ((q : Int) + 1) = ((q + 1 : Nat) : Int) := by
      have : q = 0 ∨ q = 1 := by omega
      rcases this with rfl | rfl <;> rfl
    simp only [PP, P1, P2, P3, P4, P5, P6, P7, P8, P9, P10, P11, P12, P13, P14, L1, P15, N1, N2, N3, N4, N5, N6, N7, I1, I2, I3, I4, I5, I6, I7, reduceIte, reduceCtorEq, d]
    refine own_p T (by show _ < 1000000000000; omega) lw ls ?_
    simp only [PP, P1, P2, P3, P4, P5, P6, P7, P8, P9, P10, P11, P12, P13, P14, L1, P15, N1, N2, N3, N4, N5, N6, N7, I1, I2, I3, I4, I5, I6, I7, reduceIte, reduceCtorEq]
    refine moves_p T B hs (tabA_len _ _) ?_
    simp only [PP, P1, P2, P3, P4, P5, P6, P7, P8, P9, P10, P11, P12, P13, P14, L1, P15, N1, N2, N3, N4, N5, N6, N7, I1, I2, I3, I4, I5, I6, I7, reduceIte, reduceCtorEq]
    refine loses_p T (mov_in V B) (tabA_len _ _) hp (by omega) (by omega) (fun x hx => (V.pri0 x hx).1) (fun l hl hlost => ?_)
    simp only [PP, P1, P2, P3, P4, P5, P6, P7, P8, P9, P10, P11, P12, P13, P14, L1, P15, N1, N2, N3, N4, N5, N6, N7, I1, I2, I3, I4, I5, I6, I7, reduceIte, reduceCtorEq]
    refine loop1 (fun (v : Nat) => v ≤ ow.length ∧ ∀ u, u < v → ws.getD u 0 = q → ¬ bm l u)
      (fun v => [.junk, .junk, .ptr 0 0 0, .ptr 1 0 0, .junk, p64 ow.length, .junk, p8 q, slB false true l, p64 v, .junk, .junk, .junk, .junk, .junk, .junk, .junk, .junk, .junk, .junk, .junk, .junk, .junk, .junk, .junk, .junk, .junk, .junk, .junk, .junk, .junk, .junk, .junk, .junk, .junk, .junk, .junk, .junk, .junk, .junk, .junk, .junk, .junk, .junk, .junk, .junk, .junk, .junk, .junk, .junk, .junk, .junk, .junk, .junk, .junk, .junk, .junk, .junk, .junk, .junk, .junk, .junk, .junk, .junk, .junk, .junk, .junk, .junk, .junk, .junk, .junk, .junk, .junk, .junk, .junk, .junk, .junk, .junk, .junk, .junk, .junk, .junk, .junk, .junk, .junk, .junk, .junk, .junk, .junk, .junk, .junk, .junk, .junk, .junk, .junk, .junk, .junk, .junk, .junk, .junk, .junk, .junk, .junk, .junk, .junk, .junk, .junk, .junk, .junk, .junk, .junk, .junk, .junk, .junk, .junk, .junk, .junk, .junk, .junk, .junk, .junk])
      (fun v => [.cells 0 0 [slI f1 o1 .u8 ow, slI f2 o2 .i64 pr, slR f3 o3 f4 o4 .i64 su], .cells 0 0 [slI f5 o5 .u8 ws, slI f6 o6 .i64 ss]])
      (fun v => ow.length - v) 0 ⟨by omega, by intro v h1; omega⟩ (by simp only [PWeak_nil, PWeak_junk, PWeak_same, Int.cast_ofNat_Int, List.length_append, List.length_cons, List.length_nil, Nat.zero_add]) rfl ?_
    intro v ⟨hle3, hv⟩ ih3
    refine SemW_go (by kernel_rfl) ?_
    simp only [PP, P1, P2, P3, P4, P5, P6, P7, P8, P9, P10, P11, P12, P13, P14, L1, P15, N1, N2, N3, N4, N5, N6, N7, I1, I2, I3, I4, I5, I6, I7, reduceIte, reduceCtorEq]
    refine QIf.intro (fun x => ?_) (fun x => ?_)
    · have hv' : v < ow.length := by omega
      have v0 : (0 : Int) ≤ v := by omega
      have vn : (v : Int) < ow.length := by omega
      have hwk := wrap_succ (k := v) (by show _ < 1000000000000; omega)
      obtain ⟨w, g2⟩ := some_of (xs := ws) (k := v) (by omega)
      obtain ⟨y, g3⟩ := some_of (xs := l) (k := v) (by omega)
      have e2 : ws.getD v 0 = w := getD_some g2
      have next : (w = (q : Int) → y = false) → v + 1 ≤ ow.length ∧ ∀ u, u < v + 1 → ws.getD u 0 = q → ¬ bm l u := fun h => ⟨hv', fun u hu hwu => by
        by_cases e : u = v
        · subst e; rw [bm_of g3, h (by rw [← e2]; exact hwu)]; intro q; cases q
        · exact hv u (by omega) hwu⟩
      simp only [PP, P1, P2, P3, P4, P5, P6, P7, P8, P9, P10, P11, P12, P13, P14, L1, P15, N1, N2, N3, N4, N5, N6, N7, I1, I2, I3, I4, I5, I6, I7, reduceIte, reduceCtorEq, x, v0, vn, g2, lw]
      refine QIf.intro (fun e => ?_) (fun e => ?_)
      · cases y with
        | true =>
          simp only [PP, P1, P2, P3, P4, P5, P6, P7, P8, P9, P10, P11, P12, P13, P14, L1, P15, N1, N2, N3, N4, N5, N6, N7, I1, I2, I3, I4, I5, I6, I7, reduceIte, reduceCtorEq, e, v0, vn, g3, hl]
          exact no fun h => h.win q (by omega) v hv' (by rw [e2]; exact e) ((hlost v hv').1 ((bm_of g3).2 rfl))
        | false =>
          simp only [PP, P1, P2, P3, P4, P5, P6, P7, P8, P9, P10, P11, P12, P13, P14, L1, P15, N1, N2, N3, N4, N5, N6, N7, I1, I2, I3, I4, I5, I6, I7, reduceIte, reduceCtorEq, e, v0, vn, g3, hl, hwk]
          exact SemW_weak (ih3 (v + 1) (next fun _ => rfl) (by omega)) (by simp only [PWeak_nil, PWeak_junk, PWeak_same, Int.cast_ofNat_Int, List.length_append, List.length_cons, List.length_nil, Nat.zero_add])
      · simp only [PP, P1, P2, P3, P4, P5, P6, P7, P8, P9, P10, P11, P12, P13, P14, L1, P15, N1, N2, N3, N4, N5, N6, N7, I1, I2, I3, I4, I5, I6, I7, reduceIte, reduceCtorEq, e, hwk]
        exact SemW_weak (ih3 (v + 1) (next fun h => absurd h e) (by omega)) (by simp only [PWeak_nil, PWeak_junk, PWeak_same, Int.cast_ofNat_Int, List.length_append, List.length_cons, List.length_nil, Nat.zero_add])
    · have hvn : v = ow.length := by omega
      subst hvn
      simp only [PP, P1, P2, P3, P4, P5, P6, P7, P8, P9, P10, P11, P12, P13, P14, L1, P15, N1, N2, N3, N4, N5, N6, N7, I1, I2, I3, I4, I5, I6, I7, reduceIte, reduceCtorEq, x, hwq]
      refine SemW_weak (ih2 (q + 1) ⟨by omega, fun p h1 h2 v hv' hw => ?_⟩ (by omega)) (by simp only [PWeak_nil, PWeak_junk, PWeak_same, Int.cast_ofNat_Int, List.length_append, List.length_cons, List.length_nil, Nat.zero_add])
      by_cases e : p = q
      · subst e; rw [← hlost v hv']; exact hv v hv' hw
      · exact hq p h1 (by omega) v hv' hw
  · have : q = 2 := by omega
    subst this
    simp only [PP, P1, P2, P3, P4, P5, P6, P7, P8, P9, P10, P11, P12, P13, P14, L1, P15, N1, N2, N3, N4, N5, N6, N7, I1, I2, I3, I4, I5, I6, I7, reduceIte, reduceCtorEq, d]
    exact yes ⟨c1, lw, ls, hf, fun p hp => hq p (by omega) (by omega)⟩
end
end Go.Am.Ar
set_option linter.unusedVariables false
set_option linter.unusedSimpArgs false
set_option maxRecDepth 10000
namespace Go.Am.Ar
open Go.Am renaming pchk → P1, pold → P2, PKNo → P3, ppack → P4, PObj.under → P5, pput → P6, ptset → P7, ptget → P8, pev → P9, ofAV → P10, ofAV1 → P11, ppad → P12, pfill → P13, prepl → P14, AO.effect → P15
open List renaming replicate → L1
open Nat renaming reduceAdd → N1, reduceSub → N2, reduceMul → N3, reduceLT → N4, reduceLeDiff → N5, reduceEqDiff → N6, reduceBEq → N7
open Int renaming reduceToNat → I1, reduceLT → I2, reduceLE → I3, reduceEq → I4, reduceAdd → I5, reduceSub → I6, reduceNeg → I7
theorem SolIn.congr {O : Nat → Int} {S : Nat → List Nat} {R : Nat → Int} {D : Nat → Prop} {p : Int} {W : Nat → Prop} {s s' : Nat → Nat} (h : SolIn O S R D p W s) (hs : ∀ v, W v → O v = p → s' v = s v) : SolIn O S R D p W s' :=
  ⟨h.sub, fun v hv ho => by rw [hs v hv ho]; exact h.own v hv ho, h.opp, fun c k hk hper hW hS hc => h.cyc c k hk hper hW hS fun i ho => by rw [hc i ho, hs _ (hW i) ho]⟩
structure SolL (ow pr : List Int) (su : List (List Int)) (ws ss : List Int) : Prop where
  lw : ws.length = ow.length
  ls : ss.length = ow.length
  sol : IsSol ow.length (zO ow) (Sf su) (zP pr) (fun v => ws.getD v 0) (stN ss)
  own : ∀ v, v < ow.length → ws.getD v 0 = ow.getD v 0 → 0 ≤ ss.getD v 0
  opp : ∀ v, v < ow.length → ¬ ws.getD v 0 = ow.getD v 0 → ss.getD v 0 = -1
abbrev solV (ws ss : List Int) (e : Int) : PV := .tuple [.agg [slI false true .u8 ws, slI false true .i64 ss], p64 e]
theorem wk_sol (e : Int) : PvWk (.tuple [.agg [.nils, .nils], p64 e]) (solV [] [] e) := by
  refine PvWk.tuple rfl fun i y z h1 h2 => ?_
  match i with
  | 0 =>
    cases h1; cases h2
    refine PvWk.agg rfl fun i y z h1 h2 => ?_
    match i with
    | 0 => cases h1; cases h2; exact PvWk.nils _ _ _
    | 1 => cases h1; cases h2; exact PvWk.nils _ _ _
    | i + 2 => simp at h1
  | 1 => cases h1; cases h2; exact PvWk.refl _
  | i + 2 => simp at h1
theorem frzI {g v n : Nat} {k : IntKind} {xs : List Int} (h : xs.length = n) : frzO (some (.cells g v (xs.map (PV.int k)))) g 1 0 n = some (slI false true k xs) := by
  subst h
  rw [frzO_cells (by simp) (underL_ints _ _ _), Nat.mul_one, psub_map]
section
variable {tab : FuncId → Option AF} (T : HasA tab)
include T
theorem solve_p {M : Mem} {K : PV → Mem → Prop} {f1 p1 f2 p2 f3 p3 f4 p4 : Bool} {ow pr : List Int} {su : List (List Int)} (B : Bnd ow pr su) (ho : ∀ x ∈ ow, 0 ≤ x)
    (hk1 : ¬ checkM ow pr su = 0 → K (solV [] [] (checkM ow pr su)) M) (hk2 : checkM ow pr su = 0 → ∀ ws ss, SolL ow pr su ws ss → K (solV ws ss 0) M) :
    SemC tab 12 [gmP f1 p1 f2 p2 f3 p3 f4 p4 ow pr su] M K := by
  refine SemC_wk ?_
  refine SemC_pure T.h12 (by simp only [PP, P1, P2, P3, P4, P5, P6, P7, P8, P9, P10, P11, P12, P13, P14, L1, P15, N1, N2, N3, N4, N5, N6, N7, I1, I2, I3, I4, I5, I6, I7, reduceIte, reduceCtorEq]) ?_
  simp only [af12, PP, P1, P2, P3, P4, P5, P6, P7, P8, P9, P10, P11, P12, P13, P14, L1, P15, N1, N2, N3, N4, N5, N6, N7, I1, I2, I3, I4, I5, I6, I7, reduceIte, reduceCtorEq]
  refine check_p T B ?_
  simp only [PP, P1, P2, P3, P4, P5, P6, P7, P8, P9, P10, P11, P12, P13, P14, L1, P15, N1, N2, N3, N4, N5, N6, N7, I1, I2, I3, I4, I5, I6, I7, reduceIte, reduceCtorEq]
  refine QIf.intro (fun c1 => ?_) (fun c1 => ?_)
  rotate_left
  · simp only [PP, P1, P2, P3, P4, P5, P6, P7, P8, P9, P10, P11, P12, P13, P14, L1, P15, N1, N2, N3, N4, N5, N6, N7, I1, I2, I3, I4, I5, I6, I7, reduceIte, reduceCtorEq, c1]
    exact ⟨_, wk_sol _, hk1 c1⟩
  have V := valid_of c1
  have n0 := V.n0
  have n1 := V.n1
  have hsl := V.s
  have b0 : (0 : Int) ≤ ow.length := by omega
  have b1 : (ow.length : Int) * 1 ≤ 140737488355328 := by omega
  have b8 : (ow.length : Int) * 8 ≤ 140737488355328 := by omega
  have b2 : (ow.length : Int) ≤ 9223372036854775807 := by omega
  simp only [PP, P1, P2, P3, P4, P5, P6, P7, P8, P9, P10, P11, P12, P13, P14, L1, P15, N1, N2, N3, N4, N5, N6, N7, I1, I2, I3, I4, I5, I6, I7, reduceIte, reduceCtorEq, c1, b0, b1, b8, b2, Int.le_refl]
  refine SemW_gh ?_
  refine loop3 (fun (k ver : Nat) (w : List Bool) => k ≤ ow.length ∧ w.length = ow.length ∧ ∀ v, v < k → w[v]? = some true)
    (fun k ver w => [.junk, .ptr 0 0 0, .ptr 1 0 0, .junk, .junk, .ptr 3 0 0, .ref 4 0 1 0 ow.length, .junk, .junk, .junk, .junk, .junk, .junk, .junk, .junk, .junk, .junk, .junk, .junk, .junk, .junk, .junk, .junk, .junk, .junk, .junk, .junk, .junk, .junk, p64 ow.length, p64 k, .junk, .junk, .junk, .junk, .junk, .junk, .junk, .junk, .junk, .junk, .junk, .junk, .junk, .junk, .junk, .junk, .junk, .junk, .junk, .junk, .junk, .junk, .junk, .junk, .junk, .junk, .junk, .junk, .junk, .junk, .junk, .junk, .junk, .junk, .junk, .junk, .junk, .junk, .junk, .junk, .junk, .junk, .junk, .junk, .junk, .junk, .junk, .junk])
    (fun k ver w => [.cells 0 0 [slI f1 p1 .u8 ow, slI f2 p2 .i64 pr, slR f3 p3 f4 p4 .i64 su], .cells 0 0 [.nils, .nils], .cells 0 0 ((List.replicate ow.length 0).map (PV.int .i64)), .cells 0 0 (zSol f1 p1 f2 p2 f3 p3 f4 p4 ow pr su), .cells 0 ver (w.map PV.bool)])
    (fun k _ _ => ow.length - k) 0 0 (List.replicate ow.length false) ⟨by omega, by simp, by intro v h; omega⟩ (by simp only [PWeak_nil, PWeak_junk, PWeak_same, Int.cast_ofNat_Int, List.length_append, List.length_cons, List.length_nil, Nat.zero_add]) (by simp only [List.map_replicate]) ?_
  intro k ver w ⟨hle, hw, hget⟩ ih
  refine SemW_go (by kernel_rfl) ?_
  simp only [PP, P1, P2, P3, P4, P5, P6, P7, P8, P9, P10, P11, P12, P13, P14, L1, P15, N1, N2, N3, N4, N5, N6, N7, I1, I2, I3, I4, I5, I6, I7, reduceIte, reduceCtorEq]
  refine QIf.intro (fun c => ?_) (fun c => ?_)
  · have hk' : k < ow.length := by omega
    have k0 : (0 : Int) ≤ k := by omega
    have k1 : k + 1 ≤ ow.length := hk'
    have hwk := wrap_succ (k := k) (by show _ < 1000000000000; omega)
    simp only [PP, P1, P2, P3, P4, P5, P6, P7, P8, P9, P10, P11, P12, P13, P14, L1, P15, N1, N2, N3, N4, N5, N6, N7, I1, I2, I3, I4, I5, I6, I7, reduceIte, reduceCtorEq, c, k0, k1, hw, hwk]
    refine SemW_to (ih (k + 1) (ver + 1) (w.set k true) ⟨by omega, by simp [hw], fun v hv => ?_⟩ (by omega)) (by simp only [PWeak_nil, PWeak_junk, PWeak_same, Int.cast_ofNat_Int, List.length_append, List.length_cons, List.length_nil, Nat.zero_add]) (by simp only [← List.map_set])
    by_cases e : v = k
    · subst e; rw [List.getElem?_set_self (by omega)]
    · rw [List.getElem?_set_ne (by omega)]; exact hget v (by omega)
  have hkn : k = ow.length := by omega
  subst hkn
  have hall : ∀ v, bm w v ↔ v < ow.length := fun v => ⟨fun h => by rw [← hw]; exact bm_lt h, fun h => hget v h⟩
  simp only [PP, P1, P2, P3, P4, P5, P6, P7, P8, P9, P10, P11, P12, P13, P14, L1, P15, N1, N2, N3, N4, N5, N6, N7, I1, I2, I3, I4, I5, I6, I7, reduceIte, reduceCtorEq, c]
  refine Gh.step (GStep.freeze (b := [.junk, .ptr 0 0 0, .ptr 1 0 0, .junk, .junk, .ptr 3 0 0, slB false true w, .junk, .junk, .junk, .junk, .junk, .junk, .junk, .junk, .junk, .junk, .junk, .junk, .junk, .junk, .junk, .junk, .junk, .junk, .junk, .junk, .junk, .junk, .junk, .junk, .junk, .junk, .junk, .junk, .junk, .junk, .junk, .junk, .junk, .junk, .junk, .junk, .junk, .junk, .junk, .junk, .junk, .junk, .junk, .junk, .junk, .junk, .junk, .junk, .junk, .junk, .junk, .junk, .junk, .junk, .junk, .junk, .junk, .junk, .junk, .junk, .junk, .junk, .junk, .junk, .junk, .junk, .junk, .junk, .junk, .junk, .junk, .junk]) 4 (by omega) rfl (by
    simp only [PFrz_junk, PFrz_same]
    rw [PFrz_ref (by rw [List.length_map, hw]; omega) (by rw [Nat.mul_one, psub_all _ _ (by simp [hw])]; unfold slB; rw [hw])]
    simp only [PFrz_nil, PFrz_junk, PFrz_same]) rfl) (Gh.same ?_)
  simp only [PP, P1, P2, P3, P4, P5, P6, P7, P8, P9, P10, P11, P12, P13, P14, L1, P15, N1, N2, N3, N4, N5, N6, N7, I1, I2, I3, I4, I5, I6, I7, reduceIte, reduceCtorEq]
  refine SemC_prefix (m := 4) (by simp) (by simp only [PP, P1, P2, P3, P4, P5, P6, P7, P8, P9, P10, P11, P12, P13, P14, L1, P15, N1, N2, N3, N4, N5, N6, N7, I1, I2, I3, I4, I5, I6, I7, reduceIte, reduceCtorEq, slB]) (by simp only [PP, P1, P2, P3, P4, P5, P6, P7, P8, P9, P10, P11, P12, P13, P14, L1, P15, N1, N2, N3, N4, N5, N6, N7, I1, I2, I3, I4, I5, I6, I7, reduceIte, reduceCtorEq, cutOk_cells, underL_ints]) ?_
  have hcl := cnt_le w
  refine solve_z T V B ho (by simp only [PP, P1, P2, P3, P4, P5, P6, P7, P8, P9, P10, P11, P12, P13, P14, L1, P15, N1, N2, N3, N4, N5, N6, N7, I1, I2, I3, I4, I5, I6, I7, reduceIte, reduceCtorEq, cutOk_cells]) rfl (ow.length + 1) w (List.replicate ow.length 0) 0 _ (by omega) hw (by simp) (fun x hx => by rw [List.eq_of_mem_replicate hx]; omega) (fun v hv => ?_) ?_
  · have hv := (hall v).1 hv
    obtain ⟨q1, q2, _⟩ := Sf_ok V hv
    cases hs : Sf su v with
    | nil => exact absurd hs q1
    | cons x l => exact ⟨x, by simp, (hall x).2 (q2 x (by rw [hs]; simp))⟩
  intro ver2 st w0 w1 Z
  refine ⟨by simp only [PP, P1, P2, P3, P4, P5, P6, P7, P8, P9, P10, P11, P12, P13, P14, L1, P15, N1, N2, N3, N4, N5, N6, N7, I1, I2, I3, I4, I5, I6, I7, reduceIte, reduceCtorEq, slB], rfl, by simp only [PP, P1, P2, P3, P4, P5, P6, P7, P8, P9, P10, P11, P12, P13, P14, L1, P15, N1, N2, N3, N4, N5, N6, N7, I1, I2, I3, I4, I5, I6, I7, reduceIte, reduceCtorEq, cutOk_cells, underL_ints], ?_⟩
  simp only [PP, P1, P2, P3, P4, P5, P6, P7, P8, P9, P10, P11, P12, P13, P14, L1, P15, N1, N2, N3, N4, N5, N6, N7, I1, I2, I3, I4, I5, I6, I7, reduceIte, reduceCtorEq, hw, b0, b1, b2, Int.le_refl]
  have zs := Z.ls
  have z1 := Z.l1
  refine loop5 (fun (k v6 v2 : Nat) (ws ss : List Int) => k ≤ ow.length ∧ ws.length = ow.length ∧ ss.length = ow.length ∧ (∀ v, v < k → ws[v]? = some (if bm w1 v then 1 else 0) ∧ ss[v]? = some (if (if bm w1 v then 1 else 0) = ow.getD v 0 then st.getD v 0 else -1)) ∧ ∀ v, k ≤ v → v < ow.length → ws[v]? = some 0 ∧ ss[v]? = st[v]?)
    (fun k v6 v2 ws ss => [.junk, .ptr 0 0 0, .ptr 1 0 0, .junk, .junk, .junk, .junk, .junk, .ptr 5 0 0, .ptr 7 0 0, .junk, .junk, .junk, .junk, .junk, .junk, .junk, .junk, .junk, .junk, .junk, .junk, .junk, .junk, .junk, .junk, .junk, .junk, .junk, .junk, .junk, .junk, .junk, .junk, .junk, .junk, .junk, .junk, .junk, .junk, .junk, .junk, .junk, .junk, .junk, .junk, .junk, .junk, .junk, p64 ow.length, p64 k, .junk, .junk, .junk, .junk, .junk, .junk, .junk, .junk, .junk, .junk, .junk, .junk, .junk, .junk, .junk, .junk, .junk, .junk, .junk, .junk, .junk, .junk, .junk, .junk, .junk, .junk, .junk, .junk])
    (fun k v6 v2 ws ss => [.cells 0 0 [slI f1 p1 .u8 ow, slI f2 p2 .i64 pr, slR f3 p3 f4 p4 .i64 su], .cells 0 0 [.nils, .nils], .cells 0 v2 (ss.map (PV.int .i64)), .cells 0 0 (zSol f1 p1 f2 p2 f3 p3 f4 p4 ow pr su), .gone, .cells 0 1 [slB false true w0, slB false true w1], .cells 0 v6 (ws.map (PV.int .u8)), .cells 0 1 [.ref 6 0 1 0 ow.length, .ref 2 0 1 0 ow.length]])
    (fun k _ _ _ _ => ow.length - k) 0 0 ver2 (List.replicate ow.length 0) st ⟨by omega, by simp, zs, fun v h => by omega, fun v _ h => ⟨by simp [h], rfl⟩⟩ (by simp only [PWeak_nil, PWeak_junk, PWeak_same, Int.cast_ofNat_Int, List.length_append, List.length_cons, List.length_nil, Nat.zero_add]) (by simp only [List.map_replicate]) ?_
  intro k v6 v2 ws ss ⟨hle, lw, ls, hlo, hhi⟩ ih2
  refine SemW_go (by kernel_rfl) ?_
  simp only [PP, P1, P2, P3, P4, P5, P6, P7, P8, P9, P10, P11, P12, P13, P14, L1, P15, N1, N2, N3, N4, N5, N6, N7, I1, I2, I3, I4, I5, I6, I7, reduceIte, reduceCtorEq]
  refine QIf.intro (fun d => ?_) (fun d => ?_)
  · have hk' : k < ow.length := by omega
    have k0 : (0 : Int) ≤ k := by omega
    have kn : (k : Int) < ow.length := by omega
    have k1 : k + 1 ≤ ow.length := hk'
    have hwk := wrap_succ (k := k) (by show _ < 1000000000000; omega)
    obtain ⟨x, g1⟩ := some_of (xs := w1) (k := k) (by omega)
    obtain ⟨o, g2⟩ := some_of (xs := ow) (k := k) hk'
    obtain ⟨y, g3⟩ := some_of (xs := st) (k := k) (by omega)
    have eo : ow.getD k 0 = o := getD_some g2
    have ey : st.getD k 0 = y := getD_some g3
    obtain ⟨hw0, hs0⟩ := hhi k (Nat.le_refl _) hk'
    have up : ∀ (ws' ss' : List Int), ws'.length = ow.length → ss'.length = ow.length → ws'[k]? = some (if bm w1 k then 1 else 0) → ss'[k]? = some (if (if bm w1 k then 1 else 0) = o then y else -1) → (∀ v, v ≠ k → ws'[v]? = ws[v]? ∧ ss'[v]? = ss[v]?) →
        k + 1 ≤ ow.length ∧ ws'.length = ow.length ∧ ss'.length = ow.length ∧ (∀ v, v < k + 1 → ws'[v]? = some (if bm w1 v then 1 else 0) ∧ ss'[v]? = some (if (if bm w1 v then 1 else 0) = ow.getD v 0 then st.getD v 0 else -1)) ∧ ∀ v, k + 1 ≤ v → v < ow.length → ws'[v]? = some 0 ∧ ss'[v]? = st[v]? := by
      intro ws' ss' q1 q2 q3 q4 q5
      refine ⟨by omega, q1, q2, fun v hv => ?_, fun v hv hv2 => ?_⟩
      · by_cases e : v = k
        · subst e; rw [eo, ey]; exact ⟨q3, q4⟩
        · rw [(q5 v e).1, (q5 v e).2]; exact hlo v (by omega)
      · rw [(q5 v (by omega)).1, (q5 v (by omega)).2]; exact hhi v (by omega) hv2
    cases x
    · have hx : ¬ bm w1 k := fun h => by rw [bm_of g1] at h; cases h
      rw [if_neg hx] at up
      simp only [PP, P1, P2, P3, P4, P5, P6, P7, P8, P9, P10, P11, P12, P13, P14, L1, P15, N1, N2, N3, N4, N5, N6, N7, I1, I2, I3, I4, I5, I6, I7, reduceIte, reduceCtorEq, d, k0, kn, g1, g2, z1, lw, ls, hw0]
      refine QIf.intro (fun e => ?_) (fun e => ?_)
      · have e : (0 : Int) = o := e
        simp only [PP, P1, P2, P3, P4, P5, P6, P7, P8, P9, P10, P11, P12, P13, P14, L1, P15, N1, N2, N3, N4, N5, N6, N7, I1, I2, I3, I4, I5, I6, I7, reduceIte, reduceCtorEq, hwk]
        exact SemW_weak (ih2 (k + 1) v6 v2 ws ss (up ws ss lw ls hw0 (by rw [hs0, g3, if_pos e]) fun v _ => ⟨rfl, rfl⟩) (by omega)) (by simp only [PWeak_nil, PWeak_junk, PWeak_same, Int.cast_ofNat_Int, List.length_append, List.length_cons, List.length_nil, Nat.zero_add])
      · have e : ¬ (0 : Int) = o := e
        simp only [PP, P1, P2, P3, P4, P5, P6, P7, P8, P9, P10, P11, P12, P13, P14, L1, P15, N1, N2, N3, N4, N5, N6, N7, I1, I2, I3, I4, I5, I6, I7, reduceIte, reduceCtorEq, k0, kn, k1, lw, ls, hwk]
        exact SemW_to (ih2 (k + 1) v6 (v2 + 1) ws (ss.set k (-1)) (up ws _ lw (by simp [ls]) hw0 (by rw [List.getElem?_set_self (by omega), if_neg e]) fun v hv => ⟨rfl, List.getElem?_set_ne (by omega)⟩) (by omega)) (by simp only [PWeak_nil, PWeak_junk, PWeak_same, Int.cast_ofNat_Int, List.length_append, List.length_cons, List.length_nil, Nat.zero_add]) (by simp only [← List.map_set])
    · have hx : bm w1 k := (bm_of g1).2 rfl
      rw [if_pos hx] at up
      have hset : (ws.set k 1)[k]? = some 1 := List.getElem?_set_self (by omega)
      have lset : (ws.set k 1).length = ow.length := by simp [lw]
      simp only [PP, P1, P2, P3, P4, P5, P6, P7, P8, P9, P10, P11, P12, P13, P14, L1, P15, N1, N2, N3, N4, N5, N6, N7, I1, I2, I3, I4, I5, I6, I7, reduceIte, reduceCtorEq, d, k0, kn, k1, g1, g2, z1, lw, ls, ← List.map_set, hset]
      refine QIf.intro (fun e => ?_) (fun e => ?_)
      · have e : (1 : Int) = o := e
        simp only [PP, P1, P2, P3, P4, P5, P6, P7, P8, P9, P10, P11, P12, P13, P14, L1, P15, N1, N2, N3, N4, N5, N6, N7, I1, I2, I3, I4, I5, I6, I7, reduceIte, reduceCtorEq, hwk]
        exact SemW_to (ih2 (k + 1) (v6 + 1) v2 (ws.set k 1) ss (up _ ss lset ls hset (by rw [hs0, g3, if_pos e]) fun v hv => ⟨List.getElem?_set_ne (by omega), rfl⟩) (by omega)) (by simp only [PWeak_nil, PWeak_junk, PWeak_same, Int.cast_ofNat_Int, List.length_append, List.length_cons, List.length_nil, Nat.zero_add]) rfl
      · have e : ¬ (1 : Int) = o := e
        simp only [PP, P1, P2, P3, P4, P5, P6, P7, P8, P9, P10, P11, P12, P13, P14, L1, P15, N1, N2, N3, N4, N5, N6, N7, I1, I2, I3, I4, I5, I6, I7, reduceIte, reduceCtorEq, k0, kn, k1, lw, ls, hwk]
        exact SemW_to (ih2 (k + 1) (v6 + 1) (v2 + 1) (ws.set k 1) (ss.set k (-1)) (up _ _ lset (by simp [ls]) hset (by rw [List.getElem?_set_self (by omega), if_neg e]) fun v hv => ⟨List.getElem?_set_ne (by omega), List.getElem?_set_ne (by omega)⟩) (by omega)) (by simp only [PWeak_nil, PWeak_junk, PWeak_same, Int.cast_ofNat_Int, List.length_append, List.length_cons, List.length_nil, Nat.zero_add]) (by simp only [← List.map_set])
  · have hkn : k = ow.length := by omega
    subst hkn
    have gw : ∀ v, v < ow.length → ws.getD v 0 = if bm w1 v then 1 else 0 := fun v hv => getD_some (hlo v hv).1
    have gs : ∀ v, v < ow.length → ss.getD v 0 = if ws.getD v 0 = ow.getD v 0 then st.getD v 0 else -1 := fun v hv => by rw [gw v hv]; exact getD_some (hlo v hv).2
    have eD : bm w = fun v => v < ow.length := funext fun v => propext (hall v)
    have e1 : bm w1 = fun v => v < ow.length ∧ ws.getD v 0 = 1 := funext fun v => propext (by
      constructor
      · intro h
        have hv : v < ow.length := (hall v).1 ((Z.all v).2 (.inr h))
        exact ⟨hv, by rw [gw v hv, if_pos h]⟩
      · rintro ⟨hv, h⟩
        rw [gw v hv] at h
        split at h
        · assumption
        · omega)
    have e0 : bm w0 = fun v => v < ow.length ∧ ws.getD v 0 = 0 := funext fun v => propext (by
      constructor
      · intro h
        have hv : v < ow.length := (hall v).1 ((Z.all v).2 (.inl h))
        exact ⟨hv, by rw [gw v hv, if_neg (Z.dis v h)]⟩
      · rintro ⟨hv, h⟩
        rw [gw v hv] at h
        split at h
        · omega
        · rename_i q; exact ((Z.all v).1 ((hall v).2 hv)).resolve_right q)
    have hst : ∀ v, v < ow.length → ws.getD v 0 = ow.getD v 0 → stN ss v = stN st v := fun v hv h => by
      unfold stN; rw [gs v hv, if_pos h]
    have q0 := Z.p0
    have q1 := Z.p1
    rw [eD, e0] at q0
    rw [eD, e1] at q1
    have hL : SolL ow pr su ws ss := by
      refine ⟨lw, ls, ⟨fun v hv => ?_, q0.congr fun v hv h => hst v hv.1 (by rw [hv.2]; exact h.symm), q1.congr fun v hv h => hst v hv.1 (by rw [hv.2]; exact h.symm)⟩, fun v hv h => ?_, fun v hv h => by rw [gs v hv, if_neg h]⟩
      · show ws.getD v 0 = 0 ∨ ws.getD v 0 = 1
        rw [gw v hv]; split <;> simp
      · rw [gs v hv, if_pos h, List.getD, List.getElem?_eq_getElem (by omega : v < st.length)]
        exact Z.nn _ (List.getElem_mem _)
    simp only [PP, P1, P2, P3, P4, P5, P6, P7, P8, P9, P10, P11, P12, P13, P14, L1, P15, N1, N2, N3, N4, N5, N6, N7, I1, I2, I3, I4, I5, I6, I7, reduceIte, reduceCtorEq, d, frzI lw, frzI ls]
    exact ⟨_, PvWk.refl _, hk2 c1 ws ss hL⟩
end
end Go.Am.Ar
set_option linter.unusedVariables false
namespace Go.Am.Ar
theorem checkLoop_of {ow pr : List Int} {n : Nat} (hn : ow.length = n) : ∀ {su : List (List Int)} {k : Nat}, (∀ (i : Nat) (row : List Int), su[i]? = some row → 0 ≤ pr.getD (k + i) 0 ∧ pr.getD (k + i) 0 ≤ 16 ∧ ow.getD (k + i) 0 ≤ 1 ∧ 0 < row.length ∧ posM ow.length (-1) row = true) → checkLoop ow pr k su = 0
  | [], k, _ => rfl
  | row :: su, k, h => by
    obtain ⟨h1, h2, h3, h4, h5⟩ := h 0 row rfl
    unfold checkLoop
    rw [Nat.add_zero] at h1 h2 h3
    rw [if_neg (by omega), if_neg (by omega), if_neg (by omega), if_neg (by omega), if_neg (by simp [h5])]
    exact checkLoop_of hn fun i row hr => by rw [show k + 1 + i = k + (i + 1) by omega]; exact h (i + 1) row (by simpa using hr)
theorem check_of {ow pr : List Int} {su : List (List Int)} (V : Valid ow pr su) : checkM ow pr su = 0 := by
  have h1 := V.n0
  have h2 := V.n1
  have h3 := V.p
  have h4 := V.s
  unfold checkM
  rw [if_neg (by omega), if_neg (by omega), if_pos (by omega), if_pos (by omega)]
  refine checkLoop_of rfl fun i row hr => ?_
  have hi := getSome_lt hr
  have := V.row i hi
  rw [List.getElem?_eq_getElem hi] at hr
  cases hr
  rw [Nat.zero_add]
  exact this
structure Dual1 (ow pr : List Int) (su : List (List Int)) (ow' pr' : List Int) : Prop where
  v : Valid ow pr su
  v' : Valid ow' pr' su
  n : ow'.length = ow.length
  p : pr'.length = pr.length
  o : ∀ v, v < ow.length → 0 ≤ ow.getD v 0 ∧ ow.getD v 0 ≤ 1 ∧ ow'.getD v 0 = 1 - ow.getD v 0
  r : ∀ v, v < ow.length → 0 ≤ pr.getD v 0 ∧ pr'.getD v 0 = pr.getD v 0 + 1
theorem maxFrom_ge : ∀ {l : List Int} {m : Int}, m ≤ maxFrom m l ∧ ∀ x ∈ l, x ≤ maxFrom m l
  | [], m => ⟨Int.le_refl _, fun x h => by cases h⟩
  | y :: l, m => by
    obtain ⟨h1, h2⟩ := maxFrom_ge (l := l) (m := max m y)
    unfold maxFrom
    refine ⟨by omega, fun x hx => ?_⟩
    rcases List.mem_cons.1 hx with rfl | hx
    · omega
    · exact h2 x hx
theorem maxFrom_mem : ∀ {l : List Int} {m : Int}, maxFrom m l = m ∨ maxFrom m l ∈ l
  | [], m => .inl rfl
  | y :: l, m => by
    unfold maxFrom
    rcases maxFrom_mem (l := l) (m := max m y) with h | h
    · rcases Int.le_total m y with q | q
      · exact .inr (by rw [h, Int.max_eq_right q]; simp)
      · exact .inl (by rw [h, Int.max_eq_left q])
    · exact .inr (List.mem_cons_of_mem _ h)
theorem maxL_ge {l : List Int} : ∀ x ∈ l, x ≤ maxL l := by
  cases l with
  | nil => intro x h; cases h
  | cons y l =>
    intro x hx
    rcases List.mem_cons.1 hx with rfl | hx
    · exact maxFrom_ge.1
    · exact maxFrom_ge.2 x hx
theorem maxL_mem {l : List Int} (h : l ≠ []) : maxL l ∈ l := by
  cases l with
  | nil => exact absurd rfl h
  | cons y l =>
    show maxFrom y l ∈ _
    rcases maxFrom_mem (l := l) (m := y) with h | h
    · rw [h]; simp
    · exact List.mem_cons_of_mem _ h
theorem dual_of {ow pr : List Int} {su : List (List Int)} (V : Valid ow pr su) (ho : ∀ x ∈ ow, 0 ≤ x) (h16 : ¬ maxL pr = 16) : Dual1 ow pr su (dualO ow) (dualP pr) := by
  have hn : (dualO ow).length = ow.length := by simp [dualO]
  have hp : (dualP pr).length = pr.length := by simp [dualP]
  have hO : ∀ v, v < ow.length → 0 ≤ ow.getD v 0 ∧ ow.getD v 0 ≤ 1 ∧ (dualO ow).getD v 0 = 1 - ow.getD v 0 := by
    intro v hv
    have h1 := (V.row v (by rw [V.s]; exact hv)).2.2.1
    have h2 : 0 ≤ ow.getD v 0 := by
      rw [List.getD, List.getElem?_eq_getElem hv]; exact ho _ (List.getElem_mem hv)
    refine ⟨h2, h1, ?_⟩
    rw [List.getD, List.getD, dualO, List.getElem?_map, List.getElem?_eq_getElem hv]
    rw [List.getD, List.getElem?_eq_getElem hv] at h1 h2
    simp only [Option.map_some, Option.getD_some] at h1 h2 ⊢
    simp only [IntKind.wrap, IntKind.signed, IntKind.bits]
    simp
    omega
  have hR : ∀ v, v < ow.length → 0 ≤ pr.getD v 0 ∧ pr.getD v 0 < 16 ∧ (dualP pr).getD v 0 = pr.getD v 0 + 1 := by
    intro v hv
    have h1 := V.row v (by rw [V.s]; exact hv)
    have hvp : v < pr.length := by rw [V.p]; exact hv
    have h3 : pr.getD v 0 ≤ maxL pr := by
      rw [List.getD, List.getElem?_eq_getElem hvp]; exact maxL_ge _ (List.getElem_mem hvp)
    have h4 : maxL pr ≤ 16 := by
      have hm := maxL_mem (l := pr) (by intro e; rw [e] at hvp; simp at hvp)
      obtain ⟨i, hi⟩ := List.getElem?_of_mem hm
      have hil := getSome_lt hi
      have := (V.row i (by rw [V.s, ← V.p]; exact hil)).2.1
      rw [getD_some hi] at this
      exact this
    refine ⟨h1.1, by omega, ?_⟩
    rw [List.getD, List.getD, dualP, List.getElem?_map, List.getElem?_eq_getElem hvp]
    rw [List.getD, List.getElem?_eq_getElem hvp] at h3 h1
    simp only [Option.map_some, Option.getD_some] at h1 h3 ⊢
    exact wrap64 (by omega) (by omega)
  refine ⟨V, ⟨by rw [hn]; exact V.n0, by rw [hn]; exact V.n1, by rw [hp, hn]; exact V.p, by rw [hn]; exact V.s, fun i hi => ?_⟩, hn, hp, hO, fun v hv => ⟨(hR v hv).1, (hR v hv).2.2⟩⟩
  have hv : i < ow.length := by rw [← V.s]; exact hi
  obtain ⟨h1, h2, h3, h4, h5⟩ := V.row i hi
  have h6 := hO i hv
  have h7 := hR i hv
  exact ⟨by omega, by omega, by omega, h4, by rw [hn]; exact h5⟩
end Go.Am.Ar
set_option linter.unusedVariables false
set_option linter.unusedSimpArgs false
set_option maxRecDepth 10000
namespace Go.Am.Ar
open Go.Am renaming pchk → P1, pold → P2, PKNo → P3, ppack → P4, PObj.under → P5, pput → P6, ptset → P7, ptget → P8, pev → P9, ofAV → P10, ofAV1 → P11, ppad → P12, pfill → P13, prepl → P14, AO.effect → P15
open List renaming replicate → L1
open Nat renaming reduceAdd → N1, reduceSub → N2, reduceMul → N3, reduceLT → N4, reduceLeDiff → N5, reduceEqDiff → N6, reduceBEq → N7
open Int renaming reduceToNat → I1, reduceLT → I2, reduceLE → I3, reduceEq → I4, reduceAdd → I5, reduceSub → I6, reduceNeg → I7
theorem SemC_args {tab : FuncId → Option AF} {g : FuncId} {args args2 : List PV} {M : Mem} {K : PV → Mem → Prop} (h : ∀ w l, RepL w args l → RepL w args2 l) (hc : SemC tab g args2 M K) : SemC tab g args M K :=
  fun w hh args' h0 s ha => hc w hh args' h0 s (h w args' ha)
theorem valid_O {ow pr : List Int} {su : List (List Int)} (V : Valid ow pr su) (ho : ∀ x ∈ ow, 0 ≤ x) : ∀ v, v < ow.length → zO ow v = 0 ∨ zO ow v = 1 := fun v hv => by
  have h2 := (V.row v (by rw [V.s]; exact hv)).2.2.1
  have h3 : 0 ≤ ow.getD v 0 := by rw [List.getD, List.getElem?_eq_getElem hv]; exact ho _ (List.getElem_mem hv)
  show ow.getD v 0 = 0 ∨ ow.getD v 0 = 1
  omega
theorem valid_S {ow pr : List Int} {su : List (List Int)} (V : Valid ow pr su) : ∀ v, v < ow.length → Sf su v ≠ [] ∧ ∀ u ∈ Sf su v, u < ow.length := fun v hv => ⟨(Sf_ok V hv).1, (Sf_ok V hv).2.1⟩
theorem SolL.unique {ow pr : List Int} {su : List (List Int)} {ws ss : List Int} {w' : Nat → Int} {s' : Nat → Nat} (V : Valid ow pr su) (ho : ∀ x ∈ ow, 0 ≤ x) (L : SolL ow pr su ws ss) (h : IsSol ow.length (zO ow) (Sf su) (zP pr) w' s') : ∀ v, v < ow.length → ws.getD v 0 = w' v :=
  IsSol.unique (valid_O V ho) (fun v hv => (valid_S V v hv).2) L.sol h
theorem getD_ext {a b : List Int} (hl : a.length = b.length) (h : ∀ v, v < a.length → a.getD v 0 = b.getD v 0) : a = b := by
  apply List.ext_getElem hl
  intro v h1 h2
  have := h v h1
  rw [List.getD, List.getD, List.getElem?_eq_getElem h1, List.getElem?_eq_getElem h2] at this
  exact this
section
variable {tab : FuncId → Option AF} (T : HasA tab)
include T
theorem long0_p {M : Mem} {K : PV → Mem → Prop} {f1 o1 f2 o2 f3 o3 f4 o4 : Bool} {ow pr : List Int} {su : List (List Int)} (hq : K (.bool (longM ow pr su [])) M) :
    SemC tab 9 [gmP f1 o1 f2 o2 f3 o3 f4 o4 ow pr su, .nils] M K :=
  SemC_args (args2 := [gmP f1 o1 f2 o2 f3 o3 f4 o4 ow pr su, slR false false false false .i64 []]) (fun w l h => by
    match l, h with
    | [a, b], h => exact .cons h.hd (.cons (PvWk.nils false false 1 w b h.tl.hd) (.nil w))
    | [], h => exact absurd h.len (by simp)
    | [_], h => exact absurd h.len (by simp)
    | _ :: _ :: _ :: _, h => exact absurd h.len (by simp)) (long_p T (ls := []) (by show 0 < 1000000000000; omega) hq)
theorem bytes_p {M : Mem} {K : PV → Mem → Prop} {f o f' o' : Bool} {xs ys : List Int} (hm : xs.length < big) (hk : K (.bool (decide (xs = ys))) M) :
    SemC tab 17 [slI f o .u8 xs, slI f' o' .u8 ys] M K := by
  refine SemC_pure T.h17 (by simp only [PP, P1, P2, P3, P4, P5, P6, P7, P8, P9, P10, P11, P12, P13, P14, L1, P15, N1, N2, N3, N4, N5, N6, N7, I1, I2, I3, I4, I5, I6, I7, reduceIte, reduceCtorEq]) ?_
  simp only [af17, PP, P1, P2, P3, P4, P5, P6, P7, P8, P9, P10, P11, P12, P13, P14, L1, P15, N1, N2, N3, N4, N5, N6, N7, I1, I2, I3, I4, I5, I6, I7, reduceIte, reduceCtorEq]
  refine equalBytes_p T hm ?_
  simp only [PP, P1, P2, P3, P4, P5, P6, P7, P8, P9, P10, P11, P12, P13, P14, L1, P15, N1, N2, N3, N4, N5, N6, N7, I1, I2, I3, I4, I5, I6, I7, reduceIte, reduceCtorEq]
  exact hk
end
end Go.Am.Ar
set_option linter.unusedVariables false
set_option linter.unusedSimpArgs false
set_option maxRecDepth 10000
namespace Go.Am.Ar
open Go.Am renaming pchk → P1, pold → P2, PKNo → P3, ppack → P4, PObj.under → P5, pput → P6, ptset → P7, ptget → P8, pev → P9, ofAV → P10, ofAV1 → P11, ppad → P12, pfill → P13, prepl → P14, AO.effect → P15
open List renaming replicate → L1
open Nat renaming reduceAdd → N1, reduceSub → N2, reduceMul → N3, reduceLT → N4, reduceLeDiff → N5, reduceEqDiff → N6, reduceBEq → N7
open Int renaming reduceToNat → I1, reduceLT → I2, reduceLE → I3, reduceEq → I4, reduceAdd → I5, reduceSub → I6, reduceNeg → I7
def SolR (ow pr : List Int) (su : List (List Int)) (ws ss : List Int) (e : Int) : Prop :=
  (¬ checkM ow pr su = 0 ∧ e = checkM ow pr su ∧ ws = [] ∧ ss = []) ∨ (checkM ow pr su = 0 ∧ e = 0 ∧ SolL ow pr su ws ss)
theorem SolL.eq {ow pr : List Int} {su : List (List Int)} {ws ss ws' ss' : List Int} (V : Valid ow pr su) (ho : ∀ x ∈ ow, 0 ≤ x) (L : SolL ow pr su ws ss) (L' : SolL ow pr su ws' ss') : ws = ws' :=
  getD_ext (by rw [L.lw, L'.lw]) fun v hv => L.unique V ho L'.sol v (by rw [← L.lw]; exact hv)
theorem SolL.w01 {ow pr : List Int} {su : List (List Int)} {ws ss : List Int} (L : SolL ow pr su ws ss) : ∀ x ∈ ws, x = 0 ∨ x = 1 := fun x hx => by
  obtain ⟨i, hi⟩ := List.getElem?_of_mem hx
  have := L.sol.r01 i (by rw [← L.lw]; exact getSome_lt hi)
  simp only [getD_some hi] at this
  exact this
theorem SolR.w01 {ow pr : List Int} {su : List (List Int)} {ws ss : List Int} {e : Int} (h : SolR ow pr su ws ss e) : ∀ x ∈ ws, x = 0 ∨ x = 1 := by
  rcases h with ⟨_, _, rfl, _⟩ | ⟨_, _, L⟩
  · intro x h; cases h
  · exact L.w01
theorem SolR.len {ow pr : List Int} {su : List (List Int)} {ws ss : List Int} {e : Int} (h : SolR ow pr su ws ss e) : ws.length ≤ 4096 := by
  rcases h with ⟨_, _, rfl, _⟩ | ⟨c, _, L⟩
  · simp
  · rw [L.lw]; exact (valid_of c).n1
theorem SolR.eq {ow pr : List Int} {su : List (List Int)} {ws ss ws' ss' : List Int} {e e' : Int} (ho : ∀ x ∈ ow, 0 ≤ x) (h : SolR ow pr su ws ss e) (h' : SolR ow pr su ws' ss' e') : ws = ws' ∧ e = e' := by
  rcases h with ⟨c, he, rfl, _⟩ | ⟨c, he, L⟩ <;> rcases h' with ⟨c', he', rfl, _⟩ | ⟨c', he', L'⟩
  · exact ⟨rfl, by rw [he, he']⟩
  · exact absurd c' c
  · exact absurd c c'
  · exact ⟨L.eq (valid_of c) ho L', by rw [he, he']⟩
def wL (ws : List Int) (p : Int) (k : Nat) : List Nat := (List.range k).filter fun v => decide (ws.getD v 0 = p)
theorem wL_len (ws : List Int) (p : Int) (k : Nat) : (wL ws p k).length ≤ k := by
  have := List.length_filter_le (fun v => decide (ws.getD v 0 = p)) (List.range k)
  rwa [List.length_range] at this
theorem wL_succ (ws : List Int) (p : Int) (k : Nat) : wL ws p (k + 1) = wL ws p k ++ if ws.getD k 0 = p then [k] else [] := by
  unfold wL
  rw [List.range_succ, List.filter_append]
  by_cases h : ws.getD k 0 = p
  · rw [if_pos h, List.filter_cons, if_pos (decide_eq_true h)]; rfl
  · rw [if_neg h, List.filter_cons, if_neg (by simpa using h)]; rfl
theorem wL_mem {ws : List Int} {p : Int} {k v : Nat} : v ∈ wL ws p k ↔ v < k ∧ ws.getD v 0 = p := by simp [wL]
theorem wL_rise (ws : List Int) (p : Int) (n : Nat) : (natI (wL ws p n)).Pairwise (· < ·) ∧ ∀ x ∈ natI (wL ws p n), -1 < x ∧ x < n := by
  constructor
  · refine List.pairwise_map.2 (List.Pairwise.filter _ (List.Pairwise.imp (fun h => ?_) List.pairwise_lt_range))
    omega
  · intro x hx
    obtain ⟨w, hw, rfl⟩ := List.mem_map.1 hx
    have := (wL_mem.1 hw).1
    omega
section
variable {ow pr ws ss : List Int} {su : List (List Int)} {p : Int} (V : Valid ow pr su) (L : SolL ow pr su ws ss) (hp : p = 0 ∨ p = 1)
include V L hp
omit V in
theorem own_in {v : Nat} (hv : v ∈ wL ws p ow.length) (h : zO ow v = p) : stN ss v ∈ Sf su v ∧ stN ss v ∈ wL ws p ow.length := by
  have h1 := wL_mem.1 hv
  obtain ⟨q1, q2⟩ := (L.sol.of hp).own v h1 h
  exact ⟨q1, wL_mem.2 q2⟩
theorem opp_in {v : Nat} (hv : v ∈ wL ws p ow.length) (h : ¬ zO ow v = p) : ∀ u ∈ Sf su v, u ∈ wL ws p ow.length := fun u hu => by
  have h1 := wL_mem.1 hv
  exact wL_mem.2 ((L.sol.of hp).opp v h1 h u hu ((valid_S V v h1.1).2 u hu))
theorem some_in {v : Nat} (hv : v ∈ wL ws p ow.length) : ∃ u ∈ Sf su v, u ∈ wL ws p ow.length := by
  by_cases h : zO ow v = p
  · obtain ⟨q1, q2⟩ := own_in L hp hv h
    exact ⟨_, q1, q2⟩
  · have h1 := wL_mem.1 hv
    cases hs : Sf su v with
    | nil => exact absurd hs (valid_S V v h1.1).1
    | cons x l => exact ⟨x, by simp, opp_in V L hp hv h x (by rw [hs]; simp)⟩
end
def wonM (ws : List Int) (e : Int) (n : Int) (v pl : Int) : PV :=
  if e = 0 then (if v < 0 then .tuple [.bool false, p64 8] else if n ≤ v then .tuple [.bool false, p64 8] else if 1 < pl then .tuple [.bool false, p64 6] else .tuple [.bool (decide (ws.getD v.toNat 0 = pl)), p64 0]) else .tuple [.bool false, p64 e]
section
variable {tab : FuncId → Option AF} (T : HasA tab)
include T
theorem solve_q {M : Mem} {K : PV → Mem → Prop} {f1 p1 f2 p2 f3 p3 f4 p4 : Bool} {ow pr : List Int} {su : List (List Int)} (B : Bnd ow pr su) (ho : ∀ x ∈ ow, 0 ≤ x)
    (hk : ∀ ws ss e, SolR ow pr su ws ss e → K (solV ws ss e) M) : SemC tab 12 [gmP f1 p1 f2 p2 f3 p3 f4 p4 ow pr su] M K :=
  solve_p T B ho (fun c => hk [] [] _ (.inl ⟨c, rfl, rfl, rfl⟩)) (fun c ws ss L => hk ws ss 0 (.inr ⟨c, rfl, L⟩))
theorem regions_p {M : Mem} {K : PV → Mem → Prop} {f1 p1 f2 p2 f3 p3 f4 p4 : Bool} {ow pr : List Int} {su : List (List Int)} (B : Bnd ow pr su) (ho : ∀ x ∈ ow, 0 ≤ x)
    (hk : ∀ ws ss e, SolR ow pr su ws ss e → K (.tuple [slI false true .i64 (natI (wL ws 0 ws.length)), slI false true .i64 (natI (wL ws 1 ws.length)), p64 e]) M) :
    SemC tab 20 [gmP f1 p1 f2 p2 f3 p3 f4 p4 ow pr su] M K := by
  refine SemC_pure T.h20 (by simp only [PP, P1, P2, P3, P4, P5, P6, P7, P8, P9, P10, P11, P12, P13, P14, L1, P15, N1, N2, N3, N4, N5, N6, N7, I1, I2, I3, I4, I5, I6, I7, reduceIte, reduceCtorEq]) ?_
  simp only [af20, PP, P1, P2, P3, P4, P5, P6, P7, P8, P9, P10, P11, P12, P13, P14, L1, P15, N1, N2, N3, N4, N5, N6, N7, I1, I2, I3, I4, I5, I6, I7, reduceIte, reduceCtorEq]
  refine solve_q T B ho (fun ws ss e hR => ?_)
  have hk := hk ws ss e hR
  have hn := hR.len
  have h01 := hR.w01
  simp only [PP, P1, P2, P3, P4, P5, P6, P7, P8, P9, P10, P11, P12, P13, P14, L1, P15, N1, N2, N3, N4, N5, N6, N7, I1, I2, I3, I4, I5, I6, I7, reduceIte, reduceCtorEq]
  refine SemW_re (GStep.nilbox 2 0 1 rfl rfl rfl) ?_
  refine SemW_re (GStep.nilbox 2 1 1 rfl rfl rfl) ?_
  simp only [List.length_cons, List.length_nil, List.length_append, List.length_set, List.set_cons_zero, List.set_cons_succ, List.cons_append, List.nil_append, Nat.reduceAdd]
  refine loop4 (fun (k vv ga gb : Nat) => k ≤ ws.length)
    (fun k vv ga gb => [.junk, .junk, .junk, .junk, p64 e, .junk, .ptr 2 0 0, .junk, .junk, .junk, .junk, .junk, .junk, .junk, .junk, slI false true .u8 ws, p64 ws.length, p64 k, .junk, .junk, .junk, .junk, .junk, .junk, .junk, .junk, .junk, .junk, .junk, .junk, .junk, .junk, .junk, .junk, .junk, .junk])
    (fun k vv ga gb => [.cells 0 0 [slI f1 p1 .u8 ow, slI f2 p2 .i64 pr, slR f3 p3 f4 p4 .i64 su], .cells 0 1 [slI false true .u8 ws, slI false true .i64 ss], .cells 0 vv [.ref 3 ga 1 0 (wL ws 0 k).length, .ref 4 gb 1 0 (wL ws 1 k).length], .cells ga 0 ((natI (wL ws 0 k)).map (PV.int .i64)), .cells gb 0 ((natI (wL ws 1 k)).map (PV.int .i64))])
    (fun k _ _ _ => ws.length - k) 0 0 0 0 (by omega) (by simp only [PWeak_nil, PWeak_junk, PWeak_same, Int.cast_ofNat_Int, List.length_append, List.length_cons, List.length_nil, Nat.zero_add]) rfl ?_
  intro k vv ga gb hle ih
  refine SemW_go (by kernel_rfl) ?_
  simp only [PP, P1, P2, P3, P4, P5, P6, P7, P8, P9, P10, P11, P12, P13, P14, L1, P15, N1, N2, N3, N4, N5, N6, N7, I1, I2, I3, I4, I5, I6, I7, reduceIte, reduceCtorEq]
  refine QIf.intro (fun c => ?_) (fun c => ?_)
  · have hk' : k < ws.length := by omega
    have k0 : (0 : Int) ≤ k := by omega
    have hwk := wrap_succ (k := k) (by show _ < 1000000000000; omega)
    obtain ⟨x, g1⟩ := some_of (xs := ws) (k := k) hk'
    have ex : ws.getD k 0 = x := getD_some g1
    have s0 := wL_succ ws 0 k
    have s1 := wL_succ ws 1 k
    have l0 := wL_len ws 0 k
    have l1 := wL_len ws 1 k
    rw [ex] at s0 s1
    have b1 : ((wL ws 0 k).length + 1) * 8 ≤ 140737488355328 := by omega
    have b2 : (wL ws 0 k).length ≤ 9223372036854775806 := by omega
    have b3 : ((wL ws 1 k).length + 1) * 8 ≤ 140737488355328 := by omega
    have b4 : (wL ws 1 k).length ≤ 9223372036854775806 := by omega
    have ps : ∀ l : List Nat, psub ((natI l).map (PV.int .i64)) 0 l.length ++ [PV.int .i64 (k : Int)] = (natI (l ++ [k])).map (PV.int .i64) := fun l => by
      rw [psub_all _ _ (by simp)]; simp
    rcases h01 x (List.mem_of_getElem? g1) with rfl | rfl
    · rw [if_pos rfl] at s0
      rw [if_neg (by omega), List.append_nil] at s1
      simp only [PP, P1, P2, P3, P4, P5, P6, P7, P8, P9, P10, P11, P12, P13, P14, L1, P15, N1, N2, N3, N4, N5, N6, N7, I1, I2, I3, I4, I5, I6, I7, reduceIte, reduceCtorEq, c, k0, g1, b1, b2, hwk]
      refine SemW_to (ih (k + 1) (vv + 1) (ga + 1) gb (by omega) (by omega)) (by simp only [PWeak_nil, PWeak_junk, PWeak_same, Int.cast_ofNat_Int, List.length_append, List.length_cons, List.length_nil, Nat.zero_add]) (by rw [s0, s1, ← ps]; simp only [PP, P1, P2, P3, P4, P5, P6, P7, P8, P9, P10, P11, P12, P13, P14, L1, P15, N1, N2, N3, N4, N5, N6, N7, I1, I2, I3, I4, I5, I6, I7, reduceIte, reduceCtorEq])
    · rw [if_neg (by omega), List.append_nil] at s0
      rw [if_pos rfl] at s1
      simp only [PP, P1, P2, P3, P4, P5, P6, P7, P8, P9, P10, P11, P12, P13, P14, L1, P15, N1, N2, N3, N4, N5, N6, N7, I1, I2, I3, I4, I5, I6, I7, reduceIte, reduceCtorEq, c, k0, g1, b3, b4, hwk]
      refine SemW_to (ih (k + 1) (vv + 1) ga (gb + 1) (by omega) (by omega)) (by simp only [PWeak_nil, PWeak_junk, PWeak_same, Int.cast_ofNat_Int, List.length_append, List.length_cons, List.length_nil, Nat.zero_add]) (by rw [s0, s1, ← ps]; simp only [PP, P1, P2, P3, P4, P5, P6, P7, P8, P9, P10, P11, P12, P13, P14, L1, P15, N1, N2, N3, N4, N5, N6, N7, I1, I2, I3, I4, I5, I6, I7, reduceIte, reduceCtorEq])
  · have hkn : k = ws.length := by omega
    subst hkn
    simp only [PP, P1, P2, P3, P4, P5, P6, P7, P8, P9, P10, P11, P12, P13, P14, L1, P15, N1, N2, N3, N4, N5, N6, N7, I1, I2, I3, I4, I5, I6, I7, reduceIte, reduceCtorEq, c]
    rw [psub_all _ _ (by simp), psub_all _ _ (by simp)]
    simpa only [slI, List.length_map] using hk
theorem won_p {M : Mem} {K : PV → Mem → Prop} {f1 p1 f2 p2 f3 p3 f4 p4 : Bool} {ow pr : List Int} {su : List (List Int)} {v pl : Int} (B : Bnd ow pr su) (ho : ∀ x ∈ ow, 0 ≤ x)
    (hk : ∀ ws ss e, SolR ow pr su ws ss e → K (wonM ws e ow.length v pl) M) :
    SemC tab 21 [gmP f1 p1 f2 p2 f3 p3 f4 p4 ow pr su, p64 v, p8 pl] M K := by
  refine SemC_pure T.h21 (by simp only [PP, P1, P2, P3, P4, P5, P6, P7, P8, P9, P10, P11, P12, P13, P14, L1, P15, N1, N2, N3, N4, N5, N6, N7, I1, I2, I3, I4, I5, I6, I7, reduceIte, reduceCtorEq]) ?_
  simp only [af21, PP, P1, P2, P3, P4, P5, P6, P7, P8, P9, P10, P11, P12, P13, P14, L1, P15, N1, N2, N3, N4, N5, N6, N7, I1, I2, I3, I4, I5, I6, I7, reduceIte, reduceCtorEq]
  refine solve_q T B ho (fun ws ss e hR => ?_)
  have hq := hk ws ss e hR
  unfold wonM at hq
  simp only [PP, P1, P2, P3, P4, P5, P6, P7, P8, P9, P10, P11, P12, P13, P14, L1, P15, N1, N2, N3, N4, N5, N6, N7, I1, I2, I3, I4, I5, I6, I7, reduceIte, reduceCtorEq]
  refine QIf.intro (fun c1 => ?_) (fun c1 => ?_)
  rotate_left
  · simp only [PP, P1, P2, P3, P4, P5, P6, P7, P8, P9, P10, P11, P12, P13, P14, L1, P15, N1, N2, N3, N4, N5, N6, N7, I1, I2, I3, I4, I5, I6, I7, reduceIte, reduceCtorEq, c1] at hq ⊢
    exact hq
  simp only [PP, P1, P2, P3, P4, P5, P6, P7, P8, P9, P10, P11, P12, P13, P14, L1, P15, N1, N2, N3, N4, N5, N6, N7, I1, I2, I3, I4, I5, I6, I7, reduceIte, reduceCtorEq, c1] at hq ⊢
  refine QIf.intro (fun c2 => ?_) (fun c2 => ?_)
  · simp only [PP, P1, P2, P3, P4, P5, P6, P7, P8, P9, P10, P11, P12, P13, P14, L1, P15, N1, N2, N3, N4, N5, N6, N7, I1, I2, I3, I4, I5, I6, I7, reduceIte, reduceCtorEq, c2] at hq ⊢
    exact hq
  simp only [PP, P1, P2, P3, P4, P5, P6, P7, P8, P9, P10, P11, P12, P13, P14, L1, P15, N1, N2, N3, N4, N5, N6, N7, I1, I2, I3, I4, I5, I6, I7, reduceIte, reduceCtorEq, c2] at hq ⊢
  refine QIf.intro (fun c3 => ?_) (fun c3 => ?_)
  · simp only [PP, P1, P2, P3, P4, P5, P6, P7, P8, P9, P10, P11, P12, P13, P14, L1, P15, N1, N2, N3, N4, N5, N6, N7, I1, I2, I3, I4, I5, I6, I7, reduceIte, reduceCtorEq, c3] at hq ⊢
    exact hq
  simp only [PP, P1, P2, P3, P4, P5, P6, P7, P8, P9, P10, P11, P12, P13, P14, L1, P15, N1, N2, N3, N4, N5, N6, N7, I1, I2, I3, I4, I5, I6, I7, reduceIte, reduceCtorEq, c3] at hq ⊢
  refine QIf.intro (fun c4 => ?_) (fun c4 => ?_)
  · simp only [PP, P1, P2, P3, P4, P5, P6, P7, P8, P9, P10, P11, P12, P13, P14, L1, P15, N1, N2, N3, N4, N5, N6, N7, I1, I2, I3, I4, I5, I6, I7, reduceIte, reduceCtorEq, c4] at hq ⊢
    exact hq
  simp only [PP, P1, P2, P3, P4, P5, P6, P7, P8, P9, P10, P11, P12, P13, P14, L1, P15, N1, N2, N3, N4, N5, N6, N7, I1, I2, I3, I4, I5, I6, I7, reduceIte, reduceCtorEq, c4] at hq ⊢
  have hl : ws.length = ow.length := by
    rcases hR with ⟨q1, q2, _⟩ | ⟨_, _, L⟩
    · exact absurd (q2.symm.trans c1) q1
    · exact L.lw
  obtain ⟨x, g⟩ := some_of (xs := ws) (k := v.toNat) (by omega)
  have v0 : 0 ≤ v := by omega
  have v1 : v < ow.length := by omega
  rw [getD_some g] at hq
  simp only [PP, P1, P2, P3, P4, P5, P6, P7, P8, P9, P10, P11, P12, P13, P14, L1, P15, N1, N2, N3, N4, N5, N6, N7, I1, I2, I3, I4, I5, I6, I7, reduceIte, reduceCtorEq, hl, v0, v1, g]
  exact hq
end
end Go.Am.Ar
set_option linter.unusedVariables false
namespace Go.Am.Ar
def mT : List Nat → Nat
  | [] => 1
  | n :: ns => (n + 1) * mT ns
def mr : List Nat → List Int → Nat
  | n :: ns, c :: cs => c.toNat + (n + 1) * mr ns cs
  | _, _ => 0
def mOk : List Nat → List Int → Prop
  | n :: ns, c :: cs => 0 ≤ c ∧ c ≤ n ∧ mOk ns cs
  | [], [] => True
  | _, _ => False
theorem mT_pos : ∀ ns : List Nat, 0 < mT ns
  | [] => by decide
  | n :: ns => Nat.mul_pos (Nat.succ_pos _) (mT_pos ns)
theorem mOk_len : ∀ {ns : List Nat} {cs : List Int}, mOk ns cs → cs.length = ns.length
  | [], [], _ => rfl
  | n :: ns, c :: cs, h => by simp [mOk_len h.2.2]
  | [], _ :: _, h => h.elim
  | _ :: _, [], h => h.elim
theorem mr_lt : ∀ {ns : List Nat} {cs : List Int}, mOk ns cs → mr ns cs < mT ns
  | [], [], _ => by decide
  | n :: ns, c :: cs, ⟨h0, h1, h2⟩ => by
    have := mr_lt h2
    have h3 : (n + 1) * (mr ns cs + 1) ≤ (n + 1) * mT ns := Nat.mul_le_mul_left _ this
    rw [Nat.mul_add] at h3
    show c.toNat + (n + 1) * mr ns cs < (n + 1) * mT ns
    omega
  | [], _ :: _, h => h.elim
  | _ :: _, [], h => h.elim
theorem mr_inj : ∀ {ns : List Nat} {cs ds : List Int}, mOk ns cs → mOk ns ds → mr ns cs = mr ns ds → cs = ds
  | [], [], [], _, _, _ => rfl
  | n :: ns, c :: cs, d :: ds, ⟨h0, h1, h2⟩, ⟨g0, g1, g2⟩, e => by
    have e : c.toNat + (n + 1) * mr ns cs = d.toNat + (n + 1) * mr ns ds := e
    have e1 := congrArg (· % (n + 1)) e
    simp only [Nat.add_mul_mod_self_left] at e1
    rw [Nat.mod_eq_of_lt (by omega), Nat.mod_eq_of_lt (by omega)] at e1
    have e2 : (n + 1) * mr ns cs = (n + 1) * mr ns ds := by omega
    have e3 := Nat.eq_of_mul_eq_mul_left (Nat.succ_pos n) e2
    rw [mr_inj h2 g2 e3, show c = d by omega]
  | [], _ :: _, _, h, _, _ => h.elim
  | _ :: _, [], _, h, _, _ => h.elim
  | [], [], _ :: _, _, h, _ => h.elim
  | _ :: _, _ :: _, [], _, h, _ => h.elim
def mB (ns : List Nat) (q : Nat) : Nat := mT (ns.take q)
theorem mB_pos (ns : List Nat) (q : Nat) : 0 < mB ns q := mT_pos _
theorem mT_split : ∀ (ns : List Nat) (q : Nat), mT ns = mB ns q * mT (ns.drop q)
  | ns, 0 => by simp [mB, mT]
  | [], q + 1 => by simp [mB, mT]
  | n :: ns, q + 1 => by
    have h := mT_split ns q
    show (n + 1) * mT ns = (n + 1) * mT (ns.take q) * mT (ns.drop q)
    rw [h, Nat.mul_assoc]; rfl
theorem mB_succ {ns : List Nat} {q n : Nat} (h : ns[q]? = some n) : mB ns (q + 1) = mB ns q * (n + 1) := by
  induction ns generalizing q with
  | nil => simp at h
  | cons a ns ih =>
    cases q with
    | zero => simp at h; subst h; simp [mB, mT]
    | succ q =>
      have := ih (q := q) (by simpa using h)
      show (a + 1) * mB ns (q + 1) = (a + 1) * mB ns q * (n + 1)
      rw [this, Nat.mul_assoc]
theorem mB_dvd (ns : List Nat) : ∀ {q k : Nat}, q ≤ k → ∃ D, mB ns k = mB ns q * D ∧ 0 < D
  | q, 0, h => by
    have : q = 0 := by omega
    subst this; exact ⟨1, by simp, by decide⟩
  | q, k + 1, h => by
    by_cases e : q = k + 1
    · subst e; exact ⟨1, by simp, by decide⟩
    · obtain ⟨D, h1, h2⟩ := mB_dvd ns (q := q) (k := k) (by omega)
      cases hk : ns[k]? with
      | none =>
        have hl : ns.length ≤ k := by simpa using hk
        refine ⟨D, ?_, h2⟩
        rw [← h1]; unfold mB; rw [List.take_of_length_le (by omega), List.take_of_length_le (by omega)]
      | some n => exact ⟨D * (n + 1), by rw [mB_succ hk, h1, Nat.mul_assoc], Nat.mul_pos h2 (by omega)⟩
theorem mOk_drop : ∀ {ns : List Nat} {cs : List Int} (q : Nat), mOk ns cs → mOk (ns.drop q) (cs.drop q)
  | ns, cs, 0, h => by simpa using h
  | [], [], q + 1, h => by simpa using h
  | n :: ns, c :: cs, q + 1, h => by simpa using mOk_drop q h.2.2
  | [], _ :: _, _ + 1, h => h.elim
  | _ :: _, [], _ + 1, h => h.elim
theorem mr_div : ∀ {ns : List Nat} {cs : List Int} (q : Nat), mOk ns cs → mr ns cs / mB ns q = mr (ns.drop q) (cs.drop q)
  | ns, cs, 0, h => by simp [mB, mT]
  | [], [], q + 1, h => by simp [mB, mT, mr]
  | n :: ns, c :: cs, q + 1, ⟨h0, h1, h2⟩ => by
    show (c.toNat + (n + 1) * mr ns cs) / ((n + 1) * mB ns q) = mr (ns.drop q) (cs.drop q)
    rw [← Nat.div_div_eq_div_mul, Nat.add_mul_div_left _ _ (Nat.succ_pos n), Nat.div_eq_of_lt (show c.toNat < n.succ by show c.toNat < n + 1; omega), Nat.zero_add, mr_div q h2]
  | [], _ :: _, _ + 1, h => h.elim
  | _ :: _, [], _ + 1, h => h.elim
def mZ (q : Nat) (cs : List Int) : List Int := List.replicate q 0 ++ cs.drop q
theorem mr_zeros : ∀ (q : Nat) {ns : List Nat} {ds : List Int}, ds.length + q = ns.length → mr ns (List.replicate q 0 ++ ds) = mB ns q * mr (ns.drop q) ds
  | 0, ns, ds, h => by simp [mB, mT]
  | q + 1, [], ds, h => by simp at h
  | q + 1, n :: ns, ds, h => by
    show (0 : Int).toNat + (n + 1) * mr ns (List.replicate q 0 ++ ds) = (n + 1) * mB ns q * mr (ns.drop q) ds
    rw [mr_zeros q (by simp at h; omega), Nat.mul_assoc]; simp
theorem mOk_zeros : ∀ (q : Nat) {ns : List Nat} {ds : List Int}, q ≤ ns.length → mOk (ns.drop q) ds → mOk ns (List.replicate q 0 ++ ds)
  | 0, ns, ds, _, h => by simpa using h
  | q + 1, [], ds, h, _ => by simp at h
  | q + 1, n :: ns, ds, h, h2 => ⟨by decide, by omega, mOk_zeros q (by simpa using h) (by simpa using h2)⟩
theorem mr_mono : ∀ {ns : List Nat} {cs ds : List Int}, cs.length = ns.length → ds.length = ns.length → (∀ (k : Nat) (c d : Int), cs[k]? = some c → ds[k]? = some d → c ≤ d) → mr ns cs ≤ mr ns ds
  | [], cs, ds, h1, h2, _ => by simp [mr]
  | n :: ns, c :: cs, d :: ds, h1, h2, h => by
    have a := mr_mono (ns := ns) (cs := cs) (ds := ds) (by simpa using h1) (by simpa using h2) (fun k x y hx hy => h (k + 1) x y (by simpa using hx) (by simpa using hy))
    have b := h 0 c d rfl rfl
    have := Nat.mul_le_mul_left (n + 1) a
    show c.toNat + _ ≤ d.toNat + _
    omega
  | _ :: _, [], _, h, _, _ => by simp at h
  | _ :: _, _ :: _, [], _, h, _ => by simp at h
structure Ms where
  top : Bool
  c : List Int
  h : c.length = 8
def Ms.Ok (ns : List Nat) (x : Ms) : Prop := mOk ns x.c ∧ (x.top = true → x.c = List.replicate 8 0)
def Ms.num (ns : List Nat) (x : Ms) : Nat := if x.top = true then mT ns else mr ns x.c
def mz : Ms := ⟨false, List.replicate 8 0, by simp⟩
def mtop : Ms := ⟨true, List.replicate 8 0, by simp⟩
theorem Ms.ext' {x y : Ms} (h1 : x.top = y.top) (h2 : x.c = y.c) : x = y := by
  cases x; cases y; cases h1; cases h2; rfl
theorem mOk_rep : ∀ (ns : List Nat), mOk ns (List.replicate ns.length 0)
  | [] => trivial
  | n :: ns => ⟨by decide, by omega, mOk_rep ns⟩
theorem mr_rep : ∀ (ns : List Nat) (k : Nat), mr ns (List.replicate k 0) = 0
  | [], k => by simp [mr]
  | n :: ns, 0 => by simp [mr]
  | n :: ns, k + 1 => by
    show (0 : Int).toNat + (n + 1) * mr ns (List.replicate k 0) = 0
    rw [mr_rep ns k]; simp
section
variable {ns : List Nat}
theorem Ms.num_le {x : Ms} (h : x.Ok ns) : x.num ns ≤ mT ns := by
  unfold Ms.num
  split
  · exact Nat.le_refl _
  · exact Nat.le_of_lt (mr_lt h.1)
theorem Ms.num_top {x : Ms} (h : x.Ok ns) : x.num ns = mT ns ↔ x.top = true := by
  unfold Ms.num
  split
  · rename_i e; simp [e]
  · rename_i e; have := mr_lt h.1; simp [e]; omega
theorem Ms.inj {x y : Ms} (hx : x.Ok ns) (hy : y.Ok ns) (e : x.num ns = y.num ns) : x = y := by
  have h1 := Ms.num_top hx
  have h2 := Ms.num_top hy
  rw [e] at h1
  have h3 : x.top = true ↔ y.top = true := h1.symm.trans h2
  cases hxt : x.top with
  | true =>
    have hyt := h3.1 hxt
    exact Ms.ext' (by rw [hxt, hyt]) (by rw [hx.2 hxt, hy.2 hyt])
  | false =>
    have hyt : y.top = false := by
      cases q : y.top with
      | true => rw [h3.2 q] at hxt; cases hxt
      | false => rfl
    refine Ms.ext' (by rw [hxt, hyt]) (mr_inj hx.1 hy.1 ?_)
    simpa [Ms.num, hxt, hyt] using e
theorem mz_ok (h : ns.length = 8) : mz.Ok ns := ⟨by show mOk ns (List.replicate 8 0); rw [← h]; exact mOk_rep ns, fun h => by cases h⟩
theorem mtop_ok (h : ns.length = 8) : mtop.Ok ns := ⟨by show mOk ns (List.replicate 8 0); rw [← h]; exact mOk_rep ns, fun _ => rfl⟩
theorem mz_num : mz.num ns = 0 := by
  show (if false = true then _ else mr ns (List.replicate 8 0)) = 0
  rw [if_neg (by decide), mr_rep]
theorem mtop_num : mtop.num ns = mT ns := if_pos rfl
end
def cmpI (a b : Int) : Int := if a < b then -1 else if b < a then 1 else 0
def cmpC : List Int → List Int → Int
  | c :: cs, d :: ds => if cmpC cs ds = 0 then cmpI c d else cmpC cs ds
  | _, _ => 0
def cmpM (x y : Ms) : Int := if x.top = true then (if y.top = true then 0 else 1) else if y.top = true then -1 else cmpC x.c y.c
theorem cmpI_lt {a b : Int} (h : a < b) : cmpI a b = -1 := if_pos h
theorem cmpI_gt {a b : Int} (h : b < a) : cmpI a b = 1 := by unfold cmpI; rw [if_neg (by omega), if_pos h]
theorem cmpI_self (a : Int) : cmpI a a = 0 := by simp [cmpI]
theorem cmpI_zero {a b : Int} : cmpI a b = 0 ↔ a = b := by
  unfold cmpI; split
  · constructor <;> intro h <;> omega
  · split <;> constructor <;> intro h <;> omega
theorem cmpC_drop : ∀ {cs ds : List Int} (k : Nat), cmpC (cs.drop k) (ds.drop k) ≠ 0 → cmpC cs ds = cmpC (cs.drop k) (ds.drop k)
  | cs, ds, 0, _ => by simp
  | [], ds, k + 1, h => by simp [cmpC] at h
  | _ :: _, [], k + 1, h => by simp [cmpC] at h
  | c :: cs, d :: ds, k + 1, h => by
    have h : cmpC (cs.drop k) (ds.drop k) ≠ 0 := h
    have := cmpC_drop k h
    show (if cmpC cs ds = 0 then cmpI c d else cmpC cs ds) = cmpC (cs.drop k) (ds.drop k)
    rw [if_neg (by rw [this]; exact h), this]
theorem cmpC_at {cs ds : List Int} {k : Nat} {c d : Int} (hc : cs[k]? = some c) (hd : ds[k]? = some d) (h : cmpC (cs.drop (k + 1)) (ds.drop (k + 1)) = 0) : cmpC (cs.drop k) (ds.drop k) = cmpI c d := by
  obtain ⟨h1, e1⟩ := List.getElem?_eq_some_iff.1 hc
  obtain ⟨h2, e2⟩ := List.getElem?_eq_some_iff.1 hd
  rw [List.drop_eq_getElem_cons h1, List.drop_eq_getElem_cons h2]
  show (if cmpC _ _ = 0 then _ else _) = _
  rw [if_pos h, e1, e2]
theorem cmp_mr : ∀ {ns : List Nat} {cs ds : List Int}, mOk ns cs → mOk ns ds → cmpC cs ds = cmpI (mr ns cs) (mr ns ds)
  | [], [], [], _, _ => by simp [cmpC, cmpI, mr]
  | n :: ns, c :: cs, d :: ds, ⟨h0, h1, h2⟩, ⟨g0, g1, g2⟩ => by
    have ih := cmp_mr h2 g2
    show (if cmpC cs ds = 0 then cmpI c d else cmpC cs ds) = cmpI ((c.toNat + (n + 1) * mr ns cs : Nat) : Int) ((d.toNat + (n + 1) * mr ns ds : Nat) : Int)
    rw [ih]
    split
    · rename_i e
      rw [cmpI_zero] at e
      have e : mr ns cs = mr ns ds := by omega
      rw [e]
      rcases Int.lt_trichotomy c d with q | q | q
      · rw [cmpI_lt q, cmpI_lt (by omega)]
      · rw [q, cmpI_self, cmpI_self]
      · rw [cmpI_gt q, cmpI_gt (by omega)]
    · rename_i e
      rw [cmpI_zero] at e
      by_cases q1 : mr ns cs < mr ns ds
      · have := Nat.mul_le_mul_left (n + 1) (show mr ns cs + 1 ≤ mr ns ds by omega)
        rw [Nat.mul_add] at this
        rw [cmpI_lt (by omega), cmpI_lt (by omega)]
      · have := Nat.mul_le_mul_left (n + 1) (show mr ns ds + 1 ≤ mr ns cs by omega)
        rw [Nat.mul_add] at this
        rw [cmpI_gt (by omega), cmpI_gt (by omega)]
  | [], _ :: _, _, h, _ => h.elim
  | _ :: _, [], _, h, _ => h.elim
  | [], [], _ :: _, _, h => h.elim
  | _ :: _, _ :: _, [], _, h => h.elim
theorem cmp_num {ns : List Nat} {x y : Ms} (hx : x.Ok ns) (hy : y.Ok ns) : cmpM x y = cmpI (x.num ns) (y.num ns) := by
  have h1 := mr_lt hx.1
  have h2 := mr_lt hy.1
  unfold cmpM Ms.num
  split
  · split
    · rw [cmpI_self]
    · rw [cmpI_gt (by omega)]
  · split
    · rw [cmpI_lt (by omega)]
    · exact cmp_mr hx.1 hy.1
theorem cmpI_pos {a b : Int} : 0 < cmpI a b ↔ b < a := by
  unfold cmpI; split
  · constructor <;> intro h <;> omega
  · split <;> constructor <;> intro h <;> omega
theorem cmpI_neg {a b : Int} : cmpI a b < 0 ↔ a < b := by
  unfold cmpI; split
  · constructor <;> intro h <;> omega
  · split <;> constructor <;> intro h <;> omega
theorem cmpI_swap (a b : Int) : cmpI b a = - cmpI a b := by
  rcases Int.lt_trichotomy a b with q | q | q
  · rw [cmpI_lt q, cmpI_gt q]; rfl
  · rw [q, cmpI_self]; rfl
  · rw [cmpI_lt q, cmpI_gt q]
def vN (ns : List Nat) (p x : Nat) : Nat := min (mT ns) ((x / mB ns (p / 2) + p % 2) * mB ns (p / 2))
section
variable {ns : List Nat}
theorem vN_le (p x : Nat) : vN ns p x ≤ mT ns := Nat.min_le_left _ _
theorem vN_mono {p x y : Nat} (h : x ≤ y) : vN ns p x ≤ vN ns p y := by
  unfold vN
  have h1 := Nat.div_le_div_right (c := mB ns (p / 2)) h
  have h2 := Nat.mul_le_mul_right (mB ns (p / 2)) (Nat.add_le_add_right h1 (p % 2))
  omega
theorem vN_top (p : Nat) : vN ns p (mT ns) = mT ns := by
  unfold vN
  have h := mT_split ns (p / 2)
  have e : mT ns / mB ns (p / 2) = mT (ns.drop (p / 2)) := by
    rw [h, Nat.mul_div_cancel_left _ (mB_pos _ _)]
  rw [e, Nat.add_mul, Nat.mul_comm (mT (ns.drop (p / 2)))]
  omega
theorem div_lt_drop {q x : Nat} (h : x < mT ns) : x / mB ns q < mT (ns.drop q) := by
  rw [Nat.div_lt_iff_lt_mul (mB_pos _ _), Nat.mul_comm, ← mT_split]; exact h
theorem vN_of {p x : Nat} (h : x < mT ns) : vN ns p x = (x / mB ns (p / 2) + p % 2) * mB ns (p / 2) := by
  unfold vN
  have h1 := div_lt_drop (q := p / 2) h
  have h2 : (x / mB ns (p / 2) + p % 2) * mB ns (p / 2) ≤ mT (ns.drop (p / 2)) * mB ns (p / 2) := Nat.mul_le_mul_right _ (by have := Nat.mod_lt p (show 0 < 2 by decide); omega)
  rw [Nat.mul_comm (mT _), ← mT_split] at h2
  omega
theorem vN_tr {p x k : Nat} (h : x < mT ns) (hk : p / 2 ≤ k) : x / mB ns k ≤ vN ns p x / mB ns k ∧ (p % 2 = 1 → p / 2 = k → x / mB ns k < vN ns p x / mB ns k) := by
  rw [vN_of h]
  obtain ⟨D, e, hD⟩ := mB_dvd ns hk
  constructor
  · rw [e, ← Nat.div_div_eq_div_mul, ← Nat.div_div_eq_div_mul, Nat.mul_div_cancel _ (mB_pos _ _)]
    exact Nat.div_le_div_right (by omega)
  · intro h1 h2
    rw [← h2, Nat.mul_div_cancel _ (mB_pos _ _)]
    omega
theorem drop_get {α : Type} {l : List α} {q : Nat} {x : α} (h : l[q]? = some x) : l.drop q = x :: l.drop (q + 1) := by
  obtain ⟨h1, e⟩ := List.getElem?_eq_some_iff.1 h
  rw [List.drop_eq_getElem_cons h1, e]
theorem vN_pt {p : Nat} {cs ds : List Int} (h1 : mOk ns cs) (h2 : mOk ns ds) (hp : p / 2 ≤ ns.length) (hp2 : p % 2 = 1 → p / 2 < ns.length) (h : ∀ (k : Nat) (c d : Int), p / 2 ≤ k → cs[k]? = some c → ds[k]? = some d → c ≤ d) (hs : p % 2 = 1 → ∀ (c d : Int), cs[p / 2]? = some c → ds[p / 2]? = some d → c < d) :
    vN ns p (mr ns cs) ≤ mr ns ds := by
  rw [vN_of (mr_lt h1), mr_div _ h1]
  have l1 := mOk_len h1
  have l2 := mOk_len h2
  have e2 := mr_div (p / 2) h2
  have key : mr (ns.drop (p / 2)) (cs.drop (p / 2)) + p % 2 ≤ mr (ns.drop (p / 2)) (ds.drop (p / 2)) := by
    by_cases hq : p / 2 = ns.length
    · have : ¬ p % 2 = 1 := fun e => by have := hp2 e; omega
      rw [hq, List.drop_of_length_le (Nat.le_refl _)]
      simp only [mr]; omega
    have hp : p / 2 < ns.length := by omega
    obtain ⟨n, gn⟩ : ∃ n, ns[p / 2]? = some n := ⟨_, List.getElem?_eq_getElem hp⟩
    obtain ⟨c, gc⟩ : ∃ c, cs[p / 2]? = some c := ⟨_, List.getElem?_eq_getElem (by omega)⟩
    obtain ⟨d, gd⟩ : ∃ d, ds[p / 2]? = some d := ⟨_, List.getElem?_eq_getElem (by omega)⟩
    rw [drop_get gn, drop_get gc, drop_get gd]
    have a := mr_mono (ns := ns.drop (p / 2 + 1)) (cs := cs.drop (p / 2 + 1)) (ds := ds.drop (p / 2 + 1)) (by simp [l1]) (by simp [l2]) (fun k x y hx hy => h (p / 2 + 1 + k) x y (by omega) (by rw [List.getElem?_drop] at hx; exact hx) (by rw [List.getElem?_drop] at hy; exact hy))
    have a2 := Nat.mul_le_mul_left (n + 1) a
    have b := h _ c d (Nat.le_refl _) gc gd
    have c0 : 0 ≤ c := by
      have := mOk_drop (p / 2) h1
      rw [drop_get gn, drop_get gc] at this; exact this.1
    show c.toNat + (n + 1) * mr (ns.drop (p / 2 + 1)) (cs.drop (p / 2 + 1)) + p % 2 ≤ d.toNat + (n + 1) * mr (ns.drop (p / 2 + 1)) (ds.drop (p / 2 + 1))
    rcases Nat.mod_two_eq_zero_or_one p with e | e
    · omega
    · have := hs e c d gc gd
      omega
  have h3 := Nat.mul_le_mul_right (mB ns (p / 2)) key
  have h4 := Nat.div_mul_le_self (mr ns ds) (mB ns (p / 2))
  rw [e2] at h4
  omega
end
def vMin (f : Nat → Nat) : List Nat → Nat
  | [] => 0
  | [a] => f a
  | a :: b :: l => min (f a) (vMin f (b :: l))
def vMax (f : Nat → Nat) : List Nat → Nat
  | [] => 0
  | a :: l => max (f a) (vMax f l)
theorem vMin_mem {f : Nat → Nat} : ∀ {l : List Nat}, l ≠ [] → ∃ u ∈ l, vMin f l = f u
  | [], h => absurd rfl h
  | [a], _ => ⟨a, by simp, rfl⟩
  | a :: b :: l, _ => by
    obtain ⟨u, h1, h2⟩ := vMin_mem (f := f) (l := b :: l) (by simp)
    show ∃ u ∈ a :: b :: l, min (f a) (vMin f (b :: l)) = f u
    rcases Nat.le_total (f a) (vMin f (b :: l)) with h | h
    · exact ⟨a, by simp, Nat.min_eq_left h⟩
    · exact ⟨u, List.mem_cons_of_mem _ h1, by rw [Nat.min_eq_right h, h2]⟩
theorem vMin_le {f : Nat → Nat} : ∀ {l : List Nat} {u : Nat}, u ∈ l → vMin f l ≤ f u
  | [a], u, h => by rw [List.mem_singleton] at h; subst h; exact Nat.le_refl _
  | a :: b :: l, u, h => by
    show min (f a) (vMin f (b :: l)) ≤ f u
    rcases List.mem_cons.1 h with e | h
    · subst e; exact Nat.min_le_left _ _
    · exact Nat.le_trans (Nat.min_le_right _ _) (vMin_le h)
theorem vMax_mem {f : Nat → Nat} : ∀ {l : List Nat}, l ≠ [] → ∃ u ∈ l, vMax f l = f u
  | [], h => absurd rfl h
  | [a], _ => ⟨a, by simp, by simp [vMax]⟩
  | a :: b :: l, _ => by
    obtain ⟨u, h1, h2⟩ := vMax_mem (f := f) (l := b :: l) (by simp)
    show ∃ u ∈ a :: b :: l, max (f a) (vMax f (b :: l)) = f u
    rcases Nat.le_total (f a) (vMax f (b :: l)) with h | h
    · exact ⟨u, List.mem_cons_of_mem _ h1, by rw [Nat.max_eq_right h, h2]⟩
    · exact ⟨a, by simp, Nat.max_eq_left h⟩
theorem vMax_ge {f : Nat → Nat} : ∀ {l : List Nat} {u : Nat}, u ∈ l → f u ≤ vMax f l
  | a :: l, u, h => by
    show f u ≤ max (f a) (vMax f l)
    rcases List.mem_cons.1 h with e | h
    · subst e; exact Nat.le_max_left _ _
    · exact Nat.le_trans (vMax_ge h) (Nat.le_max_right _ _)
theorem vMin_eq {f : Nat → Nat} {l : List Nat} {y : Nat} (h1 : ∃ u ∈ l, y = f u) (h2 : ∀ u ∈ l, y ≤ f u) : y = vMin f l := by
  obtain ⟨u, hu, e⟩ := h1
  obtain ⟨w, hw, e2⟩ := vMin_mem (f := f) (l := l) (fun q => by rw [q] at hu; cases hu)
  have := vMin_le (f := f) hu
  have := h2 w hw
  omega
theorem vMax_eq {f : Nat → Nat} {l : List Nat} {y : Nat} (h1 : ∃ u ∈ l, y = f u) (h2 : ∀ u ∈ l, f u ≤ y) : y = vMax f l := by
  obtain ⟨u, hu, e⟩ := h1
  obtain ⟨w, hw, e2⟩ := vMax_mem (f := f) (l := l) (fun q => by rw [q] at hu; cases hu)
  have := vMax_ge (f := f) hu
  have := h2 w hw
  omega
def lN (ns : List Nat) (O : Nat → Int) (S : Nat → List Nat) (R : Nat → Int) (m : Nat → Nat) (v : Nat) : Nat :=
  if O v = 0 then vMin (fun u => vN ns (R v).toNat (m u)) (S v) else vMax (fun u => vN ns (R v).toNat (m u)) (S v)
def updN (m : Nat → Nat) (v x : Nat) : Nat → Nat := fun u => if u = v then x else m u
structure Lft (n T : Nat) (L : (Nat → Nat) → Nat → Nat) : Prop where
  bnd : ∀ m v, v < n → L m v ≤ T
  mono : ∀ m m' v, v < n → (∀ u, u < n → m u ≤ m' u) → L m v ≤ L m' v
def PreF (n : Nat) (L : (Nat → Nat) → Nat → Nat) (m : Nat → Nat) : Prop := ∀ v, v < n → L m v ≤ m v
structure LI (n T : Nat) (L : (Nat → Nat) → Nat → Nat) (m : Nat → Nat) : Prop where
  bnd : ∀ v, v < n → m v ≤ T
  up : ∀ v, v < n → m v ≤ L m v
  low : ∀ m', PreF n L m' → ∀ v, v < n → m v ≤ m' v
theorem lN_lft {n : Nat} {ns : List Nat} {O : Nat → Int} {S : Nat → List Nat} {R : Nat → Int} (hS : ∀ v, v < n → S v ≠ [] ∧ ∀ u ∈ S v, u < n) : Lft n (mT ns) (lN ns O S R) where
  bnd := fun m v hv => by
    unfold lN
    split
    · obtain ⟨u, _, e⟩ := vMin_mem (f := fun u => vN ns (R v).toNat (m u)) (hS v hv).1
      rw [e]; exact vN_le _ _
    · obtain ⟨u, _, e⟩ := vMax_mem (f := fun u => vN ns (R v).toNat (m u)) (hS v hv).1
      rw [e]; exact vN_le _ _
  mono := fun m m' v hv h => by
    unfold lN
    split
    · obtain ⟨u, hu, e⟩ := vMin_mem (f := fun u => vN ns (R v).toNat (m' u)) (hS v hv).1
      rw [e]
      exact Nat.le_trans (vMin_le hu) (vN_mono (h u ((hS v hv).2 u hu)))
    · obtain ⟨u, hu, e⟩ := vMax_mem (f := fun u => vN ns (R v).toNat (m u)) (hS v hv).1
      rw [e]
      exact Nat.le_trans (vN_mono (h u ((hS v hv).2 u hu))) (vMax_ge (f := fun u => vN ns (R v).toNat (m' u)) hu)
section
variable {n T : Nat} {L : (Nat → Nat) → Nat → Nat} {m : Nat → Nat}
theorem LI.zero (hL : Lft n T L) : LI n T L fun _ => 0 := ⟨fun _ _ => Nat.zero_le _, fun _ _ => Nat.zero_le _, fun _ _ _ _ => Nat.zero_le _⟩
theorem LI.step (hL : Lft n T L) (h : LI n T L m) {v : Nat} (hv : v < n) : LI n T L (updN m v (L m v)) := by
  have le : ∀ u, u < n → m u ≤ updN m v (L m v) u := fun u hu => by
    unfold updN; split
    · rename_i e; subst e; exact h.up u hu
    · exact Nat.le_refl _
  refine ⟨fun u hu => ?_, fun u hu => ?_, fun m' hm u hu => ?_⟩
  · unfold updN; split
    · exact hL.bnd _ _ hv
    · exact h.bnd u hu
  · have := hL.mono m _ u hu le
    show (if u = v then L m v else m u) ≤ _
    split
    · rename_i e; subst e; exact this
    · exact Nat.le_trans (h.up u hu) this
  · unfold updN; split
    · rename_i e; subst e
      exact Nat.le_trans (hL.mono m m' u hu (h.low m' hm)) (hm u hu)
    · exact h.low m' hm u hu
theorem LI.unique {m' : Nat → Nat} (h : LI n T L m) (hp : PreF n L m) (h' : LI n T L m') (hp' : PreF n L m') : ∀ v, v < n → m v = m' v := fun v hv => Nat.le_antisymm (h.low m' hp' v hv) (h'.low m hp v hv)
def sumN : Nat → (Nat → Nat) → Nat
  | 0, _ => 0
  | n + 1, m => sumN n m + m n
theorem sumN_le : ∀ {n : Nat} {m : Nat → Nat}, (∀ v, v < n → m v ≤ T) → sumN n m ≤ n * T
  | 0, _, _ => by simp [sumN]
  | n + 1, m, h => by
    have := sumN_le (n := n) (m := m) (fun v hv => h v (by omega))
    have := h n (by omega)
    show sumN n m + m n ≤ (n + 1) * T
    rw [Nat.add_mul]; omega
theorem sumN_congr : ∀ {n : Nat} {m m' : Nat → Nat}, (∀ v, v < n → m v = m' v) → sumN n m = sumN n m'
  | 0, _, _, _ => rfl
  | n + 1, m, m', h => by
    show sumN n m + m n = sumN n m' + m' n
    rw [sumN_congr (fun v hv => h v (by omega)), h n (by omega)]
theorem sumN_upd : ∀ {n : Nat} {m : Nat → Nat} {v x : Nat}, v < n → m v < x → sumN n m < sumN n (updN m v x)
  | 0, _, _, _, h, _ => by omega
  | n + 1, m, v, x, h, hx => by
    show sumN n m + m n < sumN n (updN m v x) + updN m v x n
    by_cases e : v = n
    · subst e
      rw [sumN_congr (n := v) (m := updN m v x) (m' := m) (fun u hu => by unfold updN; rw [if_neg (by omega)])]
      unfold updN; rw [if_pos rfl]; omega
    · have := sumN_upd (n := n) (m := m) (v := v) (x := x) (by omega) hx
      have e2 : updN m v x n = m n := by unfold updN; rw [if_neg (by omega)]
      omega
def FstN (n : Nat) (L : (Nat → Nat) → Nat → Nat) (m : Nat → Nat) (v : Nat) : Prop := v < n ∧ m v < L m v ∧ ∀ u, u < v → L m u ≤ m u
theorem FstN.eq {v u : Nat} (h : FstN n L m v) (k : FstN n L m u) : v = u := by
  rcases Nat.lt_trichotomy v u with q | q | q
  · have := k.2.2 v q; have := h.2.1; omega
  · exact q
  · have := h.2.2 u q; have := k.2.1; omega
open Classical in
noncomputable def stpN (n : Nat) (L : (Nat → Nat) → Nat → Nat) (m : Nat → Nat) : Nat → Nat :=
  if h : ∃ v, FstN n L m v then updN m (Classical.choose h) (L m (Classical.choose h)) else m
theorem stpN_of {v : Nat} (h : FstN n L m v) : stpN n L m = updN m v (L m v) := by
  unfold stpN
  have q : ∃ v, FstN n L m v := ⟨v, h⟩
  rw [dif_pos q, (Classical.choose_spec q).eq h]
theorem stpN_pre (h : PreF n L m) : stpN n L m = m := by
  unfold stpN
  rw [dif_neg]
  rintro ⟨v, h1, h2, _⟩
  have := h v h1; omega
noncomputable def itN (n : Nat) (L : (Nat → Nat) → Nat → Nat) : Nat → Nat → Nat
  | 0 => fun _ => 0
  | k + 1 => stpN n L (itN n L k)
theorem itN_li (hL : Lft n T L) : ∀ k, LI n T L (itN n L k)
  | 0 => LI.zero hL
  | k + 1 => by
    have ih := itN_li hL k
    by_cases h : ∃ v, FstN n L (itN n L k) v
    · obtain ⟨v, hv⟩ := h
      show LI n T L (stpN n L (itN n L k))
      rw [stpN_of hv]; exact ih.step hL hv.1
    · show LI n T L (stpN n L (itN n L k))
      unfold stpN; rw [dif_neg h]; exact ih
theorem itN_fix {k : Nat} (h : PreF n L (itN n L k)) : ∀ d, itN n L (k + d) = itN n L k
  | 0 => rfl
  | d + 1 => by
    show stpN n L (itN n L (k + d)) = _
    rw [itN_fix h d, stpN_pre h]
end
end Go.Am.Ar
