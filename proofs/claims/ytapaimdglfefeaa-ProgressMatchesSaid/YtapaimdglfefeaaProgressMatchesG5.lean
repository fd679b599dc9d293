/- The law that compares progress measures with the reference, and what goes with it. -/
import Derived.Test.YtapaimdglfefeaaProgressMatchesG4
import Derived.Test.YtapaimdglfefeaaProgressMatchesG0
import Derived.Test.YtapaimdglfefeaaPmL
set_option linter.unusedVariables false
set_option linter.unusedSimpArgs false
set_option maxRecDepth 10000
namespace Go.Am.Ar
open Go.Am renaming pchk → P1, pold → P2, PKNo → P3, ppack → P4, PObj.under → P5, pput → P6, ptset → P7, ptget → P8, pev → P9, ofAV → P10, ofAV1 → P11, ppad → P12, pfill → P13, prepl → P14, AO.effect → P15
open List renaming replicate → L1
open Nat renaming reduceAdd → N1, reduceSub → N2, reduceMul → N3, reduceLT → N4, reduceLeDiff → N5, reduceEqDiff → N6, reduceBEq → N7
open Int renaming reduceToNat → I1, reduceLT → I2, reduceLE → I3, reduceEq → I4, reduceAdd → I5, reduceSub → I6, reduceNeg → I7
theorem winM31_nil : winM31 [] = [] := rfl
theorem strM_nil (ow pr : List Int) (su : List (List Int)) : strM ow pr su [] = [] := rfl
theorem winM31_len (ms : List Ms) : (winM31 ms).length = ms.length := by simp [winM31]
theorem strM_len (ow pr : List Int) (su : List (List Int)) (ms : List Ms) : (strM ow pr su ms).length = ms.length := tabA_len _ _
theorem MeasA.ok {ow pr : List Int} {su : List (List Int)} {ms : List Ms} {e : Int} (h : MeasA ow pr su ms e) (c1 : checkM ow pr su = 0) : e = 0 ∧ LeastM ow pr su ms := by
  rcases h with ⟨a, _⟩ | ⟨_, b, d⟩
  · exact absurd c1 a
  · exact ⟨b, d⟩
theorem MeasA.no {ow pr : List Int} {su : List (List Int)} {ms : List Ms} {e : Int} (h : MeasA ow pr su ms e) (c1 : ¬ checkM ow pr su = 0) : ms = [] ∧ e = checkM ow pr su := by
  rcases h with ⟨_, b, d⟩ | ⟨a, _⟩
  · exact ⟨b, d⟩
  · exact absurd a c1
theorem LeastM.fit {ow pr : List Int} {su : List (List Int)} {ms : List Ms} (V : Valid ow pr su) (h : StOk (limL pr) ow.length ms) : ∀ x ∈ ms, x.fit := fun x hx => (h.ok x hx).fit (limL_lt (valid_pr V).1)
section
variable {tab : FuncId → Option AF} (T : HasA tab)
include T
set_option maxHeartbeats 2000000 in
theorem pmatches_p {ow pr : List Int} {su : List (List Int)} {n : Int} (ho : ∀ x ∈ ow, 0 ≤ x) (n2 : n ≤ 9223372036854775807) :
    SemC tab 4 [gmP false false false false false false false false ow pr su, p64 n] [] fun r _ => r = .bool true := by
  refine SemC_fn T.h4 ?_
  simp only [af4, PP, P1, P2, P3, P4, P5, P6, P7, P8, P9, P10, P11, P12, P13, P14, L1, P15, N1, N2, N3, N4, N5, N6, N7, I1, I2, I3, I4, I5, I6, I7, reduceIte, reduceCtorEq]
  refine long31_p T (fun b hb => ?_)
  cases b with
  | true =>
    simp only [PP, P1, P2, P3, P4, P5, P6, P7, P8, P9, P10, P11, P12, P13, P14, L1, P15, N1, N2, N3, N4, N5, N6, N7, I1, I2, I3, I4, I5, I6, I7, reduceIte, reduceCtorEq]
    refine SemC_true T.awake ?_
    simp only [PP, P1, P2, P3, P4, P5, P6, P7, P8, P9, P10, P11, P12, P13, P14, L1, P15, N1, N2, N3, N4, N5, N6, N7, I1, I2, I3, I4, I5, I6, I7, reduceIte, reduceCtorEq]
  | false =>
    obtain ⟨hl, h12, hT⟩ := hb rfl
    have S := longM_false hl
    have B := S.bnd
    simp only [PP, P1, P2, P3, P4, P5, P6, P7, P8, P9, P10, P11, P12, P13, P14, L1, P15, N1, N2, N3, N4, N5, N6, N7, I1, I2, I3, I4, I5, I6, I7, reduceIte, reduceCtorEq]
    refine copyGame_p T B ?_
    simp only [PP, P1, P2, P3, P4, P5, P6, P7, P8, P9, P10, P11, P12, P13, P14, L1, P15, N1, N2, N3, N4, N5, N6, N7, I1, I2, I3, I4, I5, I6, I7, reduceIte, reduceCtorEq]
    refine measures_p T B (fun m e1 hA1 => ?_)
    simp only [PP, P1, P2, P3, P4, P5, P6, P7, P8, P9, P10, P11, P12, P13, P14, L1, P15, N1, N2, N3, N4, N5, N6, N7, I1, I2, I3, I4, I5, I6, I7, reduceIte, reduceCtorEq]
    refine winners31_p T B (fun m2 e2 hA2 => ?_)
    obtain ⟨rfl, rfl⟩ := hA1.eq hA2
    simp only [PP, P1, P2, P3, P4, P5, P6, P7, P8, P9, P10, P11, P12, P13, P14, L1, P15, N1, N2, N3, N4, N5, N6, N7, I1, I2, I3, I4, I5, I6, I7, reduceIte, reduceCtorEq]
    refine strategy31_p T B (fun m3 e3 hA3 => ?_)
    obtain ⟨rfl, rfl⟩ := hA1.eq hA3
    simp only [PP, P1, P2, P3, P4, P5, P6, P7, P8, P9, P10, P11, P12, P13, P14, L1, P15, N1, N2, N3, N4, N5, N6, N7, I1, I2, I3, I4, I5, I6, I7, reduceIte, reduceCtorEq]
    refine after_p T B n2 (fun a done e4 hA => ?_)
    simp only [PP, P1, P2, P3, P4, P5, P6, P7, P8, P9, P10, P11, P12, P13, P14, L1, P15, N1, N2, N3, N4, N5, N6, N7, I1, I2, I3, I4, I5, I6, I7, reduceIte, reduceCtorEq]
    refine refCheck_p T B ?_
    by_cases c1 : checkM ow pr su = 0
    rotate_left
    · obtain ⟨rfl, rfl⟩ := hA1.no c1
      rcases hA with ⟨_, rfl, rfl, rfl⟩ | ⟨c2, _⟩ | ⟨c2, _⟩
      rotate_left
      · exact absurd c2 c1
      · exact absurd c2 c1
      simp only [PP, P1, P2, P3, P4, P5, P6, P7, P8, P9, P10, P11, P12, P13, P14, L1, P15, N1, N2, N3, N4, N5, N6, N7, I1, I2, I3, I4, I5, I6, I7, reduceIte, reduceCtorEq]
      refine equalGame_p T B ?_
      simp only [PP, P1, P2, P3, P4, P5, P6, P7, P8, P9, P10, P11, P12, P13, P14, L1, P15, N1, N2, N3, N4, N5, N6, N7, I1, I2, I3, I4, I5, I6, I7, reduceIte, reduceCtorEq, c1, winM31_nil, strM_nil, show IntKind.i64.wrap 0 = 0 from rfl]
      refine SemC_true T.awake ?_
      simp only [PP, P1, P2, P3, P4, P5, P6, P7, P8, P9, P10, P11, P12, P13, P14, L1, P15, N1, N2, N3, N4, N5, N6, N7, I1, I2, I3, I4, I5, I6, I7, reduceIte, reduceCtorEq]
    obtain ⟨rfl, hL⟩ := hA1.ok c1
    have V := valid_of c1
    have hTT := hT c1
    have hml := hL.st.l
    simp only [PP, P1, P2, P3, P4, P5, P6, P7, P8, P9, P10, P11, P12, P13, P14, L1, P15, N1, N2, N3, N4, N5, N6, N7, I1, I2, I3, I4, I5, I6, I7, reduceIte, reduceCtorEq, c1]
    refine equalGame_p T B ?_
    simp only [PP, P1, P2, P3, P4, P5, P6, P7, P8, P9, P10, P11, P12, P13, P14, L1, P15, N1, N2, N3, N4, N5, N6, N7, I1, I2, I3, I4, I5, I6, I7, reduceIte, reduceCtorEq]
    refine rafter_p T V B ho hTT (by decide) (by decide) (fun ms b hS hI hb1 _ hb2 => ?_)
    have : ms = m := LeastM.eq ⟨hS, hI, hb1.1 (hb2 (by decide))⟩ hL
    subst this
    simp only [PP, P1, P2, P3, P4, P5, P6, P7, P8, P9, P10, P11, P12, P13, P14, L1, P15, N1, N2, N3, N4, N5, N6, N7, I1, I2, I3, I4, I5, I6, I7, reduceIte, reduceCtorEq]
    refine same_p T (by omega) (LeastM.fit V hS) (LeastM.fit V hS) ?_
    simp only [PP, P1, P2, P3, P4, P5, P6, P7, P8, P9, P10, P11, P12, P13, P14, L1, P15, N1, N2, N3, N4, N5, N6, N7, I1, I2, I3, I4, I5, I6, I7, reduceIte, reduceCtorEq, winM31_len]
    refine rstrategy_p T V B ho hTT (fun ms2 hL2 => ?_)
    have := hL2.eq hL
    subst this
    simp only [PP, P1, P2, P3, P4, P5, P6, P7, P8, P9, P10, P11, P12, P13, P14, L1, P15, N1, N2, N3, N4, N5, N6, N7, I1, I2, I3, I4, I5, I6, I7, reduceIte, reduceCtorEq]
    refine equalInts_p T (by show _ < 1000000000000; rw [strM_len]; omega) ?_
    simp only [PP, P1, P2, P3, P4, P5, P6, P7, P8, P9, P10, P11, P12, P13, P14, L1, P15, N1, N2, N3, N4, N5, N6, N7, I1, I2, I3, I4, I5, I6, I7, reduceIte, reduceCtorEq]
    refine loop1 (fun (k : Nat) => k ≤ ms2.length) (fun k => [.junk, p64 n, .ptr 0 0 0, .junk, .junk, .junk, .junk, .junk, slI false true .u8 (winM31 ms2), .junk, .junk, .junk, slM false true a, .bool done, p64 e4, .junk, slM false true ms2, .junk, p64 k, .junk, .junk, .junk, .junk, .junk, .junk, .junk, .junk, .junk, .junk, .junk, .junk, .junk, .junk, .junk, .junk, .junk, .junk, .junk, .junk, .junk, .junk, .junk, .junk, .junk, .junk, .junk, .junk, .junk, .junk, .junk, .junk, .junk, .junk, .junk, .junk, .junk, .junk, .junk, .junk, .junk, .junk, .junk, .junk, .junk, .junk, .junk, .junk, .junk, .junk, .junk, .junk, .junk, .junk, .junk, .junk, .junk, .junk, .junk, .junk, .junk, .junk, .junk, .junk, .junk, .junk, .junk, .junk, .junk, .junk, .junk, .junk, .junk, .junk, .junk, .junk, .junk, .junk, .junk, .junk, .junk, .junk, .junk, .junk, .junk, .junk, .junk, .junk, .junk, .junk, .junk, .junk, .junk, .junk, .junk, .junk, .junk, .junk, .junk, .junk, .junk, .junk, .junk, .junk, .junk, .junk, .junk, .junk, .junk, .junk, .junk, .junk, .junk, .junk, .junk, .junk, .junk, .junk, .junk, .junk, .junk, .junk, .junk, .junk, .junk, .junk, .junk, .junk, .junk, .junk, .junk, .junk, .junk, .junk, .junk, .junk, .junk, .junk, .junk, .junk, .junk, .junk, .junk, .junk, .junk, .junk, .junk, .junk, .junk, .junk, .junk, .junk, .junk, .junk, .junk, .junk, .junk, .junk, .junk, .junk])
      (fun k => [.cells 0 0 [slI false false .u8 ow, slI false false .i64 pr, slR false false false false .i64 su], .cells 0 1 [slI false true .u8 ow, slI false true .i64 pr, slR false true false true .i64 su]]) (fun k => ms2.length - k) 0 (by omega) (by simp only [PWeak_nil, PWeak_junk, PWeak_same, Int.cast_ofNat_Int, winM31_len]) rfl ?_
    intro k hle ih
    refine SemW_go (by kernel_rfl) ?_
    simp only [PP, P1, P2, P3, P4, P5, P6, P7, P8, P9, P10, P11, P12, P13, P14, L1, P15, N1, N2, N3, N4, N5, N6, N7, I1, I2, I3, I4, I5, I6, I7, reduceIte, reduceCtorEq]
    refine QIf.intro (fun c => ?_) (fun c => ?_)
    · have hk' : k < ms2.length := by omega
      have k0 : (0 : Int) ≤ k := by omega
      have kn : (k : Int) < ms2.length := by omega
      have hwk := wrap_succ (k := k) (by show _ < 1000000000000; omega)
      obtain ⟨x, g5⟩ := some_of (xs := ms2) (k := k) hk'
      have r0 := msL_at0 g5
      have ew : (winM31 ms2)[k]? = some (if x.top = true then 1 else 0) := by unfold winM31; rw [List.getElem?_map, g5]; rfl
      cases ht : x.top with
      | true =>
        rw [ht, if_pos rfl] at ew
        simp only [PP, P1, P2, P3, P4, P5, P6, P7, P8, P9, P10, P11, P12, P13, P14, L1, P15, N1, N2, N3, N4, N5, N6, N7, I1, I2, I3, I4, I5, I6, I7, reduceIte, reduceCtorEq, msC_len, msC_one, msC_und, under_slM, msC_0, psub_msC, pover_msC, z9, z9t, msL_len, msL_und, msL_one, prepl_ms, limC_len, limC_one, limC_und, limC_len0, pfrzL_msC, pfrzL_limC, psub_limC, pover_limC, z8, pcells_cp, one_cp, solC_und, solC_0, solC_1, solC_2, c, k0, winM31_len, ew, r0, ht, show (true == true) = true from rfl, hwk]
        exact SemW_weak (ih (k + 1) hk' (by omega)) (by simp only [PWeak_nil, PWeak_junk, PWeak_same, Int.cast_ofNat_Int, winM31_len])
      | false =>
        rw [ht, if_neg (by decide)] at ew
        simp only [PP, P1, P2, P3, P4, P5, P6, P7, P8, P9, P10, P11, P12, P13, P14, L1, P15, N1, N2, N3, N4, N5, N6, N7, I1, I2, I3, I4, I5, I6, I7, reduceIte, reduceCtorEq, msC_len, msC_one, msC_und, under_slM, msC_0, psub_msC, pover_msC, z9, z9t, msL_len, msL_und, msL_one, prepl_ms, limC_len, limC_one, limC_und, limC_len0, pfrzL_msC, pfrzL_limC, psub_limC, pover_limC, z8, pcells_cp, one_cp, solC_und, solC_0, solC_1, solC_2, c, k0, winM31_len, ew, r0, ht, show (false == false) = true from rfl, show ¬ (0 : Int) = 1 by decide, hwk]
        exact SemW_weak (ih (k + 1) hk' (by omega)) (by simp only [PWeak_nil, PWeak_junk, PWeak_same, Int.cast_ofNat_Int, winM31_len])
    · simp only [PP, P1, P2, P3, P4, P5, P6, P7, P8, P9, P10, P11, P12, P13, P14, L1, P15, N1, N2, N3, N4, N5, N6, N7, I1, I2, I3, I4, I5, I6, I7, reduceIte, reduceCtorEq, c]
      refine QIf.intro (fun d => ?_) (fun d => ?_)
      · rcases hA with ⟨c2, _⟩ | ⟨_, _, rfl, rfl, rfl⟩ | ⟨_, h, _⟩
        · exact absurd c1 c2
        · simp only [PP, P1, P2, P3, P4, P5, P6, P7, P8, P9, P10, P11, P12, P13, P14, L1, P15, N1, N2, N3, N4, N5, N6, N7, I1, I2, I3, I4, I5, I6, I7, reduceIte, reduceCtorEq]
          refine SemC_true T.awake ?_
          simp only [PP, P1, P2, P3, P4, P5, P6, P7, P8, P9, P10, P11, P12, P13, P14, L1, P15, N1, N2, N3, N4, N5, N6, N7, I1, I2, I3, I4, I5, I6, I7, reduceIte, reduceCtorEq]
        · omega
      · rcases hA with ⟨c2, _⟩ | ⟨_, h, _⟩ | ⟨_, _, hSa, hNa, hda, rfl⟩
        · exact absurd c1 c2
        · exact absurd h d
        simp only [PP, P1, P2, P3, P4, P5, P6, P7, P8, P9, P10, P11, P12, P13, P14, L1, P15, N1, N2, N3, N4, N5, N6, N7, I1, I2, I3, I4, I5, I6, I7, reduceIte, reduceCtorEq]
        refine rafter_p T V B ho hTT (by omega) n2 (fun b last hSb _ hlb hNb _ => ?_)
        have e1 := hNb (by omega)
        have : a = b := hSa.eq hSb (fun v _ => by rw [hNa, e1])
        subst this
        have hdl : done = last := by
          have := hda.trans hlb.symm
          cases done <;> cases last <;> simp_all
        subst hdl
        simp only [PP, P1, P2, P3, P4, P5, P6, P7, P8, P9, P10, P11, P12, P13, P14, L1, P15, N1, N2, N3, N4, N5, N6, N7, I1, I2, I3, I4, I5, I6, I7, reduceIte, reduceCtorEq]
        refine same_p T (by rw [hSa.l]; omega) (LeastM.fit V hSa) (LeastM.fit V hSa) ?_
        simp only [PP, P1, P2, P3, P4, P5, P6, P7, P8, P9, P10, P11, P12, P13, P14, L1, P15, N1, N2, N3, N4, N5, N6, N7, I1, I2, I3, I4, I5, I6, I7, reduceIte, reduceCtorEq, show (done == done) = true by cases done <;> rfl]
        refine SemC_true T.awake ?_
        simp only [PP, P1, P2, P3, P4, P5, P6, P7, P8, P9, P10, P11, P12, P13, P14, L1, P15, N1, N2, N3, N4, N5, N6, N7, I1, I2, I3, I4, I5, I6, I7, reduceIte, reduceCtorEq]
end
end Go.Am.Ar
set_option linter.unusedVariables false
set_option linter.unusedSimpArgs false
namespace Go.Am.Ar
abbrev gameTy : Ty := .pair (.slice (.int .u8)) (.pair (.slice (.int .i64)) (.pair (.slice (.slice (.int .i64))) .unit))
structure Nums (ow pr : List Int) (su : List (List Int)) : Prop where
  o : ∀ x ∈ ow, 0 ≤ x ∧ x ≤ 255
  p : ∀ x ∈ pr, -9223372036854775808 ≤ x ∧ x ≤ 9223372036854775807
  s : ∀ r ∈ su, ∀ x ∈ r, -9223372036854775808 ≤ x ∧ x ≤ 9223372036854775807
  lo : ow.length ≤ 9223372036854775807
  lp : pr.length ≤ 9223372036854775807
  ls : su.length ≤ 9223372036854775807
  lr : ∀ r ∈ su, r.length ≤ 9223372036854775807
theorem arg_game {v : AV} {h : H} (hs : ShV gameTy v h) : ∃ (ow pr : List Int) (su : List (List Int)), RepV (wH h) (gmP false false false false false false false false ow pr su) v ∧ Nums ow pr su := by
  obtain ⟨avs, hs, rfl⟩ := hs
  obtain ⟨c1, c2, rfl, h1, c3, c4, rfl, h2, c5, c6, rfl, h3, h4⟩ := hs
  have h4 : c6 = [] := h4
  subst h4
  obtain ⟨vo, ow, rfl, p1, q1, r1⟩ := sh_intsP h1
  obtain ⟨vp, pr, rfl, p2, q2, r2⟩ := sh_intsP h2
  obtain ⟨vs, su, rfl, p3, q3, r3⟩ := sh_rowsP h3
  refine ⟨ow, pr, su, ?_, ⟨r1, r2, fun r hr => (r3 r hr).2, q1, q2, q3, fun r hr => (r3 r hr).1⟩⟩
  have := RepL.cons p1 (.cons p2 (.cons p3 (.nil (wH h))))
  exact .agg this.len this.get
theorem arg_int {k : IntKind} {v : AV} {h : H} (hs : ShV (.int k) v h) : ∃ (x : Int), v = .int k x ∧ RepV (wH h) (.int k x) v ∧ k.min ≤ x ∧ x ≤ k.max := by
  obtain ⟨avs, hs, rfl⟩ := hs
  obtain ⟨x, rfl, p⟩ := hs
  exact ⟨x, rfl, .int k x, p⟩
theorem run_of_C {tab : FuncId → Option AF} {g : FuncId} {args : List AV} {h : H} (hc : C (lim tab) g args h fun v _ => v = .bool true) : ∃ n h', (run tab n).call g args h = some (.bool true, h') := by
  unfold C at hc
  obtain ⟨v, h', he, rfl⟩ := hc
  obtain ⟨n, hn⟩ := (lim_call_iff tab).1 he
  exact ⟨n, h', hn⟩
theorem shVs2 {A B : Ty} {args : List AV} {h : H} (hs : ShVs [A, B] args h) : ∃ a b, args = [a, b] ∧ ShV A a h ∧ ShV B b h := by
  match args, hs with
  | [a, b], ⟨h1, h2, _⟩ => exact ⟨a, b, rfl, h1, h2⟩
end Go.Am.Ar
set_option linter.unusedVariables false
namespace Go.Am.Ar
theorem pmatches_all {tab : FuncId → Option AF} (T : HasA tab) (args : List AV) (h : H) (hs : ShVs [gameTy, .int .i64] args h) :
    ∃ n h', (run tab n).call 4 args h = some (.bool true, h') := by
  obtain ⟨a, b, rfl, ha, hb⟩ := shVs2 hs
  obtain ⟨ow, pr, su, r1, N⟩ := arg_game ha
  obtain ⟨n, rfl, r2, n0, n1⟩ := arg_int hb
  exact run_of_C (law_of_sem (.cons r1 (.cons r2 (.nil _))) (pmatches_p T (fun x hx => (N.o x hx).1) n1))
end Go.Am.Ar

