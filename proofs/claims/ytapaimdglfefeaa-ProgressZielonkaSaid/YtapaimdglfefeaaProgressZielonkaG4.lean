/- Contracts: After, Measures and Winners of the program, and what goes with it. -/
import Derived.Test.YtapaimdglfefeaaProgressZielonkaG3
import Derived.Test.YtapaimdglfefeaaProgressZielonkaG0
import Derived.Test.YtapaimdglfefeaaProgressZielonkaG1
import Derived.Test.YtapaimdglfefeaaPmC
import Derived.Test.YtapaimdglfefeaaProgressZielonkaG2
set_option linter.unusedVariables false
set_option linter.unusedSimpArgs false
set_option maxRecDepth 10000
namespace Go.Am.Ar
open Go.Am renaming pchk → P1, pold → P2, PKNo → P3, ppack → P4, PObj.under → P5, pput → P6, ptset → P7, ptget → P8, pev → P9, ofAV → P10, ofAV1 → P11, ppad → P12, pfill → P13, prepl → P14, AO.effect → P15
open List renaming replicate → L1
open Nat renaming reduceAdd → N1, reduceSub → N2, reduceMul → N3, reduceLT → N4, reduceLeDiff → N5, reduceEqDiff → N6, reduceBEq → N7
open Int renaming reduceToNat → I1, reduceLT → I2, reduceLE → I3, reduceEq → I4, reduceAdd → I5, reduceSub → I6, reduceNeg → I7
def MeasA (ow pr : List Int) (su : List (List Int)) (ms : List Ms) (e : Int) : Prop := (¬ checkM ow pr su = 0 ∧ ms = [] ∧ e = checkM ow pr su) ∨ (checkM ow pr su = 0 ∧ e = 0 ∧ LeastM ow pr su ms)
def winM31 (ms : List Ms) : List Int := ms.map fun x => if x.top = true then 1 else 0
theorem MeasA.eq {ow pr : List Int} {su : List (List Int)} {ms ms' : List Ms} {e e' : Int} (h : MeasA ow pr su ms e) (h' : MeasA ow pr su ms' e') : ms = ms' ∧ e = e' := by
  rcases h with ⟨a1, a2, a3⟩ | ⟨a1, a2, a3⟩ <;> rcases h' with ⟨b1, b2, b3⟩ | ⟨b1, b2, b3⟩
  · exact ⟨a2.trans b2.symm, a3.trans b3.symm⟩
  · exact absurd b1 a1
  · exact absurd a1 b1
  · exact ⟨a3.eq b3, a2.trans b2.symm⟩
theorem wk_meas (e : Int) : PvWk (.tuple [.nils, p64 e]) (.tuple [slM false true [], p64 e]) := by
  refine PvWk.tuple rfl fun i y z h1 h2 => ?_
  match i with
  | 0 => cases h1; cases h2; exact PvWk.nils _ _ _
  | 1 => cases h1; cases h2; exact PvWk.refl _
  | i + 2 => simp at h1
theorem wk_wins (e : Int) : PvWk (.tuple [.nils, p64 e]) (.tuple [slI false true .u8 [], p64 e]) := by
  refine PvWk.tuple rfl fun i y z h1 h2 => ?_
  match i with
  | 0 => cases h1; cases h2; exact PvWk.nils _ _ _
  | 1 => cases h1; cases h2; exact PvWk.refl _
  | i + 2 => simp at h1
theorem frzIs {g v n : Nat} {k : IntKind} {xs : List Int} (h : xs.length = n) : frzO (some (.cells g v (xs.map (PV.int k)))) g 1 0 n = some (slI false true k xs) := by
  subst h
  rw [frzO_cells (by simp) (underL_ints _ _ _), Nat.mul_one, psub_map]
section
variable {tab : FuncId → Option AF} (T : HasA tab)
include T
theorem measures_p {M : Mem} {K : PV → Mem → Prop} {f1 o1 f2 o2 f3 o3 f4 o4 : Bool} {ow pr : List Int} {su : List (List Int)} (B : Bnd ow pr su)
    (hk : ∀ ms e, MeasA ow pr su ms e → K (.tuple [slM false true ms, p64 e]) M) :
    SemC tab 12 [gmP f1 o1 f2 o2 f3 o3 f4 o4 ow pr su] M K := by
  refine SemC_wk ?_
  refine SemC_pure T.h12 (by simp only [PP, P1, P2, P3, P4, P5, P6, P7, P8, P9, P10, P11, P12, P13, P14, L1, P15, N1, N2, N3, N4, N5, N6, N7, I1, I2, I3, I4, I5, I6, I7, reduceIte, reduceCtorEq, msC_len, msC_one, msC_und, under_slM, msC_0, psub_msC, pover_msC, z9, z9t, msL_len, msL_und, msL_one, prepl_ms, limC_len, limC_one, limC_und, limC_len0, pfrzL_msC, pfrzL_limC, psub_limC, pover_limC, z8, pcells_cp, one_cp, solC_und, solC_0, solC_1, solC_2, PV.under]) ?_
  simp only [af12, PP, P1, P2, P3, P4, P5, P6, P7, P8, P9, P10, P11, P12, P13, P14, L1, P15, N1, N2, N3, N4, N5, N6, N7, I1, I2, I3, I4, I5, I6, I7, reduceIte, reduceCtorEq]
  refine check_p T B ?_
  simp only [PP, P1, P2, P3, P4, P5, P6, P7, P8, P9, P10, P11, P12, P13, P14, L1, P15, N1, N2, N3, N4, N5, N6, N7, I1, I2, I3, I4, I5, I6, I7, reduceIte, reduceCtorEq]
  refine QIf.intro (fun c1 => ?_) (fun c1 => ?_)
  rotate_left
  · simp only [PP, P1, P2, P3, P4, P5, P6, P7, P8, P9, P10, P11, P12, P13, P14, L1, P15, N1, N2, N3, N4, N5, N6, N7, I1, I2, I3, I4, I5, I6, I7, reduceIte, reduceCtorEq, msC_len, msC_one, msC_und, under_slM, msC_0, psub_msC, pover_msC, z9, z9t, msL_len, msL_und, msL_one, prepl_ms, limC_len, limC_one, limC_und, limC_len0, pfrzL_msC, pfrzL_limC, psub_limC, pover_limC, z8, pcells_cp, one_cp, solC_und, solC_0, solC_1, solC_2, c1]
    exact ⟨_, wk_meas _, hk [] _ (.inl ⟨c1, rfl, rfl⟩)⟩
  have V := valid_of c1
  simp only [PP, P1, P2, P3, P4, P5, P6, P7, P8, P9, P10, P11, P12, P13, P14, L1, P15, N1, N2, N3, N4, N5, N6, N7, I1, I2, I3, I4, I5, I6, I7, reduceIte, reduceCtorEq, msC_len, msC_one, msC_und, under_slM, msC_0, psub_msC, pover_msC, z9, z9t, msL_len, msL_und, msL_one, prepl_ms, limC_len, limC_one, limC_und, limC_len0, pfrzL_msC, pfrzL_limC, psub_limC, pover_limC, z8, pcells_cp, one_cp, solC_und, solC_0, solC_1, solC_2, c1]
  refine newSolver_p T (valid_pr V) ?_
  simp only [PP, P1, P2, P3, P4, P5, P6, P7, P8, P9, P10, P11, P12, P13, P14, L1, P15, N1, N2, N3, N4, N5, N6, N7, I1, I2, I3, I4, I5, I6, I7, reduceIte, reduceCtorEq, msC_len, msC_one, msC_und, under_slM, msC_0, psub_msC, pover_msC, z9, z9t, msL_len, msL_und, msL_one, prepl_ms, limC_len, limC_one, limC_und, limC_len0, pfrzL_msC, pfrzL_limC, psub_limC, pover_limC, z8, pcells_cp, one_cp, solC_und, solC_0, solC_1, solC_2]
  refine least_p T V B (fun ms hms => ?_)
  simp only [PP, P1, P2, P3, P4, P5, P6, P7, P8, P9, P10, P11, P12, P13, P14, L1, P15, N1, N2, N3, N4, N5, N6, N7, I1, I2, I3, I4, I5, I6, I7, reduceIte, reduceCtorEq, msC_len, msC_one, msC_und, under_slM, msC_0, psub_msC, pover_msC, z9, z9t, msL_len, msL_und, msL_one, prepl_ms, limC_len, limC_one, limC_und, limC_len0, pfrzL_msC, pfrzL_limC, psub_limC, pover_limC, z8, pcells_cp, one_cp, solC_und, solC_0, solC_1, solC_2]
  exact ⟨_, PvWk.refl _, hk ms 0 (.inr ⟨c1, rfl, hms⟩)⟩
theorem winners31_p {M : Mem} {K : PV → Mem → Prop} {f1 o1 f2 o2 f3 o3 f4 o4 : Bool} {ow pr : List Int} {su : List (List Int)} (B : Bnd ow pr su)
    (hk : ∀ ms e, MeasA ow pr su ms e → K (.tuple [slI false true .u8 (winM31 ms), p64 e]) M) :
    SemC tab 15 [gmP f1 o1 f2 o2 f3 o3 f4 o4 ow pr su] M K := by
  refine SemC_wk ?_
  refine SemC_pure T.h15 (by simp only [PP, P1, P2, P3, P4, P5, P6, P7, P8, P9, P10, P11, P12, P13, P14, L1, P15, N1, N2, N3, N4, N5, N6, N7, I1, I2, I3, I4, I5, I6, I7, reduceIte, reduceCtorEq, msC_len, msC_one, msC_und, under_slM, msC_0, psub_msC, pover_msC, z9, z9t, msL_len, msL_und, msL_one, prepl_ms, limC_len, limC_one, limC_und, limC_len0, pfrzL_msC, pfrzL_limC, psub_limC, pover_limC, z8, pcells_cp, one_cp, solC_und, solC_0, solC_1, solC_2, PV.under]) ?_
  simp only [af15, PP, P1, P2, P3, P4, P5, P6, P7, P8, P9, P10, P11, P12, P13, P14, L1, P15, N1, N2, N3, N4, N5, N6, N7, I1, I2, I3, I4, I5, I6, I7, reduceIte, reduceCtorEq]
  refine measures_p T B (fun ms e hA => ?_)
  rcases hA with ⟨c1, rfl, rfl⟩ | ⟨c1, rfl, hL⟩
  · simp only [PP, P1, P2, P3, P4, P5, P6, P7, P8, P9, P10, P11, P12, P13, P14, L1, P15, N1, N2, N3, N4, N5, N6, N7, I1, I2, I3, I4, I5, I6, I7, reduceIte, reduceCtorEq, msC_len, msC_one, msC_und, under_slM, msC_0, psub_msC, pover_msC, z9, z9t, msL_len, msL_und, msL_one, prepl_ms, limC_len, limC_one, limC_und, limC_len0, pfrzL_msC, pfrzL_limC, psub_limC, pover_limC, z8, pcells_cp, one_cp, solC_und, solC_0, solC_1, solC_2, c1]
    exact ⟨_, wk_wins _, hk [] _ (.inl ⟨c1, rfl, rfl⟩)⟩
  have V := valid_of c1
  have n1 := V.n1
  have hml := hL.st.l
  have b0 : (0 : Int) ≤ ms.length := by omega
  have b1 : (ms.length : Int) * 1 ≤ 140737488355328 := by omega
  have b2 : (ms.length : Int) ≤ 9223372036854775807 := by omega
  simp only [PP, P1, P2, P3, P4, P5, P6, P7, P8, P9, P10, P11, P12, P13, P14, L1, P15, N1, N2, N3, N4, N5, N6, N7, I1, I2, I3, I4, I5, I6, I7, reduceIte, reduceCtorEq, msC_len, msC_one, msC_und, under_slM, msC_0, psub_msC, pover_msC, z9, z9t, msL_len, msL_und, msL_one, prepl_ms, limC_len, limC_one, limC_und, limC_len0, pfrzL_msC, pfrzL_limC, psub_limC, pover_limC, z8, pcells_cp, one_cp, solC_und, solC_0, solC_1, solC_2, b0, b1, b2, Int.le_refl]
  refine loop3 (fun (k ver : Nat) (a : List Int) => k ≤ ms.length ∧ a.length = ms.length ∧ (∀ v, v < k → a[v]? = (winM31 ms)[v]?) ∧ ∀ v, k ≤ v → v < ms.length → a[v]? = some 0)
    (fun k ver a => [.junk, .junk, .junk, .junk, .junk, .junk, .ref 1 0 1 0 ms.length, .junk, .junk, .junk, .junk, .junk, .junk, .junk, .junk, .junk, .junk, .junk, .junk, .junk, slM false true ms, p64 ms.length, p64 k, .junk, .junk, .junk, .junk, .junk, .junk, .junk, .junk, .junk, .junk, .junk])
    (fun k ver a => [.cells 0 0 [slI f1 o1 .u8 ow, slI f2 o2 .i64 pr, slR f3 o3 f4 o4 .i64 su], .cells 0 ver (a.map (PV.int .u8))]) (fun k _ _ => ms.length - k) 0 0 (List.replicate ms.length 0) ⟨by omega, by simp, fun v h => by omega, fun v _ h => by simp [h]⟩ (by simp only [PWeak_nil, PWeak_junk, PWeak_same, Int.cast_ofNat_Int, List.length_append, List.length_cons, List.length_nil, Nat.zero_add]) (by simp only [List.map_replicate]) ?_
  intro k ver a ⟨hle, la, hlo, hhi⟩ ih
  refine SemW_go (by kernel_rfl) ?_
  simp only [PP, P1, P2, P3, P4, P5, P6, P7, P8, P9, P10, P11, P12, P13, P14, L1, P15, N1, N2, N3, N4, N5, N6, N7, I1, I2, I3, I4, I5, I6, I7, reduceIte, reduceCtorEq]
  refine QIf.intro (fun c => ?_) (fun c => ?_)
  · have hk' : k < ms.length := by omega
    have k0 : (0 : Int) ≤ k := by omega
    have kn : (k : Int) < ms.length := by omega
    have k1 : k + 1 ≤ ms.length := hk'
    have hwk := wrap_succ (k := k) (by show _ < 1000000000000; omega)
    obtain ⟨x, g5⟩ := some_of (xs := ms) (k := k) (by omega)
    have r1 := psub_msL g5
    have r2 := ms_lt g5
    have ew : (winM31 ms)[k]? = some (if x.top = true then 1 else 0) := by unfold winM31; rw [List.getElem?_map, g5]; rfl
    have next : ∀ a' : List Int, a'.length = ms.length → a'[k]? = (winM31 ms)[k]? → (∀ v, v ≠ k → a'[v]? = a[v]?) → k + 1 ≤ ms.length ∧ a'.length = ms.length ∧ (∀ v, v < k + 1 → a'[v]? = (winM31 ms)[v]?) ∧ ∀ v, k + 1 ≤ v → v < ms.length → a'[v]? = some 0 := fun a' h1 h2 h3 => ⟨hk', h1, fun v hv => by
      by_cases e : v = k
      · subst e; exact h2
      · rw [h3 v e]; exact hlo v (by omega), fun v h4 h5 => by rw [h3 v (by omega)]; exact hhi v (by omega) h5⟩
    simp only [PP, P1, P2, P3, P4, P5, P6, P7, P8, P9, P10, P11, P12, P13, P14, L1, P15, N1, N2, N3, N4, N5, N6, N7, I1, I2, I3, I4, I5, I6, I7, reduceIte, reduceCtorEq, msC_len, msC_one, msC_und, under_slM, msC_0, psub_msC, pover_msC, z9, z9t, msL_len, msL_und, msL_one, prepl_ms, limC_len, limC_one, limC_und, limC_len0, pfrzL_msC, pfrzL_limC, psub_limC, pover_limC, z8, pcells_cp, one_cp, solC_und, solC_0, solC_1, solC_2, c, k0, r1, r2]
    cases ht : x.top with
    | true =>
      simp only [PP, P1, P2, P3, P4, P5, P6, P7, P8, P9, P10, P11, P12, P13, P14, L1, P15, N1, N2, N3, N4, N5, N6, N7, I1, I2, I3, I4, I5, I6, I7, reduceIte, reduceCtorEq, msC_len, msC_one, msC_und, under_slM, msC_0, psub_msC, pover_msC, z9, z9t, msL_len, msL_und, msL_one, prepl_ms, limC_len, limC_one, limC_und, limC_len0, pfrzL_msC, pfrzL_limC, psub_limC, pover_limC, z8, pcells_cp, one_cp, solC_und, solC_0, solC_1, solC_2, ht, k0, kn, k1, la, hwk]
      refine SemW_re (GStep.drop (b := [.junk, .junk, .junk, .junk, .junk, .junk, .ref 1 0 1 0 ms.length, .junk, .junk, .junk, .junk, .junk, .junk, .junk, .junk, .junk, .junk, .junk, .junk, .junk, slM false true ms, p64 ms.length, p64 ((k + 1 : Nat) : Int), .junk, .junk, .junk, .junk, .junk, .junk, .junk, .junk, .junk, .junk, .junk]) 2 (Nat.zero_le _) (by simp) (by simp only [PWeak_nil, PWeak_junk, PWeak_same, Int.cast_ofNat_Int, List.length_append, List.length_cons, List.length_nil, Nat.zero_add]) (by simp only [PP, P1, P2, P3, P4, P5, P6, P7, P8, P9, P10, P11, P12, P13, P14, L1, P15, N1, N2, N3, N4, N5, N6, N7, I1, I2, I3, I4, I5, I6, I7, reduceIte, reduceCtorEq, msC_len, msC_one, msC_und, under_slM, msC_0, psub_msC, pover_msC, z9, z9t, msL_len, msL_und, msL_one, prepl_ms, limC_len, limC_one, limC_und, limC_len0, pfrzL_msC, pfrzL_limC, psub_limC, pover_limC, z8, pcells_cp, one_cp, solC_und, solC_0, solC_1, solC_2]) (by simp only [← List.map_set, PP, P1, P2, P3, P4, P5, P6, P7, P8, P9, P10, P11, P12, P13, P14, L1, P15, N1, N2, N3, N4, N5, N6, N7, I1, I2, I3, I4, I5, I6, I7, reduceIte, reduceCtorEq, msC_len, msC_one, msC_und, under_slM, msC_0, psub_msC, pover_msC, z9, z9t, msL_len, msL_und, msL_one, prepl_ms, limC_len, limC_one, limC_und, limC_len0, pfrzL_msC, pfrzL_limC, psub_limC, pover_limC, z8, pcells_cp, one_cp, solC_und, solC_0, solC_1, solC_2]) rfl) ?_
      refine SemW_to (ih (k + 1) (ver + 1) (a.set k 1) (next _ (by simp [la]) ?_ fun v hv => List.getElem?_set_ne (by omega)) (by omega)) (by simp only [PWeak_nil, PWeak_junk, PWeak_same, Int.cast_ofNat_Int, List.length_append, List.length_cons, List.length_nil, Nat.zero_add]) (by simp only [← List.map_set, PP, P1, P2, P3, P4, P5, P6, P7, P8, P9, P10, P11, P12, P13, P14, L1, P15, N1, N2, N3, N4, N5, N6, N7, I1, I2, I3, I4, I5, I6, I7, reduceIte, reduceCtorEq])
      rw [ew, ht, List.getElem?_set_self (by omega), if_pos rfl]
    | false =>
      simp only [PP, P1, P2, P3, P4, P5, P6, P7, P8, P9, P10, P11, P12, P13, P14, L1, P15, N1, N2, N3, N4, N5, N6, N7, I1, I2, I3, I4, I5, I6, I7, reduceIte, reduceCtorEq, msC_len, msC_one, msC_und, under_slM, msC_0, psub_msC, pover_msC, z9, z9t, msL_len, msL_und, msL_one, prepl_ms, limC_len, limC_one, limC_und, limC_len0, pfrzL_msC, pfrzL_limC, psub_limC, pover_limC, z8, pcells_cp, one_cp, solC_und, solC_0, solC_1, solC_2, ht, hwk]
      refine SemW_re (GStep.drop (b := [.junk, .junk, .junk, .junk, .junk, .junk, .ref 1 0 1 0 ms.length, .junk, .junk, .junk, .junk, .junk, .junk, .junk, .junk, .junk, .junk, .junk, .junk, .junk, slM false true ms, p64 ms.length, p64 ((k + 1 : Nat) : Int), .junk, .junk, .junk, .junk, .junk, .junk, .junk, .junk, .junk, .junk, .junk]) 2 (Nat.zero_le _) (by simp) (by simp only [PWeak_nil, PWeak_junk, PWeak_same, Int.cast_ofNat_Int, List.length_append, List.length_cons, List.length_nil, Nat.zero_add]) (by simp only [PP, P1, P2, P3, P4, P5, P6, P7, P8, P9, P10, P11, P12, P13, P14, L1, P15, N1, N2, N3, N4, N5, N6, N7, I1, I2, I3, I4, I5, I6, I7, reduceIte, reduceCtorEq, msC_len, msC_one, msC_und, under_slM, msC_0, psub_msC, pover_msC, z9, z9t, msL_len, msL_und, msL_one, prepl_ms, limC_len, limC_one, limC_und, limC_len0, pfrzL_msC, pfrzL_limC, psub_limC, pover_limC, z8, pcells_cp, one_cp, solC_und, solC_0, solC_1, solC_2]) (by simp only [PP, P1, P2, P3, P4, P5, P6, P7, P8, P9, P10, P11, P12, P13, P14, L1, P15, N1, N2, N3, N4, N5, N6, N7, I1, I2, I3, I4, I5, I6, I7, reduceIte, reduceCtorEq, msC_len, msC_one, msC_und, under_slM, msC_0, psub_msC, pover_msC, z9, z9t, msL_len, msL_und, msL_one, prepl_ms, limC_len, limC_one, limC_und, limC_len0, pfrzL_msC, pfrzL_limC, psub_limC, pover_limC, z8, pcells_cp, one_cp, solC_und, solC_0, solC_1, solC_2]) rfl) ?_
      refine SemW_to (ih (k + 1) ver a (next a la ?_ fun v hv => rfl) (by omega)) (by simp only [PWeak_nil, PWeak_junk, PWeak_same, Int.cast_ofNat_Int, List.length_append, List.length_cons, List.length_nil, Nat.zero_add]) (by simp only [PP, P1, P2, P3, P4, P5, P6, P7, P8, P9, P10, P11, P12, P13, P14, L1, P15, N1, N2, N3, N4, N5, N6, N7, I1, I2, I3, I4, I5, I6, I7, reduceIte, reduceCtorEq])
      rw [ew, ht, hhi k (Nat.le_refl _) hk', if_neg (by decide)]
  · have hkn : k = ms.length := by omega
    subst hkn
    have ea : a = winM31 ms := by
      apply List.ext_getElem?
      intro v
      by_cases hv : v < ms.length
      · exact hlo v hv
      · rw [List.getElem?_eq_none (by omega), List.getElem?_eq_none (by unfold winM31; simp; omega)]
    subst ea
    simp only [PP, P1, P2, P3, P4, P5, P6, P7, P8, P9, P10, P11, P12, P13, P14, L1, P15, N1, N2, N3, N4, N5, N6, N7, I1, I2, I3, I4, I5, I6, I7, reduceIte, reduceCtorEq, c]
    rw [frzIs la]
    simp only [PP, P1, P2, P3, P4, P5, P6, P7, P8, P9, P10, P11, P12, P13, P14, L1, P15, N1, N2, N3, N4, N5, N6, N7, I1, I2, I3, I4, I5, I6, I7, reduceIte, reduceCtorEq]
    exact ⟨_, PvWk.refl _, hk ms 0 (.inr ⟨c1, rfl, hL⟩)⟩
end
end Go.Am.Ar
set_option linter.unusedVariables false
set_option linter.unusedSimpArgs false
set_option maxRecDepth 10000
namespace Go.Am.Ar
open Go.Am renaming pchk → P1, pold → P2, PKNo → P3, ppack → P4, PObj.under → P5, pput → P6, ptset → P7, ptget → P8, pev → P9, ofAV → P10, ofAV1 → P11, ppad → P12, pfill → P13, prepl → P14, AO.effect → P15
open List renaming replicate → L1
open Nat renaming reduceAdd → N1, reduceSub → N2, reduceMul → N3, reduceLT → N4, reduceLeDiff → N5, reduceEqDiff → N6, reduceBEq → N7
open Int renaming reduceToNat → I1, reduceLT → I2, reduceLE → I3, reduceEq → I4, reduceAdd → I5, reduceSub → I6, reduceNeg → I7
def idxFrom (p : Int → Bool) : Nat → List Int → Int
  | _, [] => -1
  | k, x :: l => if p x = true then k else idxFrom p (k + 1) l
section
variable {tab : FuncId → Option AF} (T : HasA tab)
include T
theorem indexFunc_p {M : Mem} {K : PV → Mem → Prop} {f o : Bool} {row : List Int} {fn : FuncId} {cap : List PV} (p : Int → Bool) (hb : row.length < big)
    (hf : ∀ x ∈ row, ∀ K' : PV → Mem → Prop, K' (.bool (p x)) M → SemC tab fn (p64 x :: cap) M K') (hk : K (p64 (idxFrom p 0 row)) M) :
    SemC tab 44 [slI f o .i64 row, .func (.func fn) [] cap] M K := by
  refine SemC_fn T.h44 ?_
  simp only [af44, PP, P1, P2, P3, P4, P5, P6, P7, P8, P9, P10, P11, P12, P13, P14, L1, P15, N1, N2, N3, N4, N5, N6, N7, I1, I2, I3, I4, I5, I6, I7, reduceIte, reduceCtorEq]
  refine loop1 (fun (k : Nat) => k ≤ row.length ∧ K (p64 (idxFrom p k (row.drop k))) M) (fun k => [slI f o .i64 row, .func (.func fn) [] cap, .junk, .junk, .junk, .junk, .junk, p64 row.length, p64 k, .junk, .junk, .junk, .junk, .junk, .junk, .junk, .junk, .junk, .junk]) (fun k => M) (fun k => row.length - k) 0 ⟨by omega, hk⟩ (by simp only [PWeak_nil, PWeak_junk, PWeak_same, Int.cast_ofNat_Int, List.length_append, List.length_cons, List.length_nil, Nat.zero_add]) rfl ?_
  intro k ⟨hle, hq⟩ ih
  refine SemW_go (by kernel_rfl) ?_
  simp only [PP, P1, P2, P3, P4, P5, P6, P7, P8, P9, P10, P11, P12, P13, P14, L1, P15, N1, N2, N3, N4, N5, N6, N7, I1, I2, I3, I4, I5, I6, I7, reduceIte, reduceCtorEq]
  refine QIf.intro (fun c => ?_) (fun c => ?_)
  · have hk' : k < row.length := by omega
    have h0 : (0 : Int) ≤ k := by omega
    have hw := wrap_succ (k := k) (by show _ < 1000000000000; have : row.length < 1000000000000 := hb; omega)
    obtain ⟨x, e⟩ := some_of hk'
    rw [drop_some e] at hq
    unfold idxFrom at hq
    simp only [PP, P1, P2, P3, P4, P5, P6, P7, P8, P9, P10, P11, P12, P13, P14, L1, P15, N1, N2, N3, N4, N5, N6, N7, I1, I2, I3, I4, I5, I6, I7, reduceIte, reduceCtorEq, c, h0, e]
    refine hf x (List.mem_of_getElem? e) _ ?_
    cases hp : p x with
    | true =>
      rw [if_pos hp] at hq
      simp only [PP, P1, P2, P3, P4, P5, P6, P7, P8, P9, P10, P11, P12, P13, P14, L1, P15, N1, N2, N3, N4, N5, N6, N7, I1, I2, I3, I4, I5, I6, I7, reduceIte, reduceCtorEq]
      exact hq
    | false =>
      rw [if_neg (by rw [hp]; exact Bool.false_ne_true)] at hq
      simp only [PP, P1, P2, P3, P4, P5, P6, P7, P8, P9, P10, P11, P12, P13, P14, L1, P15, N1, N2, N3, N4, N5, N6, N7, I1, I2, I3, I4, I5, I6, I7, reduceIte, reduceCtorEq, hw]
      exact SemW_weak (ih (k + 1) ⟨by omega, hq⟩ (by omega)) (by simp only [PWeak_nil, PWeak_junk, PWeak_same, Int.cast_ofNat_Int, List.length_append, List.length_cons, List.length_nil, Nat.zero_add])
  · rw [List.drop_eq_nil_of_le (by omega)] at hq
    unfold idxFrom at hq
    simp only [PP, P1, P2, P3, P4, P5, P6, P7, P8, P9, P10, P11, P12, P13, P14, L1, P15, N1, N2, N3, N4, N5, N6, N7, I1, I2, I3, I4, I5, I6, I7, reduceIte, reduceCtorEq, c]
    exact hq
end
end Go.Am.Ar
set_option linter.unusedVariables false
set_option linter.unusedSimpArgs false
set_option maxRecDepth 10000
namespace Go.Am.Ar
open Go.Am renaming pchk → P1, pold → P2, PKNo → P3, ppack → P4, PObj.under → P5, pput → P6, ptset → P7, ptget → P8, pev → P9, ofAV → P10, ofAV1 → P11, ppad → P12, pfill → P13, prepl → P14, AO.effect → P15
open List renaming replicate → L1
open Nat renaming reduceAdd → N1, reduceSub → N2, reduceMul → N3, reduceLT → N4, reduceLeDiff → N5, reduceEqDiff → N6, reduceBEq → N7
open Int renaming reduceToNat → I1, reduceLT → I2, reduceLE → I3, reduceEq → I4, reduceAdd → I5, reduceSub → I6, reduceNeg → I7
def strQ (pr : List Int) (ms : List Ms) (v : Nat) (u : Int) : Bool := decide (vN (limL pr) (gO pr v).toNat (Nf (limL pr) ms u.toNat) = Nf (limL pr) ms v)
def strF (ow pr : List Int) (su : List (List Int)) (ms : List Ms) (v : Nat) : Int :=
  if ow.getD v 0 = 0 ∧ (ms.getD v mz).top = false then ((su.getD v []).find? (strQ pr ms v)).getD (-1) else -1
def strM (ow pr : List Int) (su : List (List Int)) (ms : List Ms) : List Int := tabA ms.length (strF ow pr su ms)
theorem idx_find {p : Int → Bool} : ∀ {row : List Int} {k : Nat} {x : Int}, row.find? p = some x → ∃ j, idxFrom p k row = ((k + j : Nat) : Int) ∧ row[j]? = some x
  | [], _, _, h => by cases h
  | y :: l, k, x, h => by
    unfold idxFrom
    cases hp : p y with
    | true =>
      rw [List.find?_cons, hp] at h
      cases h
      exact ⟨0, by rw [if_pos rfl]; rfl, rfl⟩
    | false =>
      rw [List.find?_cons, hp] at h
      obtain ⟨j, h1, h2⟩ := idx_find (k := k + 1) h
      exact ⟨j + 1, by rw [if_neg (by decide), h1]; omega, by simpa using h2⟩
theorem LeastM.find {ow pr : List Int} {su : List (List Int)} {ms : List Ms} (V : Valid ow pr su) (h : LeastM ow pr su ms) {v : Nat} (hv : v < ow.length) (ho : ow.getD v 0 = 0) : ∃ x, (su.getD v []).find? (strQ pr ms v) = some x := by
  have e : gL ow pr su (Nf (limL pr) ms) v = Nf (limL pr) ms v := Nat.le_antisymm (h.pre v hv) (h.li.up v hv)
  unfold gL lN at e
  rw [if_pos ho] at e
  obtain ⟨u, hu, q⟩ := vMin_mem (f := fun u => vN (limL pr) (gO pr v).toNat (Nf (limL pr) ms u)) (Sf_ok V hv).1
  obtain ⟨a, ha, rfl⟩ := List.mem_map.1 hu
  cases hf : (su.getD v []).find? (strQ pr ms v) with
  | some x => exact ⟨x, rfl⟩
  | none =>
    rw [List.find?_eq_none] at hf
    exact absurd (decide_eq_true (q.symm.trans e)) (hf a ha)
section
variable {tab : FuncId → Option AF} (T : HasA tab)
include T
set_option maxHeartbeats 1000000 in
theorem strategy31_p {M : Mem} {K : PV → Mem → Prop} {f1 o1 f2 o2 f3 o3 f4 o4 : Bool} {ow pr : List Int} {su : List (List Int)} (B : Bnd ow pr su)
    (hk : ∀ ms e, MeasA ow pr su ms e → K (.tuple [slI false true .i64 (strM ow pr su ms), p64 e]) M) :
    SemC tab 16 [gmP f1 o1 f2 o2 f3 o3 f4 o4 ow pr su] M K := by
  refine SemC_wk ?_
  refine SemC_pure T.h16 (by simp only [PP, P1, P2, P3, P4, P5, P6, P7, P8, P9, P10, P11, P12, P13, P14, L1, P15, N1, N2, N3, N4, N5, N6, N7, I1, I2, I3, I4, I5, I6, I7, reduceIte, reduceCtorEq, msC_len, msC_one, msC_und, under_slM, msC_0, psub_msC, pover_msC, z9, z9t, msL_len, msL_und, msL_one, prepl_ms, limC_len, limC_one, limC_und, limC_len0, pfrzL_msC, pfrzL_limC, psub_limC, pover_limC, z8, pcells_cp, one_cp, solC_und, solC_0, solC_1, solC_2, PV.under]) ?_
  simp only [af16, PP, P1, P2, P3, P4, P5, P6, P7, P8, P9, P10, P11, P12, P13, P14, L1, P15, N1, N2, N3, N4, N5, N6, N7, I1, I2, I3, I4, I5, I6, I7, reduceIte, reduceCtorEq]
  refine measures_p T B (fun ms e hA => ?_)
  rcases hA with ⟨c1, rfl, rfl⟩ | ⟨c1, rfl, hL⟩
  · simp only [PP, P1, P2, P3, P4, P5, P6, P7, P8, P9, P10, P11, P12, P13, P14, L1, P15, N1, N2, N3, N4, N5, N6, N7, I1, I2, I3, I4, I5, I6, I7, reduceIte, reduceCtorEq, msC_len, msC_one, msC_und, under_slM, msC_0, psub_msC, pover_msC, z9, z9t, msL_len, msL_und, msL_one, prepl_ms, limC_len, limC_one, limC_und, limC_len0, pfrzL_msC, pfrzL_limC, psub_limC, pover_limC, z8, pcells_cp, one_cp, solC_und, solC_0, solC_1, solC_2, c1]
    refine ⟨_, ?_, hk [] _ (.inl ⟨c1, rfl, rfl⟩)⟩
    refine PvWk.tuple rfl fun i y z h1 h2 => ?_
    match i with
    | 0 => cases h1; cases h2; exact PvWk.nils _ _ _
    | 1 => cases h1; cases h2; exact PvWk.refl _
    | i + 2 => simp at h1
  have V := valid_of c1
  have P := valid_pr V
  have n1 := V.n1
  have hp := V.p
  have hs := V.s
  have hml := hL.st.l
  have b0 : (0 : Int) ≤ ms.length := by omega
  have b1 : (ms.length : Int) * 8 ≤ 140737488355328 := by omega
  have b2 : (ms.length : Int) ≤ 9223372036854775807 := by omega
  simp only [PP, P1, P2, P3, P4, P5, P6, P7, P8, P9, P10, P11, P12, P13, P14, L1, P15, N1, N2, N3, N4, N5, N6, N7, I1, I2, I3, I4, I5, I6, I7, reduceIte, reduceCtorEq, msC_len, msC_one, msC_und, under_slM, msC_0, psub_msC, pover_msC, z9, z9t, msL_len, msL_und, msL_one, prepl_ms, limC_len, limC_one, limC_und, limC_len0, pfrzL_msC, pfrzL_limC, psub_limC, pover_limC, z8, pcells_cp, one_cp, solC_und, solC_0, solC_1, solC_2]
  refine newSolver_p T P ?_
  simp only [PP, P1, P2, P3, P4, P5, P6, P7, P8, P9, P10, P11, P12, P13, P14, L1, P15, N1, N2, N3, N4, N5, N6, N7, I1, I2, I3, I4, I5, I6, I7, reduceIte, reduceCtorEq, msC_len, msC_one, msC_und, under_slM, msC_0, psub_msC, pover_msC, z9, z9t, msL_len, msL_und, msL_one, prepl_ms, limC_len, limC_one, limC_und, limC_len0, pfrzL_msC, pfrzL_limC, psub_limC, pover_limC, z8, pcells_cp, one_cp, solC_und, solC_0, solC_1, solC_2, b0, b1, b2, Int.le_refl]
  refine loop3 (fun (k ver : Nat) (a : List Int) => k ≤ ms.length ∧ a.length = ms.length ∧ ∀ v, v < k → a[v]? = some (strF ow pr su ms v))
    (fun k ver a => [.junk, .ptr 0 0 0, .junk, .junk, .ptr 1 0 0, .junk, .ptr 2 0 0, .ref 3 0 1 0 ms.length, .junk, .junk, .junk, .junk, .junk, .junk, .junk, .junk, .junk, .junk, .junk, .junk, .junk, .junk, .junk, .junk, slR f3 o3 f4 o4 .i64 su, p64 su.length, p64 k, .junk, .junk, .junk, .junk, .junk, .junk, .junk, .junk, .junk, .junk, .junk, .junk, .junk, .junk, .junk, .junk, .junk, .junk, .junk, .junk, .junk, .junk, .junk, .junk, .junk, .junk, .junk, .junk, .junk, .junk, .junk, .junk])
    (fun k ver a => [.cells 0 0 [slI f1 o1 .u8 ow, slI f2 o2 .i64 pr, slR f3 o3 f4 o4 .i64 su], .cells 0 1 [slM false true ms], .cells 0 1 [.cp (solC f1 o1 f2 o2 f3 o3 f4 o4 ow pr su) 0], .cells 0 ver (a.map (PV.int .i64))]) (fun k _ _ => ms.length - k) 0 0 (List.replicate ms.length 0) ⟨by omega, by simp, fun v h => by omega⟩ (by simp only [PWeak_nil, PWeak_junk, PWeak_same, Int.cast_ofNat_Int, List.length_append, List.length_cons, List.length_nil, Nat.zero_add]) (by simp only [List.map_replicate]) ?_
  intro k ver a ⟨hle, la, hlo⟩ ih
  refine SemW_go (by kernel_rfl) ?_
  simp only [PP, P1, P2, P3, P4, P5, P6, P7, P8, P9, P10, P11, P12, P13, P14, L1, P15, N1, N2, N3, N4, N5, N6, N7, I1, I2, I3, I4, I5, I6, I7, reduceIte, reduceCtorEq]
  refine QIf.intro (fun c => ?_) (fun c => ?_)
  · have hk' : k < ms.length := by omega
    have hkn : k < ow.length := by omega
    have k0 : (0 : Int) ≤ k := by omega
    have kn : (k : Int) < ms.length := by omega
    have ko : (k : Int) < ow.length := by omega
    have kp : (k : Int) < pr.length := by omega
    have ks : (k : Int) < su.length := by omega
    have k1 : k + 1 ≤ ms.length := hk'
    have hwk := wrap_succ (k := k) (by show _ < 1000000000000; omega)
    obtain ⟨x, g5⟩ := some_of (xs := ms) (k := k) (by omega)
    obtain ⟨o', g1⟩ := some_of (xs := ow) (k := k) hkn
    obtain ⟨row, g3⟩ := some_of (xs := su) (k := k) (by omega)
    obtain ⟨pv, g2⟩ := some_of (xs := pr) (k := k) (by omega)
    obtain ⟨p0, p1⟩ := P.2 pv (List.mem_of_getElem? g2)
    obtain ⟨p, rfl⟩ : ∃ p : Nat, pv = p := ⟨pv.toNat, by omega⟩
    have hx := hL.st.ok x (List.mem_of_getElem? g5)
    have e1 : ow.getD k 0 = o' := getD_some g1
    have e2 : gO pr k = p := getD_some g2
    have e3 : su.getD k [] = row := by simp [List.getD, g3]
    have e5 : ms.getD k mz = x := by simp [List.getD, g5]
    have eN : Nf (limL pr) ms k = x.num (limL pr) := Nf_at g5
    have r1 := psub_msL g5
    have r2 := ms_lt g5
    have r0 := msL_at0 g5
    have hrow : ∀ u ∈ row, 0 ≤ u ∧ u < ow.length := fun u hu => su_range V hkn (by rw [e3]; exact hu)
    have hrl : row.length < 1000000000000 := B.r row (List.mem_of_getElem? g3)
    have ef : strF ow pr su ms k = if o' = 0 ∧ x.top = false then (row.find? (strQ pr ms k)).getD (-1) else -1 := by unfold strF; rw [e1, e3, e5]
    have ls : (a.set k (-1)).length = ms.length := by simp [la]
    have next : ∀ (a' : List Int), a'.length = ms.length → a'[k]? = some (strF ow pr su ms k) → (∀ v, v ≠ k → a'[v]? = a[v]?) → k + 1 ≤ ms.length ∧ a'.length = ms.length ∧ ∀ v, v < k + 1 → a'[v]? = some (strF ow pr su ms v) := fun a' h1 h2 h3 => ⟨hk', h1, fun v hv => by
      by_cases e : v = k
      · subst e; exact h2
      · rw [h3 v e]; exact hlo v (by omega)⟩
    simp only [PP, P1, P2, P3, P4, P5, P6, P7, P8, P9, P10, P11, P12, P13, P14, L1, P15, N1, N2, N3, N4, N5, N6, N7, I1, I2, I3, I4, I5, I6, I7, reduceIte, reduceCtorEq, msC_len, msC_one, msC_und, under_slM, msC_0, psub_msC, pover_msC, z9, z9t, msL_len, msL_und, msL_one, prepl_ms, limC_len, limC_one, limC_und, limC_len0, pfrzL_msC, pfrzL_limC, psub_limC, pover_limC, z8, pcells_cp, one_cp, solC_und, solC_0, solC_1, solC_2, c, k0, kn, ko, k1, la, g1, g3]
    by_cases d : o' = 0
    · simp only [PP, P1, P2, P3, P4, P5, P6, P7, P8, P9, P10, P11, P12, P13, P14, L1, P15, N1, N2, N3, N4, N5, N6, N7, I1, I2, I3, I4, I5, I6, I7, reduceIte, reduceCtorEq, msC_len, msC_one, msC_und, under_slM, msC_0, psub_msC, pover_msC, z9, z9t, msL_len, msL_und, msL_one, prepl_ms, limC_len, limC_one, limC_und, limC_len0, pfrzL_msC, pfrzL_limC, psub_limC, pover_limC, z8, pcells_cp, one_cp, solC_und, solC_0, solC_1, solC_2, d, k0, kn, ko, r0]
      cases ht : x.top with
      | true =>
        rw [ht, if_neg (fun h => by cases h.2)] at ef
        simp only [PP, P1, P2, P3, P4, P5, P6, P7, P8, P9, P10, P11, P12, P13, P14, L1, P15, N1, N2, N3, N4, N5, N6, N7, I1, I2, I3, I4, I5, I6, I7, reduceIte, reduceCtorEq, msC_len, msC_one, msC_und, under_slM, msC_0, psub_msC, pover_msC, z9, z9t, msL_len, msL_und, msL_one, prepl_ms, limC_len, limC_one, limC_und, limC_len0, pfrzL_msC, pfrzL_limC, psub_limC, pover_limC, z8, pcells_cp, one_cp, solC_und, solC_0, solC_1, solC_2, hwk]
        refine SemW_re (GStep.drop (b := [.junk, .ptr 0 0 0, .junk, .junk, .ptr 1 0 0, .junk, .ptr 2 0 0, .ref 3 0 1 0 ms.length, .junk, .junk, .junk, .junk, .junk, .junk, .junk, .junk, .junk, .junk, .junk, .junk, .junk, .junk, .junk, .junk, slR f3 o3 f4 o4 .i64 su, p64 su.length, p64 ((k + 1 : Nat) : Int), .junk, .junk, .junk, .junk, .junk, .junk, .junk, .junk, .junk, .junk, .junk, .junk, .junk, .junk, .junk, .junk, .junk, .junk, .junk, .junk, .junk, .junk, .junk, .junk, .junk, .junk, .junk, .junk, .junk, .junk, .junk, .junk]) 4 (Nat.zero_le _) (by simp) (by simp only [PWeak_nil, PWeak_junk, PWeak_same, Int.cast_ofNat_Int, List.length_append, List.length_cons, List.length_nil, Nat.zero_add]) (by simp only [PP, P1, P2, P3, P4, P5, P6, P7, P8, P9, P10, P11, P12, P13, P14, L1, P15, N1, N2, N3, N4, N5, N6, N7, I1, I2, I3, I4, I5, I6, I7, reduceIte, reduceCtorEq, msC_len, msC_one, msC_und, under_slM, msC_0, psub_msC, pover_msC, z9, z9t, msL_len, msL_und, msL_one, prepl_ms, limC_len, limC_one, limC_und, limC_len0, pfrzL_msC, pfrzL_limC, psub_limC, pover_limC, z8, pcells_cp, one_cp, solC_und, solC_0, solC_1, solC_2]) (by simp only [← List.map_set, PP, P1, P2, P3, P4, P5, P6, P7, P8, P9, P10, P11, P12, P13, P14, L1, P15, N1, N2, N3, N4, N5, N6, N7, I1, I2, I3, I4, I5, I6, I7, reduceIte, reduceCtorEq, msC_len, msC_one, msC_und, under_slM, msC_0, psub_msC, pover_msC, z9, z9t, msL_len, msL_und, msL_one, prepl_ms, limC_len, limC_one, limC_und, limC_len0, pfrzL_msC, pfrzL_limC, psub_limC, pover_limC, z8, pcells_cp, one_cp, solC_und, solC_0, solC_1, solC_2, PV.under]) rfl) ?_
        refine SemW_to (ih (k + 1) (ver + 1) (a.set k (-1)) (next _ ls ?_ fun v hv => List.getElem?_set_ne (by omega)) (by omega)) (by simp only [PWeak_nil, PWeak_junk, PWeak_same, Int.cast_ofNat_Int, List.length_append, List.length_cons, List.length_nil, Nat.zero_add]) (by simp only [← List.map_set, PP, P1, P2, P3, P4, P5, P6, P7, P8, P9, P10, P11, P12, P13, P14, L1, P15, N1, N2, N3, N4, N5, N6, N7, I1, I2, I3, I4, I5, I6, I7, reduceIte, reduceCtorEq])
        rw [ef, List.getElem?_set_self (by omega)]
      | false =>
        obtain ⟨w, hw⟩ := hL.find V hkn (by rw [e1]; exact d)
        rw [e3] at hw
        rw [ht, if_pos ⟨d, rfl⟩, hw] at ef
        obtain ⟨j, hj1, hj2⟩ := idx_find (k := 0) hw
        rw [Nat.zero_add] at hj1
        have j0 : (0 : Int) ≤ j := by omega
        have jn : (j : Int) < row.length := by have := getSome_lt hj2; omega
        simp only [PP, P1, P2, P3, P4, P5, P6, P7, P8, P9, P10, P11, P12, P13, P14, L1, P15, N1, N2, N3, N4, N5, N6, N7, I1, I2, I3, I4, I5, I6, I7, reduceIte, reduceCtorEq, msC_len, msC_one, msC_und, under_slM, msC_0, psub_msC, pover_msC, z9, z9t, msL_len, msL_und, msL_one, prepl_ms, limC_len, limC_one, limC_und, limC_len0, pfrzL_msC, pfrzL_limC, psub_limC, pover_limC, z8, pcells_cp, one_cp, solC_und, solC_0, solC_1, solC_2]
        refine indexFunc_p T (strQ pr ms k) hrl (fun u hu K' hK' => ?_) ?_
        · obtain ⟨u0, u1⟩ := hrow u hu
          obtain ⟨z, g6⟩ := some_of (xs := ms) (k := u.toNat) (by omega)
          have hz := hL.st.ok z (List.mem_of_getElem? g6)
          have eZ : Nf (limL pr) ms u.toNat = z.num (limL pr) := Nf_at g6
          have u1' : u < ms.length := by omega
          have s1 := psub_msL g6
          have s2 := ms_lt g6
          refine SemC_fn T.h45 ?_
          simp only [af45, PP, P1, P2, P3, P4, P5, P6, P7, P8, P9, P10, P11, P12, P13, P14, L1, P15, N1, N2, N3, N4, N5, N6, N7, I1, I2, I3, I4, I5, I6, I7, reduceIte, reduceCtorEq, msC_len, msC_one, msC_und, under_slM, msC_0, psub_msC, pover_msC, z9, z9t, msL_len, msL_und, msL_one, prepl_ms, limC_len, limC_one, limC_und, limC_len0, pfrzL_msC, pfrzL_limC, psub_limC, pover_limC, z8, pcells_cp, one_cp, solC_und, solC_0, solC_1, solC_2, k0, kn, kp, g2, u0, u1', s1, s2, r1, r2]
          refine via_p T P.1 (by omega) hz (fun y y1 y2 => ?_)
          have hlt := limL_lt P.1
          have hy : decide (y = x) = strQ pr ms k u := by
            unfold strQ
            rw [e2, Int.toNat_natCast, eZ, eN, ← y2]
            by_cases e : y = x
            · subst e; simp
            · have : ¬ y.num (limL pr) = x.num (limL pr) := fun q => e (Ms.inj y1 hx q)
              simp [e, this]
          simp only [PP, P1, P2, P3, P4, P5, P6, P7, P8, P9, P10, P11, P12, P13, P14, L1, P15, N1, N2, N3, N4, N5, N6, N7, I1, I2, I3, I4, I5, I6, I7, reduceIte, reduceCtorEq, msC_len, msC_one, msC_und, under_slM, msC_0, psub_msC, pover_msC, z9, z9t, msL_len, msL_und, msL_one, prepl_ms, limC_len, limC_one, limC_und, limC_len0, pfrzL_msC, pfrzL_limC, psub_limC, pover_limC, z8, pcells_cp, one_cp, solC_und, solC_0, solC_1, solC_2, k0, kn, r1, r2, peq_msC (y1.fit hlt) (hx.fit hlt), hy]
          exact hK'
        · rw [hj1]
          simp only [PP, P1, P2, P3, P4, P5, P6, P7, P8, P9, P10, P11, P12, P13, P14, L1, P15, N1, N2, N3, N4, N5, N6, N7, I1, I2, I3, I4, I5, I6, I7, reduceIte, reduceCtorEq, msC_len, msC_one, msC_und, under_slM, msC_0, psub_msC, pover_msC, z9, z9t, msL_len, msL_und, msL_one, prepl_ms, limC_len, limC_one, limC_und, limC_len0, pfrzL_msC, pfrzL_limC, psub_limC, pover_limC, z8, pcells_cp, one_cp, solC_und, solC_0, solC_1, solC_2, j0, jn, hj2, k0, kn, k1, la, hwk]
          refine SemW_re (GStep.drop (b := [.junk, .ptr 0 0 0, .junk, .junk, .ptr 1 0 0, .junk, .ptr 2 0 0, .ref 3 0 1 0 ms.length, .junk, .junk, .junk, .junk, .junk, .junk, .junk, .junk, .junk, .junk, .junk, .junk, .junk, .junk, .junk, .junk, slR f3 o3 f4 o4 .i64 su, p64 su.length, p64 ((k + 1 : Nat) : Int), .junk, .junk, .junk, .junk, .junk, .junk, .junk, .junk, .junk, .junk, .junk, .junk, .junk, .junk, .junk, .junk, .junk, .junk, .junk, .junk, .junk, .junk, .junk, .junk, .junk, .junk, .junk, .junk, .junk, .junk, .junk, .junk]) 4 (Nat.zero_le _) (by simp) (by simp only [PWeak_nil, PWeak_junk, PWeak_same, Int.cast_ofNat_Int, List.length_append, List.length_cons, List.length_nil, Nat.zero_add]) (by simp only [PP, P1, P2, P3, P4, P5, P6, P7, P8, P9, P10, P11, P12, P13, P14, L1, P15, N1, N2, N3, N4, N5, N6, N7, I1, I2, I3, I4, I5, I6, I7, reduceIte, reduceCtorEq, msC_len, msC_one, msC_und, under_slM, msC_0, psub_msC, pover_msC, z9, z9t, msL_len, msL_und, msL_one, prepl_ms, limC_len, limC_one, limC_und, limC_len0, pfrzL_msC, pfrzL_limC, psub_limC, pover_limC, z8, pcells_cp, one_cp, solC_und, solC_0, solC_1, solC_2]) (by simp only [← List.map_set, PP, P1, P2, P3, P4, P5, P6, P7, P8, P9, P10, P11, P12, P13, P14, L1, P15, N1, N2, N3, N4, N5, N6, N7, I1, I2, I3, I4, I5, I6, I7, reduceIte, reduceCtorEq, msC_len, msC_one, msC_und, under_slM, msC_0, psub_msC, pover_msC, z9, z9t, msL_len, msL_und, msL_one, prepl_ms, limC_len, limC_one, limC_und, limC_len0, pfrzL_msC, pfrzL_limC, psub_limC, pover_limC, z8, pcells_cp, one_cp, solC_und, solC_0, solC_1, solC_2, PV.under]) rfl) ?_
          refine SemW_to (ih (k + 1) (ver + 1 + 1) ((a.set k (-1)).set k w) (next _ (by simp [la]) ?_ fun v hv => ?_) (by omega)) (by simp only [PWeak_nil, PWeak_junk, PWeak_same, Int.cast_ofNat_Int, List.length_append, List.length_cons, List.length_nil, Nat.zero_add]) (by simp only [← List.map_set, PP, P1, P2, P3, P4, P5, P6, P7, P8, P9, P10, P11, P12, P13, P14, L1, P15, N1, N2, N3, N4, N5, N6, N7, I1, I2, I3, I4, I5, I6, I7, reduceIte, reduceCtorEq])
          · rw [ef, List.getElem?_set_self (by omega)]; rfl
          · rw [List.getElem?_set_ne (by omega), List.getElem?_set_ne (by omega)]
    · rw [if_neg (fun h => d h.1)] at ef
      simp only [PP, P1, P2, P3, P4, P5, P6, P7, P8, P9, P10, P11, P12, P13, P14, L1, P15, N1, N2, N3, N4, N5, N6, N7, I1, I2, I3, I4, I5, I6, I7, reduceIte, reduceCtorEq, msC_len, msC_one, msC_und, under_slM, msC_0, psub_msC, pover_msC, z9, z9t, msL_len, msL_und, msL_one, prepl_ms, limC_len, limC_one, limC_und, limC_len0, pfrzL_msC, pfrzL_limC, psub_limC, pover_limC, z8, pcells_cp, one_cp, solC_und, solC_0, solC_1, solC_2, d, hwk]
      refine SemW_re (GStep.drop (b := [.junk, .ptr 0 0 0, .junk, .junk, .ptr 1 0 0, .junk, .ptr 2 0 0, .ref 3 0 1 0 ms.length, .junk, .junk, .junk, .junk, .junk, .junk, .junk, .junk, .junk, .junk, .junk, .junk, .junk, .junk, .junk, .junk, slR f3 o3 f4 o4 .i64 su, p64 su.length, p64 ((k + 1 : Nat) : Int), .junk, .junk, .junk, .junk, .junk, .junk, .junk, .junk, .junk, .junk, .junk, .junk, .junk, .junk, .junk, .junk, .junk, .junk, .junk, .junk, .junk, .junk, .junk, .junk, .junk, .junk, .junk, .junk, .junk, .junk, .junk, .junk]) 4 (Nat.zero_le _) (by simp) (by simp only [PWeak_nil, PWeak_junk, PWeak_same, Int.cast_ofNat_Int, List.length_append, List.length_cons, List.length_nil, Nat.zero_add]) (by simp only [PP, P1, P2, P3, P4, P5, P6, P7, P8, P9, P10, P11, P12, P13, P14, L1, P15, N1, N2, N3, N4, N5, N6, N7, I1, I2, I3, I4, I5, I6, I7, reduceIte, reduceCtorEq, msC_len, msC_one, msC_und, under_slM, msC_0, psub_msC, pover_msC, z9, z9t, msL_len, msL_und, msL_one, prepl_ms, limC_len, limC_one, limC_und, limC_len0, pfrzL_msC, pfrzL_limC, psub_limC, pover_limC, z8, pcells_cp, one_cp, solC_und, solC_0, solC_1, solC_2]) (by simp only [← List.map_set, PP, P1, P2, P3, P4, P5, P6, P7, P8, P9, P10, P11, P12, P13, P14, L1, P15, N1, N2, N3, N4, N5, N6, N7, I1, I2, I3, I4, I5, I6, I7, reduceIte, reduceCtorEq, msC_len, msC_one, msC_und, under_slM, msC_0, psub_msC, pover_msC, z9, z9t, msL_len, msL_und, msL_one, prepl_ms, limC_len, limC_one, limC_und, limC_len0, pfrzL_msC, pfrzL_limC, psub_limC, pover_limC, z8, pcells_cp, one_cp, solC_und, solC_0, solC_1, solC_2, PV.under]) rfl) ?_
      refine SemW_to (ih (k + 1) (ver + 1) (a.set k (-1)) (next _ ls ?_ fun v hv => List.getElem?_set_ne (by omega)) (by omega)) (by simp only [PWeak_nil, PWeak_junk, PWeak_same, Int.cast_ofNat_Int, List.length_append, List.length_cons, List.length_nil, Nat.zero_add]) (by simp only [← List.map_set, PP, P1, P2, P3, P4, P5, P6, P7, P8, P9, P10, P11, P12, P13, P14, L1, P15, N1, N2, N3, N4, N5, N6, N7, I1, I2, I3, I4, I5, I6, I7, reduceIte, reduceCtorEq])
      rw [ef, List.getElem?_set_self (by omega)]
  · have hkn : k = ms.length := by omega
    subst hkn
    have ea : a = strM ow pr su ms := by
      apply List.ext_getElem?
      intro v
      unfold strM
      by_cases hv : v < ms.length
      · rw [hlo v hv, tabA_get hv]
      · rw [List.getElem?_eq_none (by omega), tabA_none (by omega)]
    subst ea
    simp only [PP, P1, P2, P3, P4, P5, P6, P7, P8, P9, P10, P11, P12, P13, P14, L1, P15, N1, N2, N3, N4, N5, N6, N7, I1, I2, I3, I4, I5, I6, I7, reduceIte, reduceCtorEq, c]
    rw [frzIs la]
    simp only [PP, P1, P2, P3, P4, P5, P6, P7, P8, P9, P10, P11, P12, P13, P14, L1, P15, N1, N2, N3, N4, N5, N6, N7, I1, I2, I3, I4, I5, I6, I7, reduceIte, reduceCtorEq]
    exact ⟨_, PvWk.refl _, hk ms 0 (.inr ⟨c1, rfl, hL⟩)⟩
end
end Go.Am.Ar
set_option linter.unusedVariables false
namespace Go.Am.Ar
def bm (L : List Bool) (v : Nat) : Prop := L[v]? = some true
instance (L : List Bool) (v : Nat) : Decidable (bm L v) := by unfold bm; infer_instance
def stN (st : List Int) (v : Nat) : Nat := (st.getD v 0).toNat
theorem bm_lt {L : List Bool} {v : Nat} (h : bm L v) : v < L.length := getSome_lt h
theorem bm_of {L : List Bool} {v : Nat} {b : Bool} (h : L[v]? = some b) : bm L v ↔ b = true := by
  unfold bm; rw [h]; simp
theorem bm_set {L : List Bool} {v w : Nat} (hv : v < L.length) : bm (L.set v true) w ↔ w = v ∨ bm L w := by
  unfold bm
  by_cases e : w = v
  · subst e; simp [hv]
  · rw [List.getElem?_set_ne (by omega)]; simp [e]
theorem stN_set {st : List Int} {v w : Nat} {x : Int} (hv : v < st.length) : stN (st.set v x) w = if w = v then x.toNat else stN st w := by
  unfold stN
  rw [List.getD, List.getD]
  by_cases e : w = v
  · subst e; simp [hv]
  · rw [List.getElem?_set_ne (by omega), if_neg e]
theorem count_add {L : List Bool} {v : Nat} (h : L[v]? = some false) : (L.set v true).count true = L.count true + 1 := by
  have hv := getSome_lt h
  rw [List.getElem?_eq_getElem hv] at h
  have h : L[v] = false := by simpa using h
  rw [List.count_set hv, h]
  simp
structure AJ (O : Nat → Int) (S : Nat → List Nat) (D X : Nat → Prop) (p : Int) (s0 : Nat → Nat) (n : Nat) (out : List Bool) (st : List Int) (r : Nat → Nat) (c : Nat) : Prop where
  lo : out.length = n
  ls : st.length = n
  nn : ∀ x ∈ st, 0 ≤ x
  sub : ∀ v, bm out v → D v
  tgt : ∀ v, X v → bm out v
  own : ∀ v, bm out v → ¬ X v → O v = p → stN st v ∈ S v ∧ bm out (stN st v) ∧ r (stN st v) < r v
  opp : ∀ v, bm out v → ¬ X v → ¬ O v = p → ∀ u ∈ S v, D u → bm out u ∧ r u < r v
  same : ∀ v, ¬ bm out v ∨ X v → stN st v = s0 v
  rk : ∀ v, bm out v → r v < c
def Stab (O : Nat → Int) (S : Nat → List Nat) (D : Nat → Prop) (p : Int) (out : List Bool) (v : Nat) : Prop :=
  D v → ¬ bm out v → (O v = p → ∀ u ∈ S v, ¬ bm out u) ∧ (¬ O v = p → ∃ u ∈ S v, D u ∧ ¬ bm out u)
section
variable {O : Nat → Int} {S : Nat → List Nat} {D X : Nat → Prop} {p : Int} {s0 : Nat → Nat} {n : Nat} {out : List Bool} {st : List Int} {r : Nat → Nat} {c : Nat}
theorem AJ.start {tgt : List Bool} {st : List Int} (h1 : tgt.length = n) (h2 : st.length = n) (h3 : ∀ x ∈ st, 0 ≤ x) (h4 : ∀ v, bm tgt v → D v) : AJ O S D (bm tgt) p (stN st) n tgt st (fun _ => 0) 1 :=
  ⟨h1, h2, h3, h4, fun v h => h, fun v h q => absurd h q, fun v h q => absurd h q, fun v _ => rfl, fun v _ => by omega⟩
theorem AJ.addOwn (j : AJ O S D X p s0 n out st r c) {v : Nat} {x : Int} (hv : v < n) (hn : ¬ bm out v) (hd : D v) (ho : O v = p) (hx : 0 ≤ x) (h1 : x.toNat ∈ S v) (h2 : bm out x.toNat) :
    AJ O S D X p s0 n (out.set v true) (st.set v x) (fun w => if w = v then c else r w) (c + 1) := by
  have hvo : v < out.length := by rw [j.lo]; exact hv
  have hvs : v < st.length := by rw [j.ls]; exact hv
  have hxv : x.toNat ≠ v := fun e => hn (e ▸ h2)
  have hXv : ¬ X v := fun h => hn (j.tgt v h)
  refine ⟨by simp [j.lo], by simp [j.ls], fun y hy => ?_, fun w hw => ?_, fun w hw => (bm_set hvo).2 (.inr (j.tgt w hw)), fun w hw hxw how => ?_, fun w hw hxw how u hu hdu => ?_, fun w hw => ?_, fun w hw => ?_⟩
  · rcases List.mem_or_eq_of_mem_set hy with h | h
    · exact j.nn y h
    · subst h; exact hx
  · rcases (bm_set hvo).1 hw with h | h
    · subst h; exact hd
    · exact j.sub w h
  · rw [stN_set hvs]
    by_cases e : w = v
    · subst e
      simp only [if_true]
      exact ⟨h1, (bm_set hvo).2 (.inr h2), by simp only [if_neg hxv]; exact j.rk _ h2⟩
    · have hb := ((bm_set hvo).1 hw).resolve_left e
      obtain ⟨q1, q2, q3⟩ := j.own w hb hxw how
      have e2 : stN st w ≠ v := fun e => hn (e ▸ q2)
      simp only [if_neg e, if_neg e2]
      exact ⟨q1, (bm_set hvo).2 (.inr q2), q3⟩
  · have e : w ≠ v := by rintro rfl; exact how ho
    have hb := ((bm_set hvo).1 hw).resolve_left e
    obtain ⟨q1, q2⟩ := j.opp w hb hxw how u hu hdu
    have e2 : u ≠ v := fun e => hn (e ▸ q1)
    simp only [if_neg e, if_neg e2]
    exact ⟨(bm_set hvo).2 (.inr q1), q2⟩
  · have e : w ≠ v := by
      rintro rfl
      rcases hw with h | h
      · exact h ((bm_set hvo).2 (.inl rfl))
      · exact hXv h
    rw [stN_set hvs, if_neg e]
    exact j.same w (hw.imp (fun h q => h ((bm_set hvo).2 (.inr q))) id)
  · rcases (bm_set hvo).1 hw with h | h
    · subst h; simp
    · have := j.rk w h
      by_cases e : w = v
      · simp [e]
      · simp only [if_neg e]; omega
theorem AJ.addOpp (j : AJ O S D X p s0 n out st r c) {v : Nat} (hv : v < n) (hn : ¬ bm out v) (hd : D v) (ho : ¬ O v = p) (h1 : ∀ u ∈ S v, D u → bm out u) :
    AJ O S D X p s0 n (out.set v true) st (fun w => if w = v then c else r w) (c + 1) := by
  have hvo : v < out.length := by rw [j.lo]; exact hv
  have hXv : ¬ X v := fun h => hn (j.tgt v h)
  refine ⟨by simp [j.lo], j.ls, j.nn, fun w hw => ?_, fun w hw => (bm_set hvo).2 (.inr (j.tgt w hw)), fun w hw hxw how => ?_, fun w hw hxw how u hu hdu => ?_, fun w hw => ?_, fun w hw => ?_⟩
  · rcases (bm_set hvo).1 hw with h | h
    · subst h; exact hd
    · exact j.sub w h
  · have e : w ≠ v := by rintro rfl; exact ho how
    have hb := ((bm_set hvo).1 hw).resolve_left e
    obtain ⟨q1, q2, q3⟩ := j.own w hb hxw how
    have e2 : stN st w ≠ v := fun e => hn (e ▸ q2)
    simp only [if_neg e, if_neg e2]
    exact ⟨q1, (bm_set hvo).2 (.inr q2), q3⟩
  · by_cases e : w = v
    · subst e
      have q1 := h1 u hu hdu
      have e2 : u ≠ w := fun e => hn (e ▸ q1)
      simp only [if_true, if_neg e2]
      exact ⟨(bm_set hvo).2 (.inr q1), j.rk u q1⟩
    · have hb := ((bm_set hvo).1 hw).resolve_left e
      obtain ⟨q1, q2⟩ := j.opp w hb hxw how u hu hdu
      have e2 : u ≠ v := fun e => hn (e ▸ q1)
      simp only [if_neg e, if_neg e2]
      exact ⟨(bm_set hvo).2 (.inr q1), q2⟩
  · exact j.same w (hw.imp (fun h q => h ((bm_set hvo).2 (.inr q))) id)
  · rcases (bm_set hvo).1 hw with h | h
    · subst h; simp
    · have := j.rk w h
      by_cases e : w = v
      · simp [e]
      · simp only [if_neg e]; omega
theorem AJ.fin (j : AJ O S D X p s0 n out st r c) (hD : ∀ v, D v → v < n) (h : ∀ v, v < n → Stab O S D p out v) : AttIn O S D p X (bm out) s0 (stN st) r :=
  ⟨j.sub, j.tgt, j.own, j.opp, j.same, fun v hd hn ho => (h v (hD v hd) hd hn).1 ho, fun v hd hn ho => (h v (hD v hd) hd hn).2 ho⟩
end
end Go.Am.Ar
set_option linter.unusedVariables false
namespace Go.Am.Ar
structure RJ (S : Nat → List Nat) (Q : Nat → Prop) (v n : Nat) (w : List Bool) (q : List Nat) (C : Nat → Prop) : Prop where
  lw : w.length = n
  qn : ∀ x ∈ q, x < n
  snd : ∀ u, bm w u → Rch (fun a b => b ∈ S a) Q v u
  qr : ∀ x ∈ q, x = v ∨ bm w x
  clo : ∀ x, x = v ∨ bm w x → x ∈ q ∨ C x ∨ ∀ y ∈ S x, Q y → bm w y
section
variable {S : Nat → List Nat} {Q : Nat → Prop} {v n : Nat} {w : List Bool} {q : List Nat} {C : Nat → Prop} {u x : Nat}
theorem RJ.start (hv : v < n) : RJ S Q v n (List.replicate n false) [v] fun _ => False := by
  have no : ∀ u, ¬ bm (List.replicate n false) u := fun u h => by
    unfold bm at h
    rw [List.getElem?_replicate] at h
    split at h <;> cases h
  refine ⟨by simp, fun x hx => ?_, fun u h => absurd h (no u), fun x hx => ?_, fun x hx => ?_⟩
  · rw [List.mem_singleton] at hx; subst hx; exact hv
  · exact .inl (List.mem_singleton.1 hx)
  · exact .inl (List.mem_singleton.2 (hx.resolve_right (no x)))
theorem RJ.pop (j : RJ S Q v n w (u :: q) fun _ => False) : RJ S Q v n w q fun x => x = u :=
  ⟨j.lw, fun x hx => j.qn x (List.mem_cons_of_mem _ hx), j.snd, fun x hx => j.qr x (List.mem_cons_of_mem _ hx), fun x hx => by
    rcases j.clo x hx with h | h | h
    · rcases List.mem_cons.1 h with e | h
      · exact .inr (.inl e)
      · exact .inl h
    · exact h.elim
    · exact .inr (.inr h)⟩
theorem RJ.push (j : RJ S Q v n w q C) (hu : u = v ∨ bm w u) (hx : x ∈ S u) (hq : Q x) (hn : x < n) : RJ S Q v n (w.set x true) (q ++ [x]) C := by
  have hl : x < w.length := by rw [j.lw]; exact hn
  have up : ∀ y, bm w y → bm (w.set x true) y := fun y h => (bm_set hl).2 (.inr h)
  refine ⟨by simp [j.lw], fun y hy => ?_, fun y hy => ?_, fun y hy => ?_, fun y hy => ?_⟩
  · rcases List.mem_append.1 hy with h | h
    · exact j.qn y h
    · rw [List.mem_singleton] at h; subst h; exact hn
  · rcases (bm_set hl).1 hy with h | h
    · subst h
      rcases hu with h | h
      · subst h; exact .one hx hq
      · exact .more (j.snd _ h) hx hq
    · exact j.snd y h
  · rcases List.mem_append.1 hy with h | h
    · exact (j.qr y h).imp id (up y)
    · rw [List.mem_singleton] at h; subst h; exact .inr ((bm_set hl).2 (.inl rfl))
  · have key : y = x ∨ y = v ∨ bm w y := by
      rcases hy with h | h
      · exact .inr (.inl h)
      · exact ((bm_set hl).1 h).imp id .inr
    rcases key with h | h
    · exact .inl (List.mem_append.2 (.inr (List.mem_singleton.2 h)))
    · rcases j.clo y h with h | h | h
      · exact .inl (List.mem_append.2 (.inl h))
      · exact .inr (.inl h)
      · exact .inr (.inr fun z hz hqz => up z (h z hz hqz))
theorem RJ.close (j : RJ S Q v n w q fun x => x = u) (h : ∀ y ∈ S u, Q y → bm w y) : RJ S Q v n w q fun _ => False :=
  ⟨j.lw, j.qn, j.snd, j.qr, fun x hx => by
    rcases j.clo x hx with h1 | h1 | h1
    · exact .inl h1
    · subst h1; exact .inr (.inr h)
    · exact .inr (.inr h1)⟩
theorem RJ.fin (j : RJ S Q v n w [] fun _ => False) (u : Nat) : bm w u ↔ Rch (fun a b => b ∈ S a) Q v u := by
  refine ⟨j.snd u, fun h => ?_⟩
  have clo : ∀ x, x = v ∨ bm w x → ∀ y ∈ S x, Q y → bm w y := fun x hx => by
    rcases j.clo x hx with h | h | h
    · cases h
    · exact h.elim
    · exact h
  induction h with
  | one h1 h2 => exact clo v (.inl rfl) _ h1 h2
  | more _ h1 h2 ih => exact clo _ (.inr ih) _ h1 h2
end
end Go.Am.Ar
set_option linter.unusedVariables false
set_option linter.unusedSimpArgs false
set_option maxRecDepth 10000
namespace Go.Am.Ar
open Go.Am renaming pchk → P1, pold → P2, PKNo → P3, ppack → P4, PObj.under → P5, pput → P6, ptset → P7, ptget → P8, pev → P9, ofAV → P10, ofAV1 → P11, ppad → P12, pfill → P13, prepl → P14, AO.effect → P15
open List renaming replicate → L1
open Nat renaming reduceAdd → N1, reduceSub → N2, reduceMul → N3, reduceLT → N4, reduceLeDiff → N5, reduceEqDiff → N6, reduceBEq → N7
open Int renaming reduceToNat → I1, reduceLT → I2, reduceLE → I3, reduceEq → I4, reduceAdd → I5, reduceSub → I6, reduceNeg → I7
abbrev nI (q : List Nat) : List Int := q.map fun (x : Nat) => (x : Int)
def RowsIn (su : List (List Int)) : Prop := su.length < 1000000000000 ∧ ∀ row ∈ su, row.length < 1000000000000 ∧ ∀ x ∈ row, 0 ≤ x ∧ x < su.length
section
variable {tab : FuncId → Option AF} (T : HasA tab)
include T
theorem reach_p {M : Mem} {K : PV → Mem → Prop} {f1 o1 f2 o2 f3 o3 : Bool} {su : List (List Int)} {bs : List Bool} {v : Nat} (R : RowsIn su) (hb : bs.length = su.length) (hv : v < su.length)
    (hk : ∀ w, w.length = su.length → (∀ u, bm w u ↔ Rch (fun a b => b ∈ Sf su a) (bm bs) v u) → K (slB false true w) M) :
    SemC tab 74 [slR f1 o1 f2 o2 .i64 su, slB f3 o3 bs, p64 v] M K := by
  obtain ⟨hn, hr⟩ := R
  refine SemC_pureS T.h74 (by simp only [PP, P1, P2, P3, P4, P5, P6, P7, P8, P9, P10, P11, P12, P13, P14, L1, P15, N1, N2, N3, N4, N5, N6, N7, I1, I2, I3, I4, I5, I6, I7, reduceIte, reduceCtorEq]) ?_
  simp only [af74]
  have b0 : (0 : Int) ≤ su.length := by omega
  have b1 : (su.length : Int) * 1 ≤ 140737488355328 := by omega
  have b2 : (su.length : Int) ≤ 9223372036854775807 := by omega
  refine SemW_seq (SemW_of ?_)
  simp only [PP, P1, P2, P3, P4, P5, P6, P7, P8, P9, P10, P11, P12, P13, P14, L1, P15, N1, N2, N3, N4, N5, N6, N7, I1, I2, I3, I4, I5, I6, I7, reduceIte, reduceCtorEq]
  refine SemW_seq (SemW_of ?_)
  simp only [PP, P1, P2, P3, P4, P5, P6, P7, P8, P9, P10, P11, P12, P13, P14, L1, P15, N1, N2, N3, N4, N5, N6, N7, I1, I2, I3, I4, I5, I6, I7, reduceIte, reduceCtorEq, b0, b1, b2, Int.le_refl]
  refine SemW_seq (SemW_lit ?_)
  simp only [PP, P1, P2, P3, P4, P5, P6, P7, P8, P9, P10, P11, P12, P13, P14, L1, P15, N1, N2, N3, N4, N5, N6, N7, I1, I2, I3, I4, I5, I6, I7, reduceIte, reduceCtorEq]
  refine ⟨_, rfl, ?_⟩
  have row : ∀ u, u < su.length → ∃ r, su[u]? = some r ∧ Sf su u = r.map Int.toNat ∧ r.length < 1000000000000 ∧ ∀ x ∈ r, 0 ≤ x ∧ x < su.length := fun u hu => by
    obtain ⟨r, g⟩ := some_of hu
    refine ⟨r, g, ?_, hr r (List.mem_of_getElem? g)⟩
    unfold Sf; rw [List.getD, g]; rfl
  refine SemW_seq (SemW_of ?_)
  simp only [PP, P1, P2, P3, P4, P5, P6, P7, P8, P9, P10, P11, P12, P13, P14, L1, P15, N1, N2, N3, N4, N5, N6, N7, I1, I2, I3, I4, I5, I6, I7, reduceIte, reduceCtorEq]
  refine loop6 (fun (g v2 off : Nat) (cs : List Nat) (ver : Nat) (w : List Bool) => off ≤ cs.length ∧ (cs.drop off).length ≤ w.count true + 1 ∧ RJ (Sf su) (bm bs) v su.length w (cs.drop off) fun _ => False)
    (fun g v2 off cs ver w => [slR f1 o1 f2 o2 .i64 su, slB f3 o3 bs, .junk, .junk, .junk, .junk, .junk, .ref 0 0 1 0 su.length, .ref 1 g 1 off (cs.length - off), .junk, .junk, .junk, .junk, .junk, .junk, .junk, .junk, .junk, .junk, .junk, .junk, .junk, .junk, .junk, .junk, .junk, .junk, .junk, .junk, .junk, .junk, .junk, .junk, .junk, .junk, .junk, .junk, .junk, .junk, .junk, .junk, .junk, .junk, .junk, .junk, .junk, .junk, .junk, .junk, .junk, .junk, .junk, .junk, .junk, .junk, .junk, .junk, .junk, .junk, .junk])
    (fun g v2 off cs ver w => [.cells 0 ver (w.map PV.bool), .cells g v2 ((nI cs).map (PV.int .i64))])
    (fun g v2 off cs ver w => (su.length - w.count true) + (cs.length - off)) 0 0 0 [v] 0 (List.replicate su.length false) ⟨by simp, by simp, RJ.start hv⟩ (by simp only [PWeak_nil, PWeak_junk, PWeak_same, Int.cast_ofNat_Int, List.length_append, List.length_cons, List.length_nil, Nat.zero_add]) (by simp only [List.map_replicate]; rfl) ?_
  intro g v2 off cs ver w ⟨hle, hql, j⟩ ih
  refine SemW_go (by kernel_rfl) ?_
  simp only [PP, P1, P2, P3, P4, P5, P6, P7, P8, P9, P10, P11, P12, P13, P14, L1, P15, N1, N2, N3, N4, N5, N6, N7, I1, I2, I3, I4, I5, I6, I7, reduceIte, reduceCtorEq]
  refine QIf.intro (fun c => ?_) (fun c => ?_)
  · have hlt : off < cs.length := by omega
    obtain ⟨u, gu⟩ := some_of (xs := cs) (k := off) hlt
    have hd : cs.drop off = u :: cs.drop (off + 1) := by
      rw [List.drop_eq_getElem_cons hlt]; rw [List.getElem?_eq_getElem hlt] at gu; cases gu; rfl
    rw [hd] at j hql
    have hu : u < su.length := j.qn u (List.mem_cons_self ..)
    have hum := j.qr u (List.mem_cons_self ..)
    obtain ⟨r, gr, er, hrl, hrx⟩ := row u hu
    have u0 : (0 : Int) ≤ u := by omega
    have u1 : (u : Int) < su.length := by omega
    have k1 : (0 : Int) < ((cs.length - off : Nat) : Int) := by omega
    have k2 : (1 : Int) ≤ ((cs.length - off : Nat) : Int) := by omega
    have k3 : (((cs.length - off : Nat) : Int) - 1).toNat = cs.length - (off + 1) := by omega
    simp only [PP, P1, P2, P3, P4, P5, P6, P7, P8, P9, P10, P11, P12, P13, P14, L1, P15, N1, N2, N3, N4, N5, N6, N7, I1, I2, I3, I4, I5, I6, I7, reduceIte, reduceCtorEq, c, gu, k1, k2, k3, Int.le_refl]
    have hj0 : RJ (Sf su) (bm bs) v su.length w (cs.drop (off + 1)) (fun x => x = u) := j.pop
    refine loop7 (fun (g' v2' off' : Nat) (cs' : List Nat) (ver' : Nat) (w' : List Bool) (i : Nat) => off' ≤ cs'.length ∧ (cs'.drop off').length ≤ w'.count true ∧ RJ (Sf su) (bm bs) v su.length w' (cs'.drop off') (fun x => x = u) ∧ (u = v ∨ bm w' u) ∧ i ≤ r.length ∧ (∀ k, k < i → ∀ x, r[k]? = some x → bm bs x.toNat → bm w' x.toNat) ∧ (su.length - w'.count true) + (cs'.length - off') < (su.length - w.count true) + (cs.length - off))
      (fun g' v2' off' cs' ver' w' i => [slR f1 o1 f2 o2 .i64 su, slB f3 o3 bs, .junk, .junk, .junk, .junk, .junk, .ref 0 0 1 0 su.length, .ref 1 g' 1 off' (cs'.length - off'), p64 u, p64 i, .junk, .junk, .junk, .junk, .junk, .junk, .junk, .junk, .junk, .junk, .junk, .junk, .junk, .junk, .junk, .junk, .junk, .junk, .junk, .junk, .junk, .junk, .junk, .junk, .junk, .junk, .junk, .junk, .junk, .junk, .junk, .junk, .junk, .junk, .junk, .junk, .junk, .junk, .junk, .junk, .junk, .junk, .junk, .junk, .junk, .junk, .junk, .junk, .junk])
      (fun g' v2' off' cs' ver' w' i => [.cells 0 ver' (w'.map PV.bool), .cells g' v2' ((nI cs').map (PV.int .i64))])
      (fun g' v2' off' cs' ver' w' i => r.length - i) g v2 (off + 1) cs ver w 0 ⟨by omega, by simpa using hql, hj0, hum, by omega, (fun k hk => by omega), by omega⟩ (by simp only [PWeak_nil, PWeak_junk, PWeak_same, Int.cast_ofNat_Int, List.length_append, List.length_cons, List.length_nil, Nat.zero_add]) rfl ?_
    intro g' v2' off' cs' ver' w' i ⟨hle', hql', j', hum', hi, hdone, hmea⟩ ih2
    refine SemW_go (by kernel_rfl) ?_
    simp only [PP, P1, P2, P3, P4, P5, P6, P7, P8, P9, P10, P11, P12, P13, P14, L1, P15, N1, N2, N3, N4, N5, N6, N7, I1, I2, I3, I4, I5, I6, I7, reduceIte, reduceCtorEq, u0, u1, gr]
    refine QIf.intro (fun d => ?_) (fun d => ?_)
    · have hi' : i < r.length := by omega
      obtain ⟨x, gx⟩ := some_of (xs := r) (k := i) hi'
      have hx := hrx x (List.mem_of_getElem? gx)
      obtain ⟨a, rfl⟩ : ∃ a : Nat, x = a := ⟨x.toNat, by omega⟩
      have ha : a < su.length := by omega
      have a0 : (0 : Int) ≤ a := by omega
      have a1 : (a : Int) < su.length := by omega
      have i0 : (0 : Int) ≤ i := by omega
      have i1 : (i : Int) < r.length := by omega
      have hwk := wrap_succ (k := i) (by show _ < 1000000000000; omega)
      have hS : a ∈ Sf su u := by rw [er]; exact List.mem_map.2 ⟨_, List.mem_of_getElem? gx, by simp⟩
      obtain ⟨y, gy⟩ := some_of (xs := bs) (k := a) (by omega)
      have lw' := j'.lw
      obtain ⟨z, gz⟩ := some_of (xs := w') (k := a) (by omega)
      have stay : (bm bs a → bm w' a) → ∀ k, k < i + 1 → ∀ x, r[k]? = some x → bm bs x.toNat → bm w' x.toNat := fun h k hk x hx hb => by
        by_cases e : k = i
        · subst e; rw [gx] at hx; cases hx; exact h hb
        · exact hdone k (by omega) x hx hb
      cases y with
      | false =>
        simp only [PP, P1, P2, P3, P4, P5, P6, P7, P8, P9, P10, P11, P12, P13, P14, L1, P15, N1, N2, N3, N4, N5, N6, N7, I1, I2, I3, I4, I5, I6, I7, reduceIte, reduceCtorEq, d, u0, u1, gr, gx, i0, i1, a0, a1, hb, gy, hwk]
        exact SemW_weak (ih2 g' v2' off' cs' ver' w' (i + 1) ⟨hle', hql', j', hum', hi', stay (fun h => by rw [bm_of gy] at h; cases h), hmea⟩ (by omega)) (by simp only [PWeak_nil, PWeak_junk, PWeak_same, Int.cast_ofNat_Int, List.length_append, List.length_cons, List.length_nil, Nat.zero_add])
      | true =>
        cases z with
        | true =>
          simp only [PP, P1, P2, P3, P4, P5, P6, P7, P8, P9, P10, P11, P12, P13, P14, L1, P15, N1, N2, N3, N4, N5, N6, N7, I1, I2, I3, I4, I5, I6, I7, reduceIte, reduceCtorEq, d, u0, u1, gr, gx, i0, i1, a0, a1, hb, gy, gz, lw', hwk]
          exact SemW_weak (ih2 g' v2' off' cs' ver' w' (i + 1) ⟨hle', hql', j', hum', hi', stay (fun h => gz), hmea⟩ (by omega)) (by simp only [PWeak_nil, PWeak_junk, PWeak_same, Int.cast_ofNat_Int, List.length_append, List.length_cons, List.length_nil, Nat.zero_add])
        | false =>
          simp only [PP, P1, P2, P3, P4, P5, P6, P7, P8, P9, P10, P11, P12, P13, P14, L1, P15, N1, N2, N3, N4, N5, N6, N7, I1, I2, I3, I4, I5, I6, I7, reduceIte, reduceCtorEq, d, u0, u1, gr, gx, i0, i1, a0, a1, hb, gy, gz, lw', hwk]
          have nb : ¬ bm w' a := fun h => by rw [bm_of gz] at h; cases h
          have hc1 := count_add gz
          have hc2 : w'.count true ≤ w'.length := List.count_le_length
          have hc3 : (w'.set a true).count true ≤ (w'.set a true).length := List.count_le_length
          rw [List.length_set] at hc3
          rw [List.length_drop] at hql'
          have hal : a < w'.length := by omega
          refine ⟨by omega, ⟨by omega, by omega, by omega⟩, ?_⟩
          rw [show cs'.length - off' + 1 = (cs'.drop off' ++ [a]).length - 0 by simp]
          refine SemW_to (ih2 (g' + 1) 0 0 (cs'.drop off' ++ [a]) (ver' + 1) (w'.set a true) (i + 1) ⟨by omega, by simp; omega, j'.push hum' hS ((bm_of gy).2 rfl) ha, hum'.imp id fun h => (bm_set hal).2 (.inr h), hi', fun k hk x hx hb => ?_, by simp; omega⟩ (by omega)) (by simp only [PWeak_nil, PWeak_junk, PWeak_same, Int.cast_ofNat_Int, List.length_append, List.length_cons, List.length_nil, Nat.zero_add]) (by simp [psub, List.map_set, List.map_drop, List.take_of_length_le])
          by_cases e : k = i
          · subst e; rw [gx] at hx; cases hx; exact (bm_set hal).2 (.inl (by simp))
          · exact (bm_set hal).2 (.inr (hdone k (by omega) x hx hb))
    · have hir : i = r.length := by omega
      simp only [PP, P1, P2, P3, P4, P5, P6, P7, P8, P9, P10, P11, P12, P13, P14, L1, P15, N1, N2, N3, N4, N5, N6, N7, I1, I2, I3, I4, I5, I6, I7, reduceIte, reduceCtorEq, d]
      refine SemW_weak (ih g' v2' off' cs' ver' w' ⟨hle', by omega, j'.close fun y hy hq => ?_⟩ hmea) (by simp only [PWeak_nil, PWeak_junk, PWeak_same, Int.cast_ofNat_Int, List.length_append, List.length_cons, List.length_nil, Nat.zero_add])
      rw [er] at hy
      obtain ⟨x, hx, rfl⟩ := List.mem_map.1 hy
      obtain ⟨k, hk, e⟩ := List.mem_iff_getElem.1 hx
      exact hdone k (by omega) x (by rw [List.getElem?_eq_getElem hk, e]) hq
  · have hd : cs.drop off = [] := List.drop_eq_nil_of_le (by omega)
    rw [hd] at j
    have lw := j.lw
    simp only [PP, P1, P2, P3, P4, P5, P6, P7, P8, P9, P10, P11, P12, P13, P14, L1, P15, N1, N2, N3, N4, N5, N6, N7, I1, I2, I3, I4, I5, I6, I7, reduceIte, reduceCtorEq, c]
    refine SemW_of ?_
    simp only [PP, P1, P2, P3, P4, P5, P6, P7, P8, P9, P10, P11, P12, P13, P14, L1, P15, N1, N2, N3, N4, N5, N6, N7, I1, I2, I3, I4, I5, I6, I7, reduceIte, reduceCtorEq, ← lw]
    exact hk w lw j.fin
end
end Go.Am.Ar
set_option linter.unusedVariables false
set_option linter.unusedSimpArgs false
set_option maxRecDepth 10000
namespace Go.Am.Ar
open Go.Am renaming pchk → P1, pold → P2, PKNo → P3, ppack → P4, PObj.under → P5, pput → P6, ptset → P7, ptget → P8, pev → P9, ofAV → P10, ofAV1 → P11, ppad → P12, pfill → P13, prepl → P14, AO.effect → P15
open List renaming replicate → L1
open Nat renaming reduceAdd → N1, reduceSub → N2, reduceMul → N3, reduceLT → N4, reduceLeDiff → N5, reduceEqDiff → N6, reduceBEq → N7
open Int renaming reduceToNat → I1, reduceLT → I2, reduceLE → I3, reduceEq → I4, reduceAdd → I5, reduceSub → I6, reduceNeg → I7
theorem cutOk_cells (n g v : Nat) (cs : List PV) : cutOk n (.cells g v cs) = underL n cs := rfl
def idxB (v : Bool) : Nat → List Bool → Int
  | _, [] => -1
  | k, x :: l => if v = x then (k : Int) else idxB v (k + 1) l
theorem idxB_iff (v : Bool) : ∀ (l : List Bool) (k : Nat), 0 ≤ idxB v k l ↔ v ∈ l
  | [], k => by simp [idxB]
  | x :: l, k => by
    unfold idxB
    by_cases h : v = x
    · rw [if_pos h]; simp [h]
    · rw [if_neg h, idxB_iff v l (k + 1)]; simp [h]
def minusL (a b : List Bool) (n : Nat) : List Bool := (List.range n).map fun v => a.getD v false && !b.getD v false
theorem minusL_len (a b : List Bool) (n : Nat) : (minusL a b n).length = n := by simp [minusL]
theorem bm_minus {a b : List Bool} {n : Nat} (ha : a.length = n) {v : Nat} : bm (minusL a b n) v ↔ bm a v ∧ ¬ bm b v := by
  unfold bm minusL
  rw [List.getElem?_map]
  by_cases h : v < n
  · rw [List.getElem?_range h]
    simp only [Option.map_some, Option.some.injEq, Bool.and_eq_true, List.getD]
    rw [List.getElem?_eq_getElem (by omega : v < a.length)]
    simp only [Option.getD_some, Option.some.injEq]
    cases hb : b[v]? with
    | none => simp
    | some x => cases x <;> simp
  · rw [List.getElem?_eq_none (by simp; omega), List.getElem?_eq_none (by omega : a.length ≤ v)]
    simp
theorem filter_lt {l : List Nat} {p q : Nat → Bool} (h : ∀ x ∈ l, p x = true → q x = true) {y : Nat} (hy : y ∈ l) (h1 : q y = true) (h2 : p y = false) : (l.filter p).length < (l.filter q).length := by
  have le : ∀ l : List Nat, (∀ x ∈ l, p x = true → q x = true) → (l.filter p).length ≤ (l.filter q).length := by
    intro l
    induction l with
    | nil => intro _; exact Nat.le_refl _
    | cons x l ih =>
      intro h
      have ih := ih fun z hz => h z (by simp [hz])
      by_cases e : p x = true
      · have := h x (by simp) e
        simp only [List.filter_cons, e, this, if_true, List.length_cons]; omega
      · by_cases e2 : q x = true
        · simp only [List.filter_cons, e, e2, if_true, List.length_cons]; simp only [Bool.false_eq_true, if_false]; omega
        · simp only [List.filter_cons, e, e2]; simpa using ih
  induction l with
  | nil => cases hy
  | cons x l ih =>
    have hl := le l fun z hz => h z (by simp [hz])
    rcases List.mem_cons.1 hy with rfl | hy
    · simp only [List.filter_cons, h1, h2, if_true, List.length_cons]
      simp only [Bool.false_eq_true, if_false]; omega
    · have ih := ih (fun z hz => h z (by simp [hz])) hy
      by_cases e : p x = true
      · have := h x (by simp) e
        simp only [List.filter_cons, e, this, if_true, List.length_cons]; omega
      · by_cases e2 : q x = true
        · simp only [List.filter_cons, e, e2, if_true, List.length_cons]; simp only [Bool.false_eq_true, if_false]; omega
        · simp only [List.filter_cons, e, e2]; simpa using ih
theorem count_eq {L : List Bool} {n : Nat} (h : L.length = n) : L.count true = ((List.range n).filter fun v => decide (bm L v)).length := by
  have e : L = (List.range n).map fun v => L.getD v false := by
    apply List.ext_getElem?
    intro v
    by_cases hv : v < n
    · simp [hv, List.getD, List.getElem?_eq_getElem (h ▸ hv : v < L.length)]
    · rw [List.getElem?_eq_none (by omega), List.getElem?_eq_none (by simp; omega)]
  have h2 : L.count true = ((List.range n).map fun v => L.getD v false).count true := congrArg _ e
  rw [h2, List.count, List.countP_map, List.countP_eq_length_filter]
  congr 1
  refine List.filter_congr fun v hv => ?_
  have hv := List.mem_range.1 hv
  show (L.getD v false == true) = decide (bm L v)
  have hg : L[v]? = some L[v] := List.getElem?_eq_getElem (by omega : v < L.length)
  have hb := bm_of hg
  rw [List.getD, hg]
  cases hL : L[v] with
  | true => simp [hb, hL]
  | false => simp [hb, hL]
theorem count_minus {a b : List Bool} {n : Nat} (ha : a.length = n) {v : Nat} (h1 : bm a v) (h2 : bm b v) : (minusL a b n).count true < a.count true := by
  rw [count_eq (minusL_len a b n), count_eq ha]
  refine filter_lt (fun x _ h => decide_eq_true ((bm_minus ha).1 (of_decide_eq_true h)).1) (y := v) (List.mem_range.2 (by have := bm_lt h1; omega)) (decide_eq_true h1) (decide_eq_false fun h => ((bm_minus ha).1 h).2 h2)
theorem mem_bm {L : List Bool} : true ∈ L ↔ ∃ v, bm L v := by
  constructor
  · intro h; obtain ⟨i, hi⟩ := List.getElem?_of_mem h; exact ⟨i, hi⟩
  · rintro ⟨v, h⟩; exact List.mem_of_getElem? h
theorem not_mem_bm {L : List Bool} (h : ¬ true ∈ L) (v : Nat) : ¬ bm L v := fun q => h (mem_bm.2 ⟨v, q⟩)
def SmI (row : List Int) (inL out : List Bool) (i : Nat) (sm : Int) (al : Bool) : Prop :=
  ((sm < 0 ∧ ∀ u ∈ row.take i, ¬ (bm inL u.toNat ∧ bm out u.toNat)) ∨ (0 ≤ sm ∧ sm ∈ row ∧ bm out sm.toNat)) ∧ (al = true ↔ ∀ u ∈ row.take i, bm inL u.toNat → bm out u.toNat)
theorem SmI.al {row : List Int} {inL out : List Bool} {i : Nat} {sm : Int} {al : Bool} (h : SmI row inL out i sm al) {u : Int} (g : row[i]? = some u) {x y : Bool} (hx : inL[u.toNat]? = some x) (hy : out[u.toNat]? = some y) : (al && (!x || y)) = true ↔ ∀ u ∈ row.take (i + 1), bm inL u.toNat → bm out u.toNat := by
  rw [take_some g]
  have h1 : (!x || y) = true ↔ (bm inL u.toNat → bm out u.toNat) := by
    rw [bm_of hx, bm_of hy]
    cases x <;> cases y <;> simp
  rw [Bool.and_eq_true, h.2, h1]
  constructor
  · rintro ⟨q1, q2⟩ w hw
    rcases List.mem_append.1 hw with q | q
    · exact q1 w q
    · rw [List.mem_singleton] at q; subst q; exact q2
  · intro q
    exact ⟨fun w hw => q w (by simp [hw]), q u (by simp)⟩
theorem SmI.keep {row : List Int} {inL out : List Bool} {i : Nat} {sm : Int} {al : Bool} (h : SmI row inL out i sm al) {u : Int} (g : row[i]? = some u) {x y : Bool} (hx : inL[u.toNat]? = some x) (hy : out[u.toNat]? = some y) (hk : (x && y) = false ∨ ¬ sm < 0) : SmI row inL out (i + 1) sm (al && (!x || y)) := by
  refine ⟨?_, h.al g hx hy⟩
  rcases h.1 with ⟨q1, q2⟩ | q
  · refine .inl ⟨q1, fun w hw => ?_⟩
    rw [take_some g] at hw
    rcases List.mem_append.1 hw with q | q
    · exact q2 w q
    · rw [List.mem_singleton] at q; subst q
      rw [bm_of hx, bm_of hy]
      rcases hk with hk | hk
      · rintro ⟨rfl, rfl⟩; cases hk
      · exact absurd q1 hk
  · exact .inr q
theorem SmI.take {row : List Int} {inL out : List Bool} {i : Nat} {sm : Int} {al : Bool} (h : SmI row inL out i sm al) {u : Int} (g : row[i]? = some u) (hu : 0 ≤ u) (hx : inL[u.toNat]? = some true) (hy : out[u.toNat]? = some true) : SmI row inL out (i + 1) u (al && (!true || true)) :=
  ⟨.inr ⟨hu, List.mem_of_getElem? g, (bm_of hy).2 rfl⟩, h.al g hx hy⟩
section
variable {tab : FuncId → Option AF} (T : HasA tab)
include T
theorem indexB_p {M : Mem} {K : PV → Mem → Prop} {f o : Bool} {xs : List Bool} {v : Bool} (hm : xs.length < big) (hk : K (p64 (idxB v 0 xs)) M) :
    SemC tab 77 [slB f o xs, .bool v] M K := by
  refine SemC_pure T.h77 (by simp only [PP, P1, P2, P3, P4, P5, P6, P7, P8, P9, P10, P11, P12, P13, P14, L1, P15, N1, N2, N3, N4, N5, N6, N7, I1, I2, I3, I4, I5, I6, I7, reduceIte, reduceCtorEq]) ?_
  simp only [af77, PP, P1, P2, P3, P4, P5, P6, P7, P8, P9, P10, P11, P12, P13, P14, L1, P15, N1, N2, N3, N4, N5, N6, N7, I1, I2, I3, I4, I5, I6, I7, reduceIte, reduceCtorEq]
  refine loop1 (fun (k : Nat) => k ≤ xs.length ∧ K (p64 (idxB v k (xs.drop k))) M) (fun k => [slB f o xs, .bool v, .junk, .junk, .junk, .junk, .junk, p64 xs.length, p64 k, .junk, .junk, .junk, .junk, .junk, .junk, .junk, .junk, .junk, .junk]) (fun _ => []) (fun k => xs.length - k) 0 ⟨by omega, hk⟩ (by simp only [PWeak_nil, PWeak_junk, PWeak_same, Int.cast_ofNat_Int, List.length_append, List.length_cons, List.length_nil, Nat.zero_add]) rfl ?_
  intro k ⟨hle, hq⟩ ih
  refine SemW_go (by kernel_rfl) ?_
  simp only [PP, P1, P2, P3, P4, P5, P6, P7, P8, P9, P10, P11, P12, P13, P14, L1, P15, N1, N2, N3, N4, N5, N6, N7, I1, I2, I3, I4, I5, I6, I7, reduceIte, reduceCtorEq]
  refine QIf.intro (fun c => ?_) (fun c => ?_)
  · have hk' : k < xs.length := by omega
    obtain ⟨x, g⟩ := some_of hk'
    rw [drop_some g, idxB] at hq
    have hw := wrap_succ (k := k) (by omega)
    have h0 : (0 : Int) ≤ k := by omega
    by_cases h1 : v = x
    · subst h1
      rw [if_pos rfl] at hq
      simp only [PP, P1, P2, P3, P4, P5, P6, P7, P8, P9, P10, P11, P12, P13, P14, L1, P15, N1, N2, N3, N4, N5, N6, N7, I1, I2, I3, I4, I5, I6, I7, reduceIte, reduceCtorEq, c, g, h0]
      exact hq
    · rw [if_neg h1] at hq
      have hb : (v == x) = false := by simpa using h1
      simp only [PP, P1, P2, P3, P4, P5, P6, P7, P8, P9, P10, P11, P12, P13, P14, L1, P15, N1, N2, N3, N4, N5, N6, N7, I1, I2, I3, I4, I5, I6, I7, reduceIte, reduceCtorEq, c, g, h0, hb, hw]
      exact SemW_weak (ih (k + 1) ⟨by omega, hq⟩ (by omega)) (by simp only [PWeak_nil, PWeak_junk, PWeak_same, Int.cast_ofNat_Int, List.length_append, List.length_cons, List.length_nil, Nat.zero_add])
  · rw [List.drop_eq_nil_of_le (by omega)] at hq
    simp only [PP, P1, P2, P3, P4, P5, P6, P7, P8, P9, P10, P11, P12, P13, P14, L1, P15, N1, N2, N3, N4, N5, N6, N7, I1, I2, I3, I4, I5, I6, I7, reduceIte, reduceCtorEq, c]
    exact hq
theorem containsB_p {M : Mem} {K : PV → Mem → Prop} {f o : Bool} {xs : List Bool} {v : Bool} (hm : xs.length < big) (hk : K (.bool (decide (v ∈ xs))) M) :
    SemC tab 76 [slB f o xs, .bool v] M K := by
  refine SemC_pure T.h76 (by simp only [PP, P1, P2, P3, P4, P5, P6, P7, P8, P9, P10, P11, P12, P13, P14, L1, P15, N1, N2, N3, N4, N5, N6, N7, I1, I2, I3, I4, I5, I6, I7, reduceIte, reduceCtorEq]) ?_
  simp only [af76, PP, P1, P2, P3, P4, P5, P6, P7, P8, P9, P10, P11, P12, P13, P14, L1, P15, N1, N2, N3, N4, N5, N6, N7, I1, I2, I3, I4, I5, I6, I7, reduceIte, reduceCtorEq]
  refine indexB_p T hm ?_
  have e : decide (0 ≤ idxB v 0 xs) = decide (v ∈ xs) := by simp only [idxB_iff]
  simp only [PP, P1, P2, P3, P4, P5, P6, P7, P8, P9, P10, P11, P12, P13, P14, L1, P15, N1, N2, N3, N4, N5, N6, N7, I1, I2, I3, I4, I5, I6, I7, reduceIte, reduceCtorEq, e]
  exact hk
theorem empty_p {M : Mem} {K : PV → Mem → Prop} {f o : Bool} {xs : List Bool} (hm : xs.length < big) (hk : K (.bool (!decide (true ∈ xs))) M) :
    SemC tab 71 [slB f o xs] M K := by
  refine SemC_pure T.h71 (by simp only [PP, P1, P2, P3, P4, P5, P6, P7, P8, P9, P10, P11, P12, P13, P14, L1, P15, N1, N2, N3, N4, N5, N6, N7, I1, I2, I3, I4, I5, I6, I7, reduceIte, reduceCtorEq]) ?_
  simp only [af71, PP, P1, P2, P3, P4, P5, P6, P7, P8, P9, P10, P11, P12, P13, P14, L1, P15, N1, N2, N3, N4, N5, N6, N7, I1, I2, I3, I4, I5, I6, I7, reduceIte, reduceCtorEq]
  refine containsB_p T hm ?_
  simp only [PP, P1, P2, P3, P4, P5, P6, P7, P8, P9, P10, P11, P12, P13, P14, L1, P15, N1, N2, N3, N4, N5, N6, N7, I1, I2, I3, I4, I5, I6, I7, reduceIte, reduceCtorEq]
  exact hk
theorem minus_z {M : Mem} {K : PV → Mem → Prop} {f o f' o' : Bool} {a b : List Bool} {n : Nat} (ha : a.length = n) (hb : b.length = n) (hm : n < 1000000) (hk : K (slB false true (minusL a b n)) M) :
    SemC tab 69 [slB f o a, slB f' o' b] M K := by
  refine SemC_pure T.h69 (by simp only [PP, P1, P2, P3, P4, P5, P6, P7, P8, P9, P10, P11, P12, P13, P14, L1, P15, N1, N2, N3, N4, N5, N6, N7, I1, I2, I3, I4, I5, I6, I7, reduceIte, reduceCtorEq]) ?_
  have b0 : (0 : Int) ≤ n := by omega
  have b1 : (n : Int) * 1 ≤ 140737488355328 := by omega
  have b2 : (n : Int) ≤ 9223372036854775807 := by omega
  simp only [af69, PP, P1, P2, P3, P4, P5, P6, P7, P8, P9, P10, P11, P12, P13, P14, L1, P15, N1, N2, N3, N4, N5, N6, N7, I1, I2, I3, I4, I5, I6, I7, reduceIte, reduceCtorEq, ha, b0, b1, b2, Int.le_refl]
  refine loop3 (fun (k ver : Nat) (w : List Bool) => k ≤ n ∧ w.length = n ∧ ∀ v, v < k → w[v]? = some (a.getD v false && !b.getD v false))
    (fun k ver w => [slB f o a, slB f' o' b, .junk, .junk, .junk, .ref 0 0 1 0 n, .junk, .junk, .junk, .junk, .junk, p64 n, p64 k, .junk, .junk, .junk, .junk, .junk, .junk, .junk, .junk, .junk, .junk, .junk, .junk, .junk, .junk, .junk, .junk, .junk, .junk]) (fun k ver w => [.cells 0 ver (w.map PV.bool)]) (fun k _ _ => n - k) 0 0 (List.replicate n false) ⟨by omega, by simp, by intro v h; omega⟩ (by simp only [PWeak_nil, PWeak_junk, PWeak_same, Int.cast_ofNat_Int, List.length_append, List.length_cons, List.length_nil, Nat.zero_add]) (by simp only [List.map_replicate]) ?_
  intro k ver w ⟨hle, hw, hget⟩ ih
  refine SemW_go (by kernel_rfl) ?_
  simp only [PP, P1, P2, P3, P4, P5, P6, P7, P8, P9, P10, P11, P12, P13, P14, L1, P15, N1, N2, N3, N4, N5, N6, N7, I1, I2, I3, I4, I5, I6, I7, reduceIte, reduceCtorEq]
  refine QIf.intro (fun c => ?_) (fun c => ?_)
  · have hk' : k < n := by omega
    obtain ⟨x, g1⟩ := some_of (xs := a) (k := k) (by omega)
    obtain ⟨y, g2⟩ := some_of (xs := b) (k := k) (by omega)
    have ea : a.getD k false = x := by simp [List.getD, g1]
    have eb : b.getD k false = y := by simp [List.getD, g2]
    have hwk := wrap_succ (k := k) (by show _ < 1000000000000; omega)
    have k0 : (0 : Int) ≤ k := by omega
    have k1 : k + 1 ≤ w.length := by omega
    have up : ∀ z, z = (x && !y) → k + 1 ≤ n ∧ (w.set k z).length = n ∧ ∀ v, v < k + 1 → (w.set k z)[v]? = some (a.getD v false && !b.getD v false) := fun z hz => by
      refine ⟨by omega, by simp [hw], fun v hv => ?_⟩
      by_cases e : v = k
      · subst e; rw [List.getElem?_set_self (by omega), ea, eb, hz]
      · rw [List.getElem?_set_ne (by omega)]; exact hget v (by omega)
    cases x
    · simp only [PP, P1, P2, P3, P4, P5, P6, P7, P8, P9, P10, P11, P12, P13, P14, L1, P15, N1, N2, N3, N4, N5, N6, N7, I1, I2, I3, I4, I5, I6, I7, reduceIte, reduceCtorEq, c, g1, k0, k1, ha, hb, hwk]
      exact SemW_to (ih (k + 1) (ver + 1) (w.set k false) (up _ rfl) (by omega)) (by simp only [PWeak_nil, PWeak_junk, PWeak_same, Int.cast_ofNat_Int, List.length_append, List.length_cons, List.length_nil, Nat.zero_add]) (by simp only [← List.map_set])
    · cases y
      · simp only [PP, P1, P2, P3, P4, P5, P6, P7, P8, P9, P10, P11, P12, P13, P14, L1, P15, N1, N2, N3, N4, N5, N6, N7, I1, I2, I3, I4, I5, I6, I7, reduceIte, reduceCtorEq, c, g1, g2, k0, k1, ha, hb, hwk]
        exact SemW_to (ih (k + 1) (ver + 1) (w.set k true) (up _ rfl) (by omega)) (by simp only [PWeak_nil, PWeak_junk, PWeak_same, Int.cast_ofNat_Int, List.length_append, List.length_cons, List.length_nil, Nat.zero_add]) (by simp only [← List.map_set])
      · simp only [PP, P1, P2, P3, P4, P5, P6, P7, P8, P9, P10, P11, P12, P13, P14, L1, P15, N1, N2, N3, N4, N5, N6, N7, I1, I2, I3, I4, I5, I6, I7, reduceIte, reduceCtorEq, c, g1, g2, k0, k1, ha, hb, hwk]
        exact SemW_to (ih (k + 1) (ver + 1) (w.set k false) (up _ rfl) (by omega)) (by simp only [PWeak_nil, PWeak_junk, PWeak_same, Int.cast_ofNat_Int, List.length_append, List.length_cons, List.length_nil, Nat.zero_add]) (by simp only [← List.map_set])
  · have hkn : k = n := by omega
    subst hkn
    have hwm : w = minusL a b k := by
      apply List.ext_getElem?
      intro v
      by_cases hv : v < k
      · rw [hget v hv]; simp [minusL, hv]
      · rw [List.getElem?_eq_none (by omega), List.getElem?_eq_none (by rw [minusL_len]; omega)]
    subst hwm
    have hfz : frzO (some (PObj.cells 0 ver ((minusL a b k).map PV.bool))) 0 1 0 k = some (slB false true (minusL a b k)) := by
      rw [frzO_cells (by rw [List.length_map, minusL_len]; omega) (underL_map _ _ (fun _ => rfl) _), psub_all _ _ (by rw [List.length_map, minusL_len]; omega)]
      unfold slB
      rw [minusL_len]
    simp only [PP, P1, P2, P3, P4, P5, P6, P7, P8, P9, P10, P11, P12, P13, P14, L1, P15, N1, N2, N3, N4, N5, N6, N7, I1, I2, I3, I4, I5, I6, I7, reduceIte, reduceCtorEq, c, hfz]
    exact hk
end
end Go.Am.Ar

