/- Plain law: solutions are correct, and all strategies are tried, and what goes with it. -/
import Derived.Test.YtapaimdglfefeaaProgressZielonkaG6
import Derived.Test.YtapaimdglfefeaaProgressZielonkaG1
import Derived.Test.YtapaimdglfefeaaProgressZielonkaG4
import Derived.Test.YtapaimdglfefeaaProgressZielonkaG0
import Derived.Test.YtapaimdglfefeaaPmL
set_option linter.unusedVariables false
namespace Go.Am.Ar
section
variable {ow pr ws ss st : List Int} {su : List (List Int)} {p : Int}
theorem sf_tab {n v : Nat} {F : Nat → List Int} (hv : v < n) : Sf (tabA n F) v = (F v).map Int.toNat := by
  unfold Sf; rw [List.getD, tabA_get hv]; rfl
theorem mem_sf (V : Valid ow pr su) {v : Nat} (hv : v < ow.length) {x : Int} (h : x ∈ su.getD v []) : x.toNat ∈ Sf su v := List.mem_map.2 ⟨x, h, rfl⟩
theorem sf_mem (V : Valid ow pr su) {v : Nat} (hv : v < ow.length) {x : Int} (h0 : 0 ≤ x) (h : x.toNat ∈ Sf su v) : x ∈ su.getD v [] := by
  obtain ⟨y, hy, e⟩ := List.mem_map.1 h
  have := su_range V hv hy
  rw [show x = y by omega]; exact hy
theorem SolL.corr (V : Valid ow pr su) (hc : checkM ow pr su = 0) (ho : ∀ x ∈ ow, 0 ≤ x) (L : SolL ow pr su ws ss) : CorrP ow pr su ws ss := by
  have mem : ∀ p : Int, p = 0 ∨ p = 1 → ∀ v, v < ow.length → ws.getD v 0 = p → ow.getD v 0 = p → ss.getD v 0 ∈ su.getD v [] ∧ 0 ≤ ss.getD v 0 := fun p hp v hv hw hov => by
    have h0 := L.own v hv (by rw [hw, hov])
    exact ⟨sf_mem V hv h0 ((L.sol.of hp).own v ⟨hv, hw⟩ hov).1, h0⟩
  refine ⟨hc, L.lw, L.ls, fun v hv => ⟨?_, fun h => ?_, fun h => L.opp v hv h⟩, fun p hp v hv hw => ?_⟩
  · have := L.sol.r01 v hv
    intro h; omega
  · have h01 := L.sol.r01 v hv
    exact (mem (ws.getD v 0) h01 v hv rfl h.symm).1
  · refine (L.sol.of hp).safe (fun a b ha hab => ?_) (v := v) ⟨hv, hw⟩
    have hab : b ∈ Sf (tabA ow.length (movF ow su p (tabA ow.length (ownF ow ws ss p)))) a := hab
    rw [sf_tab ha.1] at hab
    have hown : ow.getD a 0 = p → (tabA ow.length (ownF ow ws ss p)).getD a 0 = ss.getD a 0 := fun h => by
      rw [List.getD, tabA_get ha.1]
      show ownF ow ws ss p a = _
      unfold ownF; rw [if_pos ⟨h, ha.2⟩]
    unfold movF at hab
    by_cases q : ow.getD a 0 = p
    · obtain ⟨m1, m2⟩ := mem p hp a ha.1 ha.2 q
      rw [hown q, if_pos ⟨q, m1⟩] at hab
      simp only [List.map_cons, List.map_nil, List.mem_singleton] at hab
      subst hab
      have := su_range V ha.1 m1
      exact ⟨mem_sf V ha.1 m1, by omega, fun _ => rfl⟩
    · rw [if_neg (fun h => q h.1)] at hab
      have hS : b ∈ Sf su a := hab
      exact ⟨hS, (valid_S V a ha.1).2 b hS, fun h => absurd h q⟩
end
section
variable {ow pr ws ss : List Int} {su : List (List Int)}
end
end Go.Am.Ar
set_option linter.unusedVariables false
namespace Go.Am.Ar
theorem count_cnt (c : Int) : ∀ (pr : List Int), cntP pr.length (fun u => pr.getD u 0 = c) = pr.count c := by
  intro pr
  unfold cntP
  have e : pr.count c = ((List.range pr.length).map fun u => pr.getD u 0).count c := by
    congr 1
    apply List.ext_getElem?
    intro i
    rw [List.getElem?_map]
    by_cases hi : i < pr.length
    · rw [List.getElem?_range hi, List.getElem?_eq_getElem hi]; simp [List.getD, hi]
    · rw [List.getElem?_eq_none (by omega), List.getElem?_eq_none (by simp; omega)]; rfl
  rw [e, List.count_eq_countP, List.countP_map, List.countP_eq_length_filter]
  congr 1
  apply List.filter_congr
  intro x _
  simp only [Function.comp]
  by_cases q : pr.getD x 0 = c
  · rw [beq_iff_eq.2 q]; exact @decide_eq_true _ (Classical.propDecidable _) q
  · rw [beq_eq_false_iff_ne.2 q]; exact @decide_eq_false _ (Classical.propDecidable _) q
def bothF (ow pr : List Int) (su : List (List Int)) (ms : List Ms) (ss : List Int) (v : Nat) : Int := if ow.getD v 0 = 1 then ss.getD v 0 else strF ow pr su ms v
section
variable {ow pr ws ss : List Int} {su : List (List Int)} {ms : List Ms}
theorem prog_all (V : Valid ow pr su) (ho : ∀ x ∈ ow, 0 ≤ x) (L : SolL ow pr su ws ss) (h : LeastM ow pr su ms) : winM31 ms = ws ∧ SolL ow pr su ws (tabA ow.length (bothF ow pr su ms ss)) := by
  have h8 := limL_len pr
  have hO := valid_O V ho
  have hS := valid_S V
  have P := valid_pr V
  have hp := V.p
  have hR : ∀ v, v < ow.length → 0 ≤ gO pr v ∧ gO pr v ≤ 16 := fun v hv => by
    obtain ⟨x, g⟩ := some_of (xs := pr) (k := v) (by omega)
    rw [show gO pr v = x from getD_some g]
    exact P.2 x (List.mem_of_getElem? g)
  have hml := h.st.l
  have hfix : ∀ v, v < ow.length → lN (limL pr) (gO ow) (Sf su) (gO pr) (Nf (limL pr) ms) v = Nf (limL pr) ms v := fun v hv => Nat.le_antisymm (h.pre v hv) (h.li.up v hv)
  have top : ∀ v, v < ow.length → (Nf (limL pr) ms v < mT (limL pr) ↔ (ms.getD v mz).top = false) := fun v hv => by
    obtain ⟨x, g⟩ := some_of (xs := ms) (k := v) (by omega)
    have e : ms.getD v mz = x := by simp [List.getD, g]
    have ox := h.st.ok x (List.mem_of_getElem? g)
    rw [Nf_at g, e]
    have h1 := Ms.num_top ox
    have h2 := Ms.num_le ox
    cases ht : x.top with
    | true =>
      have := h1.2 ht
      constructor
      · intro q; omega
      · intro q; cases q
    | false =>
      have : ¬ x.num (limL pr) = mT (limL pr) := fun q => by have := h1.1 q; rw [ht] at this; cases this
      constructor
      · intro _; rfl
      · intro _; omega
  have strA : ∀ v, v < ow.length → Nf (limL pr) ms v < mT (limL pr) → ow.getD v 0 = 0 → strF ow pr su ms v ∈ su.getD v [] ∧ vN (limL pr) (gO pr v).toNat (Nf (limL pr) ms (strF ow pr su ms v).toNat) = Nf (limL pr) ms v := fun v hv ht ho' => by
    obtain ⟨x, hx⟩ := h.find V hv ho'
    have e : strF ow pr su ms v = x := by unfold strF; rw [if_pos ⟨ho', (top v hv).1 ht⟩, hx]; rfl
    rw [e]
    exact ⟨List.mem_of_find?_eq_some hx, of_decide_eq_true (show strQ pr ms v x = true from List.find?_some hx)⟩
  have gb : ∀ v, v < ow.length → (tabA ow.length (bothF ow pr su ms ss)).getD v 0 = bothF ow pr su ms ss v := fun v hv => by rw [List.getD, tabA_get hv]; rfl
  have a : SolIn (gO ow) (Sf su) (gO pr) (fun v => v < ow.length) 0 (fun v => v < ow.length ∧ Nf (limL pr) ms v < mT (limL pr)) (stN (tabA ow.length (bothF ow pr su ms ss))) :=
    prog_sol h8 hR hS h.st.bnd hfix fun v hv ht ho' => by
      have e : stN (tabA ow.length (bothF ow pr su ms ss)) v = (strF ow pr su ms v).toNat := by
        show ((tabA ow.length (bothF ow pr su ms ss)).getD v 0).toNat = _
        rw [gb v hv]; unfold bothF; rw [if_neg (by rw [show ow.getD v 0 = 0 from ho']; decide)]
      obtain ⟨q1, q2⟩ := strA v hv ht ho'
      rw [e]
      exact ⟨mem_sf V hv q1, q2⟩
  have low : ∀ v, v < ow.length → ws.getD v 0 = 0 → Nf (limL pr) ms v < mT (limL pr) := fun v hv hw =>
    prog_low h8 (fun k c hk hc => by
      rw [limL_at pr hk] at hc
      cases hc
      have := count_cnt ((2 * k + 1 : Nat) : Int) pr
      rw [hp] at this
      exact Nat.le_of_eq this) hR hS h.li L.sol.p0 ⟨hv, hw⟩
  have eqw : ∀ v, v < ow.length → (ws.getD v 0 = 0 ↔ Nf (limL pr) ms v < mT (limL pr)) := fun v hv => by
    refine ⟨low v hv, fun ht => ?_⟩
    rcases L.sol.r01 v hv with q | q
    · exact q
    · exact (sol_dis hO hS a L.sol.p1 ⟨hv, ht⟩ ⟨hv, q⟩).elim
  have lw := L.lw
  constructor
  · apply List.ext_getElem?
    intro v
    by_cases hv : v < ow.length
    · obtain ⟨x, g⟩ := some_of (xs := ms) (k := v) (by omega)
      obtain ⟨y, gy⟩ := some_of (xs := ws) (k := v) (by omega)
      have e : ms.getD v mz = x := by simp [List.getD, g]
      have ey : ws.getD v 0 = y := getD_some gy
      have h1 := (eqw v hv).trans (top v hv)
      rw [e, ey] at h1
      have h2 := L.sol.r01 v hv
      have h2 : y = 0 ∨ y = 1 := by rw [← ey]; exact h2
      unfold winM31
      rw [List.getElem?_map, g, gy]
      show some (if x.top = true then (1 : Int) else 0) = some y
      cases ht : x.top with
      | true =>
        rw [if_pos rfl]
        rcases h2 with q | q
        · have := h1.1 q; rw [ht] at this; cases this
        · rw [q]
      | false => rw [if_neg (by decide), h1.2 ht]
    · rw [List.getElem?_eq_none (by rw [show (winM31 ms).length = ms.length by simp [winM31]]; omega), List.getElem?_eq_none (by omega)]
  · have hset : ∀ v, (v < ow.length ∧ ws.getD v 0 = 0) ↔ (v < ow.length ∧ Nf (limL pr) ms v < mT (limL pr)) := fun v => ⟨fun q => ⟨q.1, (eqw v q.1).1 q.2⟩, fun q => ⟨q.1, (eqw v q.1).2 q.2⟩⟩
    have hfun : (fun v => v < ow.length ∧ ws.getD v 0 = 0) = fun v => v < ow.length ∧ Nf (limL pr) ms v < mT (limL pr) := funext fun v => propext (hset v)
    refine ⟨lw, tabA_len _ _, ⟨L.sol.r01, by rw [hfun]; exact a, L.sol.p1.congr fun v hv hov => ?_⟩, fun v hv hw => ?_, fun v hv hw => ?_⟩
    · show ((tabA ow.length (bothF ow pr su ms ss)).getD v 0).toNat = (ss.getD v 0).toNat
      rw [gb v hv.1]; unfold bothF; rw [if_pos hov]
    · rw [gb v hv]
      unfold bothF
      split
      · exact L.own v hv hw
      · rename_i q
        have ho0 : ow.getD v 0 = 0 := (hO v hv).resolve_right q
        have := (strA v hv ((eqw v hv).1 (by rw [hw]; exact ho0)) ho0).1
        exact (su_range V hv this).1
    · rw [gb v hv]
      unfold bothF
      split
      · exact L.opp v hv hw
      · rename_i q
        have ho0 : ow.getD v 0 = 0 := (hO v hv).resolve_right q
        unfold strF
        rw [if_neg]
        rintro ⟨_, ht⟩
        exact hw (by rw [(eqw v hv).2 ((top v hv).2 ht), ho0])
end
end Go.Am.Ar
set_option linter.unusedVariables false
set_option linter.unusedSimpArgs false
set_option maxRecDepth 10000
namespace Go.Am.Ar
open Go.Am renaming pchk → P1, pold → P2, PKNo → P3, ppack → P4, PObj.under → P5, pput → P6, ptset → P7, ptget → P8, pev → P9, ofAV → P10, ofAV1 → P11, ppad → P12, pfill → P13, prepl → P14, AO.effect → P15
open List renaming replicate → L1
open Nat renaming reduceAdd → N1, reduceSub → N2, reduceMul → N3, reduceLT → N4, reduceLeDiff → N5, reduceEqDiff → N6, reduceBEq → N7
open Int renaming reduceToNat → I1, reduceLT → I2, reduceLE → I3, reduceEq → I4, reduceAdd → I5, reduceSub → I6, reduceNeg → I7
theorem SemC_argsN {tab : FuncId → Option AF} {g : FuncId} {args args2 : List PV} {M : Mem} {K : PV → Mem → Prop} (h : ∀ w l, RepL w args l → RepL w args2 l) (hc : SemC tab g args2 M K) : SemC tab g args M K :=
  fun w hh args' h0 s ha => hc w hh args' h0 s (h w args' ha)
section
variable {tab : FuncId → Option AF} (T : HasA tab)
include T
theorem size_p {M : Mem} {K : PV → Mem → Prop} {f1 o1 f2 o2 f3 o3 f4 o4 : Bool} {ow pr : List Int} {su : List (List Int)} (P : PrOk pr) (hk : ∀ s : Int, (s ≤ 600 → mT (limL pr) ≤ 600) → K (p64 s) M) :
    SemC tab 33 [gmP f1 o1 f2 o2 f3 o3 f4 o4 ow pr su, p64 600] M K := by
  have h8 := limL_len pr
  refine SemC_pure T.h33 (by simp only [PP, P1, P2, P3, P4, P5, P6, P7, P8, P9, P10, P11, P12, P13, P14, L1, P15, N1, N2, N3, N4, N5, N6, N7, I1, I2, I3, I4, I5, I6, I7, reduceIte, reduceCtorEq, msC_len, msC_one, msC_und, under_slM, msC_0, psub_msC, pover_msC, z9, z9t, msL_len, msL_und, msL_one, prepl_ms, limC_len, limC_one, limC_und, limC_len0, pfrzL_msC, pfrzL_limC, psub_limC, pover_limC, z8, pcells_cp, one_cp, solC_und, solC_0, solC_1, solC_2, PV.under]) ?_
  simp only [af33, PP, P1, P2, P3, P4, P5, P6, P7, P8, P9, P10, P11, P12, P13, P14, L1, P15, N1, N2, N3, N4, N5, N6, N7, I1, I2, I3, I4, I5, I6, I7, reduceIte, reduceCtorEq, msC_len, msC_one, msC_und, under_slM, msC_0, psub_msC, pover_msC, z9, z9t, msL_len, msL_und, msL_one, prepl_ms, limC_len, limC_one, limC_und, limC_len0, pfrzL_msC, pfrzL_limC, psub_limC, pover_limC, z8, pcells_cp, one_cp, solC_und, solC_0, solC_1, solC_2]
  refine limits_p T P ?_
  simp only [PP, P1, P2, P3, P4, P5, P6, P7, P8, P9, P10, P11, P12, P13, P14, L1, P15, N1, N2, N3, N4, N5, N6, N7, I1, I2, I3, I4, I5, I6, I7, reduceIte, reduceCtorEq, msC_len, msC_one, msC_und, under_slM, msC_0, psub_msC, pover_msC, z9, z9t, msL_len, msL_und, msL_one, prepl_ms, limC_len, limC_one, limC_und, limC_len0, pfrzL_msC, pfrzL_limC, psub_limC, pover_limC, z8, pcells_cp, one_cp, solC_und, solC_0, solC_1, solC_2]
  refine loop1 (fun (k : Nat) => k ≤ 8 ∧ mB (limL pr) k ≤ 600 * 1000000000001) (fun k => [.junk, p64 600, .junk, .junk, .junk, .ptr 1 0 0, p64 ((mB (limL pr) k : Nat) : Int), p64 k, .junk, .junk, .junk, .junk, .junk, .junk, .junk, .junk, .junk, .junk, .junk, .junk, .junk, .junk, .junk, .junk, .junk, .junk])
    (fun k => [.cells 0 0 [slI f1 o1 .u8 ow, slI f2 o2 .i64 pr, slR f3 o3 f4 o4 .i64 su], .cells 0 1 (limC (limL pr))]) (fun k => 8 - k) 0 ⟨by omega, by show 1 ≤ _; omega⟩ (by simp only [PWeak_nil, PWeak_junk, PWeak_same, Int.cast_ofNat_Int, show mB (limL pr) 0 = 1 from rfl]) rfl ?_
  intro k ⟨hle, hb⟩ ih
  refine SemW_go (by kernel_rfl) ?_
  simp only [PP, P1, P2, P3, P4, P5, P6, P7, P8, P9, P10, P11, P12, P13, P14, L1, P15, N1, N2, N3, N4, N5, N6, N7, I1, I2, I3, I4, I5, I6, I7, reduceIte, reduceCtorEq]
  refine QIf.intro (fun c => ?_) (fun c => ?_)
  · simp only [PP, P1, P2, P3, P4, P5, P6, P7, P8, P9, P10, P11, P12, P13, P14, L1, P15, N1, N2, N3, N4, N5, N6, N7, I1, I2, I3, I4, I5, I6, I7, reduceIte, reduceCtorEq, c]
    refine QIf.intro (fun d => ?_) (fun d => ?_)
    · have hk8 : k < 8 := by omega
      have k0 : (0 : Int) ≤ k := by omega
      have k8 : (k : Int) < 8 := by omega
      have hwk := wrap_succ (k := k) (by show _ < 1000000000000; omega)
      have gn := limL_at pr hk8
      have hn := limL_lt P.1 _ (List.mem_of_getElem? gn)
      have hs := mB_succ gn
      have g2 := limC_at gn
      generalize pr.count ((2 * k + 1 : Nat) : Int) = n at gn hn hs g2
      have hw1 := wrap_succ (k := n) (by show _ < 1000000000000; omega)
      have hmul : mB (limL pr) k * (n + 1) ≤ 600 * 1000000000001 := Nat.mul_le_mul (by omega) (by omega)
      have hw2 : IntKind.i64.wrap ((mB (limL pr) k : Nat) * ((n + 1 : Nat) : Int)) = ((mB (limL pr) (k + 1) : Nat) : Int) := by
        rw [hs, ← Int.natCast_mul]
        exact wrap64 (by omega) (by omega)
      simp only [PP, P1, P2, P3, P4, P5, P6, P7, P8, P9, P10, P11, P12, P13, P14, L1, P15, N1, N2, N3, N4, N5, N6, N7, I1, I2, I3, I4, I5, I6, I7, reduceIte, reduceCtorEq, msC_len, msC_one, msC_und, under_slM, msC_0, psub_msC, pover_msC, z9, z9t, msL_len, msL_und, msL_one, prepl_ms, limC_len, limC_one, limC_und, limC_len0, pfrzL_msC, pfrzL_limC, psub_limC, pover_limC, z8, pcells_cp, one_cp, solC_und, solC_0, solC_1, solC_2, c, d, k0, k8, g2, hw1, hw2, hwk]
      exact SemW_weak (ih (k + 1) ⟨hk8, by rw [hs]; exact hmul⟩ (by omega)) (by simp only [PWeak_nil, PWeak_junk, PWeak_same, Int.cast_ofNat_Int, List.length_append, List.length_cons, List.length_nil, Nat.zero_add])
    · simp only [PP, P1, P2, P3, P4, P5, P6, P7, P8, P9, P10, P11, P12, P13, P14, L1, P15, N1, N2, N3, N4, N5, N6, N7, I1, I2, I3, I4, I5, I6, I7, reduceIte, reduceCtorEq, c, d]
      exact hk _ fun h => absurd h d
  · have hk8 : k = 8 := by omega
    subst hk8
    simp only [PP, P1, P2, P3, P4, P5, P6, P7, P8, P9, P10, P11, P12, P13, P14, L1, P15, N1, N2, N3, N4, N5, N6, N7, I1, I2, I3, I4, I5, I6, I7, reduceIte, reduceCtorEq]
    refine hk _ fun h => ?_
    rw [mT_split _ 8, List.drop_of_length_le (by omega)]
    simp only [mT]; omega
theorem long31_p {M : Mem} {K : PV → Mem → Prop} {f1 o1 f2 o2 f3 o3 f4 o4 : Bool} {ow pr : List Int} {su : List (List Int)}
    (hk : ∀ b : Bool, (b = false → longM ow pr su [] = false ∧ ow.length ≤ 12 ∧ (checkM ow pr su = 0 → mT (limL pr) ≤ 600)) → K (.bool b) M) :
    SemC tab 9 [gmP f1 o1 f2 o2 f3 o3 f4 o4 ow pr su] M K := by
  refine SemC_pure T.h9 (by simp only [PP, P1, P2, P3, P4, P5, P6, P7, P8, P9, P10, P11, P12, P13, P14, L1, P15, N1, N2, N3, N4, N5, N6, N7, I1, I2, I3, I4, I5, I6, I7, reduceIte, reduceCtorEq]) ?_
  simp only [af9, PP, P1, P2, P3, P4, P5, P6, P7, P8, P9, P10, P11, P12, P13, P14, L1, P15, N1, N2, N3, N4, N5, N6, N7, I1, I2, I3, I4, I5, I6, I7, reduceIte, reduceCtorEq]
  refine SemC_argsN (args2 := [gmP f1 o1 f2 o2 f3 o3 f4 o4 ow pr su, slR false false false false .i64 []]) (fun w l h => by
    match l, h with
    | [a, b], h => exact .cons h.hd (.cons (PvWk.nils false false 1 w b h.tl.hd) (.nil w))
    | [], h => exact absurd h.len (by simp)
    | [_], h => exact absurd h.len (by simp)
    | _ :: _ :: _ :: _, h => exact absurd h.len (by simp)) (long_p T (ls := []) (by show 0 < 1000000000000; omega) ?_)
  cases hl : longM ow pr su [] with
  | true =>
    simp only [PP, P1, P2, P3, P4, P5, P6, P7, P8, P9, P10, P11, P12, P13, P14, L1, P15, N1, N2, N3, N4, N5, N6, N7, I1, I2, I3, I4, I5, I6, I7, reduceIte, reduceCtorEq]
    exact hk true fun h => by cases h
  | false =>
    have B := (longM_false hl).bnd
    simp only [PP, P1, P2, P3, P4, P5, P6, P7, P8, P9, P10, P11, P12, P13, P14, L1, P15, N1, N2, N3, N4, N5, N6, N7, I1, I2, I3, I4, I5, I6, I7, reduceIte, reduceCtorEq]
    refine QIf.intro (fun c => ?_) (fun c => ?_)
    · simp only [PP, P1, P2, P3, P4, P5, P6, P7, P8, P9, P10, P11, P12, P13, P14, L1, P15, N1, N2, N3, N4, N5, N6, N7, I1, I2, I3, I4, I5, I6, I7, reduceIte, reduceCtorEq, c]
      exact hk true fun h => by cases h
    · simp only [PP, P1, P2, P3, P4, P5, P6, P7, P8, P9, P10, P11, P12, P13, P14, L1, P15, N1, N2, N3, N4, N5, N6, N7, I1, I2, I3, I4, I5, I6, I7, reduceIte, reduceCtorEq, c]
      refine refCheck_p T B ?_
      simp only [PP, P1, P2, P3, P4, P5, P6, P7, P8, P9, P10, P11, P12, P13, P14, L1, P15, N1, N2, N3, N4, N5, N6, N7, I1, I2, I3, I4, I5, I6, I7, reduceIte, reduceCtorEq]
      by_cases d : checkM ow pr su = 0
      · simp only [PP, P1, P2, P3, P4, P5, P6, P7, P8, P9, P10, P11, P12, P13, P14, L1, P15, N1, N2, N3, N4, N5, N6, N7, I1, I2, I3, I4, I5, I6, I7, reduceIte, reduceCtorEq, d]
        refine size_p T (valid_pr (valid_of d)) (fun s hs => ?_)
        simp only [PP, P1, P2, P3, P4, P5, P6, P7, P8, P9, P10, P11, P12, P13, P14, L1, P15, N1, N2, N3, N4, N5, N6, N7, I1, I2, I3, I4, I5, I6, I7, reduceIte, reduceCtorEq]
        exact hk _ fun h => ⟨hl, by omega, fun _ => hs (by have := of_decide_eq_false h; omega)⟩
      · simp only [PP, P1, P2, P3, P4, P5, P6, P7, P8, P9, P10, P11, P12, P13, P14, L1, P15, N1, N2, N3, N4, N5, N6, N7, I1, I2, I3, I4, I5, I6, I7, reduceIte, reduceCtorEq, d]
        exact hk false fun _ => ⟨hl, by omega, fun h => absurd h d⟩
end
end Go.Am.Ar
set_option linter.unusedVariables false
set_option linter.unusedSimpArgs false
set_option maxRecDepth 10000
namespace Go.Am.Ar
open Go.Am renaming pchk → P1, pold → P2, PKNo → P3, ppack → P4, PObj.under → P5, pput → P6, ptset → P7, ptget → P8, pev → P9, ofAV → P10, ofAV1 → P11, ppad → P12, pfill → P13, prepl → P14, AO.effect → P15
open List renaming replicate → L1
open Nat renaming reduceAdd → N1, reduceSub → N2, reduceMul → N3, reduceLT → N4, reduceLeDiff → N5, reduceEqDiff → N6, reduceBEq → N7
open Int renaming reduceToNat → I1, reduceLT → I2, reduceLE → I3, reduceEq → I4, reduceAdd → I5, reduceSub → I6, reduceNeg → I7
section
variable {tab : FuncId → Option AF} (T : HasA tab)
include T
set_option maxHeartbeats 2000000 in
theorem pzielonka_p {ow pr : List Int} {su : List (List Int)} (ho : ∀ x ∈ ow, 0 ≤ x) :
    SemC tab 8 [gmP false false false false false false false false ow pr su] [] fun r _ => r = .bool true := by
  refine SemC_fn T.h8 ?_
  simp only [af8, PP, P1, P2, P3, P4, P5, P6, P7, P8, P9, P10, P11, P12, P13, P14, L1, P15, N1, N2, N3, N4, N5, N6, N7, I1, I2, I3, I4, I5, I6, I7, reduceIte, reduceCtorEq]
  refine long31_p T (fun b hb => ?_)
  cases b with
  | true =>
    simp only [PP, P1, P2, P3, P4, P5, P6, P7, P8, P9, P10, P11, P12, P13, P14, L1, P15, N1, N2, N3, N4, N5, N6, N7, I1, I2, I3, I4, I5, I6, I7, reduceIte, reduceCtorEq]
    refine SemC_true T.awake ?_
    simp only [PP, P1, P2, P3, P4, P5, P6, P7, P8, P9, P10, P11, P12, P13, P14, L1, P15, N1, N2, N3, N4, N5, N6, N7, I1, I2, I3, I4, I5, I6, I7, reduceIte, reduceCtorEq]
  | false =>
    obtain ⟨hl, h12, hT⟩ := hb rfl
    have S := longM_false hl
    have B := S.bnd
    simp only [PP, P1, P2, P3, P4, P5, P6, P7, P8, P9, P10, P11, P12, P13, P14, L1, P15, N1, N2, N3, N4, N5, N6, N7, I1, I2, I3, I4, I5, I6, I7, reduceIte, reduceCtorEq]
    refine SemC_true T.awake ?_
    simp only [PP, P1, P2, P3, P4, P5, P6, P7, P8, P9, P10, P11, P12, P13, P14, L1, P15, N1, N2, N3, N4, N5, N6, N7, I1, I2, I3, I4, I5, I6, I7, reduceIte, reduceCtorEq]
    refine winners31_p T B (fun ms e hA => ?_)
    simp only [PP, P1, P2, P3, P4, P5, P6, P7, P8, P9, P10, P11, P12, P13, P14, L1, P15, N1, N2, N3, N4, N5, N6, N7, I1, I2, I3, I4, I5, I6, I7, reduceIte, reduceCtorEq]
    refine strategy31_p T B (fun ms2 e2 hA2 => ?_)
    obtain ⟨rfl, rfl⟩ := hA.eq hA2
    simp only [PP, P1, P2, P3, P4, P5, P6, P7, P8, P9, P10, P11, P12, P13, P14, L1, P15, N1, N2, N3, N4, N5, N6, N7, I1, I2, I3, I4, I5, I6, I7, reduceIte, reduceCtorEq]
    refine solve_p T B ho (fun c1 => ?_) (fun c1 ws ss L => ?_)
    · rcases hA with ⟨_, rfl, rfl⟩ | ⟨c2, _⟩
      · simp only [PP, P1, P2, P3, P4, P5, P6, P7, P8, P9, P10, P11, P12, P13, P14, L1, P15, N1, N2, N3, N4, N5, N6, N7, I1, I2, I3, I4, I5, I6, I7, reduceIte, reduceCtorEq, c1]
      · exact absurd c2 c1
    rcases hA with ⟨c2, _⟩ | ⟨_, rfl, hL⟩
    · exact absurd c1 c2
    have V := valid_of c1
    have n0 := V.n0
    have hml := hL.st.l
    obtain ⟨hw, LB⟩ := prog_all V ho L hL
    have lw := L.lw
    have ls := L.ls
    have lwm : (winM31 ms).length = ow.length := by rw [hw]; exact lw
    have lsm : (strM ow pr su ms).length = ow.length := by unfold strM; rw [tabA_len]; exact hml
    have b8 : ow.length * 8 ≤ 140737488355328 := by omega
    have b2 : ow.length ≤ 9223372036854775807 := by omega
    simp only [PP, P1, P2, P3, P4, P5, P6, P7, P8, P9, P10, P11, P12, P13, P14, L1, P15, N1, N2, N3, N4, N5, N6, N7, I1, I2, I3, I4, I5, I6, I7, reduceIte, reduceCtorEq]
    refine equalBytes_p T (by show _ < 1000000000000; rw [lwm]; omega) ?_
    simp only [PP, P1, P2, P3, P4, P5, P6, P7, P8, P9, P10, P11, P12, P13, P14, L1, P15, N1, N2, N3, N4, N5, N6, N7, I1, I2, I3, I4, I5, I6, I7, reduceIte, reduceCtorEq, hw, lw, ls, lsm]
    refine SemC_fn T.h30 ?_
    simp only [af30, PP, P1, P2, P3, P4, P5, P6, P7, P8, P9, P10, P11, P12, P13, P14, L1, P15, N1, N2, N3, N4, N5, N6, N7, I1, I2, I3, I4, I5, I6, I7, reduceIte, reduceCtorEq, lsm, b8, b2]
    refine loop3 (fun (k ver : Nat) (a : List Int) => k ≤ ow.length ∧ a.length = ow.length ∧ (∀ v, v < k → a[v]? = some (bothF ow pr su ms ss v)) ∧ ∀ v, k ≤ v → v < ow.length → a[v]? = some (strF ow pr su ms v))
      (fun k ver a => [.junk, .ptr 0 0 0, .junk, slI false true .u8 ws, .junk, .junk, .junk, .ptr 1 0 0, .junk, .ptr 3 0 0, p64 k, .junk, .junk, .junk, .junk, .junk, .junk, .junk, .junk, .junk, .junk, .junk, .junk, .junk, .junk, .junk, .junk, .junk, .junk, .junk, .junk, .junk, .junk, .junk, .junk, .junk, .junk, .junk, .junk, .junk, .junk, .junk, .junk, .junk, .junk, .junk, .junk, .junk, .junk, .junk, .junk, .junk, .junk, .junk, .junk, .junk, .junk, .junk, .junk, .junk, .junk, .junk, .junk, .junk, .junk, .junk, .junk, .junk, .junk, .junk, .junk, .junk, .junk, .junk, .junk, .junk, .junk, .junk, .junk, .junk, .junk, .junk, .junk, .junk, .junk, .junk, .junk, .junk, .junk, .junk, .junk, .junk, .junk, .junk, .junk, .junk, .junk, .junk, .junk])
      (fun k ver a => [.cells 0 0 [slI false false .u8 ow, slI false false .i64 pr, slR false false false false .i64 su], .cells 0 1 [slI false true .u8 ws, slI false true .i64 ss], .cells 0 ver (a.map (PV.int .i64)), .cells 0 1 [slI false true .u8 ws, .ref 2 0 1 0 ow.length]]) (fun k _ _ => ow.length - k) 0 0 (strM ow pr su ms) ⟨by omega, lsm, fun v h => by omega, fun v _ h => by unfold strM; rw [tabA_get (by omega)]⟩ ?_ ?_ ?_
    · simp only [PWeak_nil, PWeak_junk, PWeak_same, Int.cast_ofNat_Int, hw]
    · simp only [PP, P1, P2, P3, P4, P5, P6, P7, P8, P9, P10, P11, P12, P13, P14, L1, P15, N1, N2, N3, N4, N5, N6, N7, I1, I2, I3, I4, I5, I6, I7, reduceIte, reduceCtorEq, hw]
    intro k ver a ⟨hle, la, hlo, hhi⟩ ih
    refine SemW_go (by kernel_rfl) ?_
    simp only [PP, P1, P2, P3, P4, P5, P6, P7, P8, P9, P10, P11, P12, P13, P14, L1, P15, N1, N2, N3, N4, N5, N6, N7, I1, I2, I3, I4, I5, I6, I7, reduceIte, reduceCtorEq, lw]
    refine QIf.intro (fun c => ?_) (fun c => ?_)
    · have hk' : k < ow.length := by omega
      have k0 : (0 : Int) ≤ k := by omega
      have kn : (k : Int) < ow.length := by omega
      have k1 : k + 1 ≤ ow.length := hk'
      have hwk := wrap_succ (k := k) (by show _ < 1000000000000; omega)
      obtain ⟨o, g1⟩ := some_of (xs := ow) (k := k) hk'
      obtain ⟨x, g2⟩ := some_of (xs := ss) (k := k) (by omega)
      have e1 : ow.getD k 0 = o := getD_some g1
      have e2 : ss.getD k 0 = x := getD_some g2
      have next : ∀ a' : List Int, a'.length = ow.length → a'[k]? = some (bothF ow pr su ms ss k) → (∀ v, v ≠ k → a'[v]? = a[v]?) → k + 1 ≤ ow.length ∧ a'.length = ow.length ∧ (∀ v, v < k + 1 → a'[v]? = some (bothF ow pr su ms ss v)) ∧ ∀ v, k + 1 ≤ v → v < ow.length → a'[v]? = some (strF ow pr su ms v) := fun a' h1 h2 h3 => ⟨hk', h1, fun v hv => by
        by_cases e : v = k
        · subst e; exact h2
        · rw [h3 v e]; exact hlo v (by omega), fun v h4 h5 => by rw [h3 v (by omega)]; exact hhi v (by omega) h5⟩
      simp only [PP, P1, P2, P3, P4, P5, P6, P7, P8, P9, P10, P11, P12, P13, P14, L1, P15, N1, N2, N3, N4, N5, N6, N7, I1, I2, I3, I4, I5, I6, I7, reduceIte, reduceCtorEq, c, k0, kn, g1]
      refine QIf.intro (fun d => ?_) (fun d => ?_)
      · simp only [PP, P1, P2, P3, P4, P5, P6, P7, P8, P9, P10, P11, P12, P13, P14, L1, P15, N1, N2, N3, N4, N5, N6, N7, I1, I2, I3, I4, I5, I6, I7, reduceIte, reduceCtorEq, d, k0, kn, k1, g2, ls, la, hwk]
        refine SemW_to (ih (k + 1) (ver + 1) (a.set k x) (next _ (by simp [la]) ?_ fun v hv => List.getElem?_set_ne (by omega)) (by omega)) (by simp only [PWeak_nil, PWeak_junk, PWeak_same, Int.cast_ofNat_Int, List.length_append, List.length_cons, List.length_nil, Nat.zero_add]) (by simp only [← List.map_set])
        rw [List.getElem?_set_self (by omega)]
        unfold bothF; rw [if_pos (by rw [e1]; exact d), e2]
      · simp only [PP, P1, P2, P3, P4, P5, P6, P7, P8, P9, P10, P11, P12, P13, P14, L1, P15, N1, N2, N3, N4, N5, N6, N7, I1, I2, I3, I4, I5, I6, I7, reduceIte, reduceCtorEq, d, hwk]
        refine SemW_weak (ih (k + 1) ver a (next a la ?_ fun v hv => rfl) (by omega)) (by simp only [PWeak_nil, PWeak_junk, PWeak_same, Int.cast_ofNat_Int, List.length_append, List.length_cons, List.length_nil, Nat.zero_add])
        rw [hhi k (Nat.le_refl _) hk']
        unfold bothF; rw [if_neg (by rw [e1]; exact d)]
    · have hkn : k = ow.length := by omega
      subst hkn
      have ea : a = tabA ow.length (bothF ow pr su ms ss) := tabA_ext la hlo
      subst ea
      have hC := LB.corr V c1 ho
      simp only [PP, P1, P2, P3, P4, P5, P6, P7, P8, P9, P10, P11, P12, P13, P14, L1, P15, N1, N2, N3, N4, N5, N6, N7, I1, I2, I3, I4, I5, I6, I7, reduceIte, reduceCtorEq, c]
      refine SemC_bor (args2 := [gmP false false false false false false false false ow pr su, .agg [slI false true .u8 ws, slI true false .i64 (tabA ow.length (bothF ow pr su ms ss))]]) (.same (by simp only [PP, P1, P2, P3, P4, P5, P6, P7, P8, P9, P10, P11, P12, P13, P14, L1, P15, N1, N2, N3, N4, N5, N6, N7, I1, I2, I3, I4, I5, I6, I7, reduceIte, reduceCtorEq]) (.agg (.same (by simp only [PP, P1, P2, P3, P4, P5, P6, P7, P8, P9, P10, P11, P12, P13, P14, L1, P15, N1, N2, N3, N4, N5, N6, N7, I1, I2, I3, I4, I5, I6, I7, reduceIte, reduceCtorEq]) (.ints rfl (tabA_len _ _) .nil)) .nil)) (correct_p T B (fun b hb => ⟨rfl, ?_⟩))
      have hb : b = true := hb.2 hC
      subst hb
      simp only [PP, P1, P2, P3, P4, P5, P6, P7, P8, P9, P10, P11, P12, P13, P14, L1, P15, N1, N2, N3, N4, N5, N6, N7, I1, I2, I3, I4, I5, I6, I7, reduceIte, reduceCtorEq]
end
end Go.Am.Ar
set_option linter.unusedVariables false
set_option linter.unusedSimpArgs false
namespace Go.Am.Ar
abbrev gameTy : Ty := .pair (.slice (.int .u8)) (.pair (.slice (.int .i64)) (.pair (.slice (.slice (.int .i64))) .unit))
structure Nums (ow pr : List Int) (su : List (List Int)) : Prop where
  o : ∀ x ∈ ow, 0 ≤ x ∧ x ≤ 255
  p : ∀ x ∈ pr, -9223372036854775808 ≤ x ∧ x ≤ 9223372036854775807
  s : ∀ r ∈ su, ∀ x ∈ r, -9223372036854775808 ≤ x ∧ x ≤ 9223372036854775807
  lo : ow.length ≤ 9223372036854775807
  lp : pr.length ≤ 9223372036854775807
  ls : su.length ≤ 9223372036854775807
  lr : ∀ r ∈ su, r.length ≤ 9223372036854775807
theorem arg_game {v : AV} {h : H} (hs : ShV gameTy v h) : ∃ (ow pr : List Int) (su : List (List Int)), RepV (wH h) (gmP false false false false false false false false ow pr su) v ∧ Nums ow pr su := by
  obtain ⟨avs, hs, rfl⟩ := hs
  obtain ⟨c1, c2, rfl, h1, c3, c4, rfl, h2, c5, c6, rfl, h3, h4⟩ := hs
  have h4 : c6 = [] := h4
  subst h4
  obtain ⟨vo, ow, rfl, p1, q1, r1⟩ := sh_intsP h1
  obtain ⟨vp, pr, rfl, p2, q2, r2⟩ := sh_intsP h2
  obtain ⟨vs, su, rfl, p3, q3, r3⟩ := sh_rowsP h3
  refine ⟨ow, pr, su, ?_, ⟨r1, r2, fun r hr => (r3 r hr).2, q1, q2, q3, fun r hr => (r3 r hr).1⟩⟩
  have := RepL.cons p1 (.cons p2 (.cons p3 (.nil (wH h))))
  exact .agg this.len this.get
theorem run_of_C {tab : FuncId → Option AF} {g : FuncId} {args : List AV} {h : H} (hc : C (lim tab) g args h fun v _ => v = .bool true) : ∃ n h', (run tab n).call g args h = some (.bool true, h') := by
  unfold C at hc
  obtain ⟨v, h', he, rfl⟩ := hc
  obtain ⟨n, hn⟩ := (lim_call_iff tab).1 he
  exact ⟨n, h', hn⟩
theorem shVs1 {A : Ty} {args : List AV} {h : H} (hs : ShVs [A] args h) : ∃ a, args = [a] ∧ ShV A a h := by
  match args, hs with
  | [a], ⟨h1, _⟩ => exact ⟨a, rfl, h1⟩
end Go.Am.Ar
set_option linter.unusedVariables false
namespace Go.Am.Ar
theorem pzielonka_all {tab : FuncId → Option AF} (T : HasA tab) (args : List AV) (h : H) (hs : ShVs [gameTy] args h) :
    ∃ n h', (run tab n).call 8 args h = some (.bool true, h') := by
  obtain ⟨a, rfl, ha⟩ := shVs1 hs
  obtain ⟨ow, pr, su, r1, N⟩ := arg_game ha
  exact run_of_C (law_of_sem (.cons r1 (.nil _)) (pzielonka_p T (fun x hx => (N.o x hx).1)))
end Go.Am.Ar

