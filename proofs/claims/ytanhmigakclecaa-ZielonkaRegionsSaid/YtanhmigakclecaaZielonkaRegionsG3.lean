/- Contracts: winning regions, and whether a player wins (package zielonka), and what goes with it. -/
import Derived.Test.YtanhmigakclecaaZielonkaRegionsG2
import Derived.Test.YtanhmigakclecaaZielonkaRegionsG0
import Derived.Test.YtanhmigakclecaaPmL
set_option linter.unusedVariables false
set_option linter.unusedSimpArgs false
set_option maxRecDepth 10000
namespace Go.Am.Ar
open Go.Am renaming pchk → P1, pold → P2, PKNo → P3, ppack → P4, PObj.under → P5, pput → P6, ptset → P7, ptget → P8, pev → P9, ofAV → P10, ofAV1 → P11, ppad → P12, pfill → P13, prepl → P14, AO.effect → P15
open List renaming replicate → L1
open Nat renaming reduceAdd → N1, reduceSub → N2, reduceMul → N3, reduceLT → N4, reduceLeDiff → N5, reduceEqDiff → N6, reduceBEq → N7
open Int renaming reduceToNat → I1, reduceLT → I2, reduceLE → I3, reduceEq → I4, reduceAdd → I5, reduceSub → I6, reduceNeg → I7
/-- What solving answers. -/
def SolR (ow pr : List Int) (su : List (List Int)) (ws ss : List Int) (e : Int) : Prop :=
  (¬ checkM ow pr su = 0 ∧ e = checkM ow pr su ∧ ws = [] ∧ ss = []) ∨ (checkM ow pr su = 0 ∧ e = 0 ∧ SolL ow pr su ws ss)
theorem SolL.eq {ow pr : List Int} {su : List (List Int)} {ws ss ws' ss' : List Int} (V : Valid ow pr su) (ho : ∀ x ∈ ow, 0 ≤ x) (L : SolL ow pr su ws ss) (L' : SolL ow pr su ws' ss') : ws = ws' :=
  getD_ext (by rw [L.lw, L'.lw]) fun v hv => L.unique V ho L'.sol v (by rw [← L.lw]; exact hv)
theorem SolL.w01 {ow pr : List Int} {su : List (List Int)} {ws ss : List Int} (L : SolL ow pr su ws ss) : ∀ x ∈ ws, x = 0 ∨ x = 1 := fun x hx => by
  obtain ⟨i, hi⟩ := List.getElem?_of_mem hx
  have := L.sol.r01 i (by rw [← L.lw]; exact getSome_lt hi)
  simp only [getD_some hi] at this
  exact this
theorem SolR.w01 {ow pr : List Int} {su : List (List Int)} {ws ss : List Int} {e : Int} (h : SolR ow pr su ws ss e) : ∀ x ∈ ws, x = 0 ∨ x = 1 := by
  rcases h with ⟨_, _, rfl, _⟩ | ⟨_, _, L⟩
  · intro x h; cases h
  · exact L.w01
theorem SolR.len {ow pr : List Int} {su : List (List Int)} {ws ss : List Int} {e : Int} (h : SolR ow pr su ws ss e) : ws.length ≤ 4096 := by
  rcases h with ⟨_, _, rfl, _⟩ | ⟨c, _, L⟩
  · simp
  · rw [L.lw]; exact (valid_of c).n1
theorem SolR.eq {ow pr : List Int} {su : List (List Int)} {ws ss ws' ss' : List Int} {e e' : Int} (ho : ∀ x ∈ ow, 0 ≤ x) (h : SolR ow pr su ws ss e) (h' : SolR ow pr su ws' ss' e') : ws = ws' ∧ e = e' := by
  rcases h with ⟨c, he, rfl, _⟩ | ⟨c, he, L⟩ <;> rcases h' with ⟨c', he', rfl, _⟩ | ⟨c', he', L'⟩
  · exact ⟨rfl, by rw [he, he']⟩
  · exact absurd c' c
  · exact absurd c c'
  · exact ⟨L.eq (valid_of c) ho L', by rw [he, he']⟩
/-- The positions that a player wins. -/
def wL (ws : List Int) (p : Int) (k : Nat) : List Nat := (List.range k).filter fun v => decide (ws.getD v 0 = p)
theorem wL_len (ws : List Int) (p : Int) (k : Nat) : (wL ws p k).length ≤ k := by
  have := List.length_filter_le (fun v => decide (ws.getD v 0 = p)) (List.range k)
  rwa [List.length_range] at this
theorem wL_succ (ws : List Int) (p : Int) (k : Nat) : wL ws p (k + 1) = wL ws p k ++ if ws.getD k 0 = p then [k] else [] := by
  unfold wL
  rw [List.range_succ, List.filter_append]
  by_cases h : ws.getD k 0 = p
  · rw [if_pos h, List.filter_cons, if_pos (decide_eq_true h)]; rfl
  · rw [if_neg h, List.filter_cons, if_neg (by simpa using h)]; rfl
theorem wL_mem {ws : List Int} {p : Int} {k v : Nat} : v ∈ wL ws p k ↔ v < k ∧ ws.getD v 0 = p := by simp [wL]
def wonM (ws : List Int) (e : Int) (n : Int) (v pl : Int) : PV :=
  if e = 0 then (if v < 0 then .tuple [.bool false, p64 8] else if n ≤ v then .tuple [.bool false, p64 8] else if 1 < pl then .tuple [.bool false, p64 6] else .tuple [.bool (decide (ws.getD v.toNat 0 = pl)), p64 0]) else .tuple [.bool false, p64 e]
section
variable {tab : FuncId → Option AF} (T : HasA tab)
include T
theorem solve_q {M : Mem} {K : PV → Mem → Prop} {f1 p1 f2 p2 f3 p3 f4 p4 : Bool} {ow pr : List Int} {su : List (List Int)} (B : Bnd ow pr su) (ho : ∀ x ∈ ow, 0 ≤ x)
    (hk : ∀ ws ss e, SolR ow pr su ws ss e → K (solV ws ss e) M) : SemC tab 12 [gmP f1 p1 f2 p2 f3 p3 f4 p4 ow pr su] M K :=
  solve_p T B ho (fun c => hk [] [] _ (.inl ⟨c, rfl, rfl, rfl⟩)) (fun c ws ss L => hk ws ss 0 (.inr ⟨c, rfl, L⟩))
theorem regions_p {M : Mem} {K : PV → Mem → Prop} {f1 p1 f2 p2 f3 p3 f4 p4 : Bool} {ow pr : List Int} {su : List (List Int)} (B : Bnd ow pr su) (ho : ∀ x ∈ ow, 0 ≤ x)
    (hk : ∀ ws ss e, SolR ow pr su ws ss e → K (.tuple [slI false true .i64 (natI (wL ws 0 ws.length)), slI false true .i64 (natI (wL ws 1 ws.length)), p64 e]) M) :
    SemC tab 20 [gmP f1 p1 f2 p2 f3 p3 f4 p4 ow pr su] M K := by
  refine SemC_pure T.h20 (by simp only [PP, P1, P2, P3, P4, P5, P6, P7, P8, P9, P10, P11, P12, P13, P14, L1, P15, N1, N2, N3, N4, N5, N6, N7, I1, I2, I3, I4, I5, I6, I7, reduceIte, reduceCtorEq]) ?_
  simp only [af20, PP, P1, P2, P3, P4, P5, P6, P7, P8, P9, P10, P11, P12, P13, P14, L1, P15, N1, N2, N3, N4, N5, N6, N7, I1, I2, I3, I4, I5, I6, I7, reduceIte, reduceCtorEq]
  refine solve_q T B ho (fun ws ss e hR => ?_)
  have hk := hk ws ss e hR
  have hn := hR.len
  have h01 := hR.w01
  simp only [PP, P1, P2, P3, P4, P5, P6, P7, P8, P9, P10, P11, P12, P13, P14, L1, P15, N1, N2, N3, N4, N5, N6, N7, I1, I2, I3, I4, I5, I6, I7, reduceIte, reduceCtorEq]
  refine SemW_re (GStep.nilbox 2 0 1 rfl rfl rfl) ?_
  refine SemW_re (GStep.nilbox 2 1 1 rfl rfl rfl) ?_
  simp only [List.length_cons, List.length_nil, List.length_append, List.length_set, List.set_cons_zero, List.set_cons_succ, List.cons_append, List.nil_append, Nat.reduceAdd]
  refine loop4 (fun (k vv ga gb : Nat) => k ≤ ws.length)
    (fun k vv ga gb => [.junk, .junk, .junk, .junk, p64 e, .junk, .ptr 2 0 0, .junk, .junk, .junk, .junk, .junk, .junk, .junk, .junk, slI false true .u8 ws, p64 ws.length, p64 k, .junk, .junk, .junk, .junk, .junk, .junk, .junk, .junk, .junk, .junk, .junk, .junk, .junk, .junk, .junk, .junk, .junk, .junk])
    (fun k vv ga gb => [.cells 0 0 [slI f1 p1 .u8 ow, slI f2 p2 .i64 pr, slR f3 p3 f4 p4 .i64 su], .cells 0 1 [slI false true .u8 ws, slI false true .i64 ss], .cells 0 vv [.ref 3 ga 1 0 (wL ws 0 k).length, .ref 4 gb 1 0 (wL ws 1 k).length], .cells ga 0 ((natI (wL ws 0 k)).map (PV.int .i64)), .cells gb 0 ((natI (wL ws 1 k)).map (PV.int .i64))])
    (fun k _ _ _ => ws.length - k) 0 0 0 0 (by omega) (by simp only [PWeak_nil, PWeak_junk, PWeak_same, Int.cast_ofNat_Int, List.length_append, List.length_cons, List.length_nil, Nat.zero_add]) rfl ?_
  intro k vv ga gb hle ih
  refine SemW_go (by kernel_rfl) ?_
  simp only [PP, P1, P2, P3, P4, P5, P6, P7, P8, P9, P10, P11, P12, P13, P14, L1, P15, N1, N2, N3, N4, N5, N6, N7, I1, I2, I3, I4, I5, I6, I7, reduceIte, reduceCtorEq]
  refine QIf.intro (fun c => ?_) (fun c => ?_)
  · have hk' : k < ws.length := by omega
    have k0 : (0 : Int) ≤ k := by omega
    have hwk := wrap_succ (k := k) (by show _ < 1000000000000; omega)
    obtain ⟨x, g1⟩ := some_of (xs := ws) (k := k) hk'
    have ex : ws.getD k 0 = x := getD_some g1
    have s0 := wL_succ ws 0 k
    have s1 := wL_succ ws 1 k
    have l0 := wL_len ws 0 k
    have l1 := wL_len ws 1 k
    rw [ex] at s0 s1
    have b1 : ((wL ws 0 k).length + 1) * 8 ≤ 140737488355328 := by omega
    have b2 : (wL ws 0 k).length ≤ 9223372036854775806 := by omega
    have b3 : ((wL ws 1 k).length + 1) * 8 ≤ 140737488355328 := by omega
    have b4 : (wL ws 1 k).length ≤ 9223372036854775806 := by omega
    have ps : ∀ l : List Nat, psub ((natI l).map (PV.int .i64)) 0 l.length ++ [PV.int .i64 (k : Int)] = (natI (l ++ [k])).map (PV.int .i64) := fun l => by
      rw [psub_all _ _ (by simp)]; simp
    rcases h01 x (List.mem_of_getElem? g1) with rfl | rfl
    · rw [if_pos rfl] at s0
      rw [if_neg (by omega), List.append_nil] at s1
      simp only [PP, P1, P2, P3, P4, P5, P6, P7, P8, P9, P10, P11, P12, P13, P14, L1, P15, N1, N2, N3, N4, N5, N6, N7, I1, I2, I3, I4, I5, I6, I7, reduceIte, reduceCtorEq, c, k0, g1, b1, b2, hwk]
      refine SemW_to (ih (k + 1) (vv + 1) (ga + 1) gb (by omega) (by omega)) (by simp only [PWeak_nil, PWeak_junk, PWeak_same, Int.cast_ofNat_Int, List.length_append, List.length_cons, List.length_nil, Nat.zero_add]) (by rw [s0, s1, ← ps]; simp only [PP, P1, P2, P3, P4, P5, P6, P7, P8, P9, P10, P11, P12, P13, P14, L1, P15, N1, N2, N3, N4, N5, N6, N7, I1, I2, I3, I4, I5, I6, I7, reduceIte, reduceCtorEq])
    · rw [if_neg (by omega), List.append_nil] at s0
      rw [if_pos rfl] at s1
      simp only [PP, P1, P2, P3, P4, P5, P6, P7, P8, P9, P10, P11, P12, P13, P14, L1, P15, N1, N2, N3, N4, N5, N6, N7, I1, I2, I3, I4, I5, I6, I7, reduceIte, reduceCtorEq, c, k0, g1, b3, b4, hwk]
      refine SemW_to (ih (k + 1) (vv + 1) ga (gb + 1) (by omega) (by omega)) (by simp only [PWeak_nil, PWeak_junk, PWeak_same, Int.cast_ofNat_Int, List.length_append, List.length_cons, List.length_nil, Nat.zero_add]) (by rw [s0, s1, ← ps]; simp only [PP, P1, P2, P3, P4, P5, P6, P7, P8, P9, P10, P11, P12, P13, P14, L1, P15, N1, N2, N3, N4, N5, N6, N7, I1, I2, I3, I4, I5, I6, I7, reduceIte, reduceCtorEq])
  · have hkn : k = ws.length := by omega
    subst hkn
    simp only [PP, P1, P2, P3, P4, P5, P6, P7, P8, P9, P10, P11, P12, P13, P14, L1, P15, N1, N2, N3, N4, N5, N6, N7, I1, I2, I3, I4, I5, I6, I7, reduceIte, reduceCtorEq, c]
    rw [psub_all _ _ (by simp), psub_all _ _ (by simp)]
    simpa only [slI, List.length_map] using hk
theorem won_p {M : Mem} {K : PV → Mem → Prop} {f1 p1 f2 p2 f3 p3 f4 p4 : Bool} {ow pr : List Int} {su : List (List Int)} {v pl : Int} (B : Bnd ow pr su) (ho : ∀ x ∈ ow, 0 ≤ x)
    (hk : ∀ ws ss e, SolR ow pr su ws ss e → K (wonM ws e ow.length v pl) M) :
    SemC tab 21 [gmP f1 p1 f2 p2 f3 p3 f4 p4 ow pr su, p64 v, p8 pl] M K := by
  refine SemC_pure T.h21 (by simp only [PP, P1, P2, P3, P4, P5, P6, P7, P8, P9, P10, P11, P12, P13, P14, L1, P15, N1, N2, N3, N4, N5, N6, N7, I1, I2, I3, I4, I5, I6, I7, reduceIte, reduceCtorEq]) ?_
  simp only [af21, PP, P1, P2, P3, P4, P5, P6, P7, P8, P9, P10, P11, P12, P13, P14, L1, P15, N1, N2, N3, N4, N5, N6, N7, I1, I2, I3, I4, I5, I6, I7, reduceIte, reduceCtorEq]
  refine solve_q T B ho (fun ws ss e hR => ?_)
  have hq := hk ws ss e hR
  unfold wonM at hq
  simp only [PP, P1, P2, P3, P4, P5, P6, P7, P8, P9, P10, P11, P12, P13, P14, L1, P15, N1, N2, N3, N4, N5, N6, N7, I1, I2, I3, I4, I5, I6, I7, reduceIte, reduceCtorEq]
  refine QIf.intro (fun c1 => ?_) (fun c1 => ?_)
  rotate_left
  · simp only [PP, P1, P2, P3, P4, P5, P6, P7, P8, P9, P10, P11, P12, P13, P14, L1, P15, N1, N2, N3, N4, N5, N6, N7, I1, I2, I3, I4, I5, I6, I7, reduceIte, reduceCtorEq, c1] at hq ⊢
    exact hq
  simp only [PP, P1, P2, P3, P4, P5, P6, P7, P8, P9, P10, P11, P12, P13, P14, L1, P15, N1, N2, N3, N4, N5, N6, N7, I1, I2, I3, I4, I5, I6, I7, reduceIte, reduceCtorEq, c1] at hq ⊢
  refine QIf.intro (fun c2 => ?_) (fun c2 => ?_)
  · simp only [PP, P1, P2, P3, P4, P5, P6, P7, P8, P9, P10, P11, P12, P13, P14, L1, P15, N1, N2, N3, N4, N5, N6, N7, I1, I2, I3, I4, I5, I6, I7, reduceIte, reduceCtorEq, c2] at hq ⊢
    exact hq
  simp only [PP, P1, P2, P3, P4, P5, P6, P7, P8, P9, P10, P11, P12, P13, P14, L1, P15, N1, N2, N3, N4, N5, N6, N7, I1, I2, I3, I4, I5, I6, I7, reduceIte, reduceCtorEq, c2] at hq ⊢
  refine QIf.intro (fun c3 => ?_) (fun c3 => ?_)
  · simp only [PP, P1, P2, P3, P4, P5, P6, P7, P8, P9, P10, P11, P12, P13, P14, L1, P15, N1, N2, N3, N4, N5, N6, N7, I1, I2, I3, I4, I5, I6, I7, reduceIte, reduceCtorEq, c3] at hq ⊢
    exact hq
  simp only [PP, P1, P2, P3, P4, P5, P6, P7, P8, P9, P10, P11, P12, P13, P14, L1, P15, N1, N2, N3, N4, N5, N6, N7, I1, I2, I3, I4, I5, I6, I7, reduceIte, reduceCtorEq, c3] at hq ⊢
  refine QIf.intro (fun c4 => ?_) (fun c4 => ?_)
  · simp only [PP, P1, P2, P3, P4, P5, P6, P7, P8, P9, P10, P11, P12, P13, P14, L1, P15, N1, N2, N3, N4, N5, N6, N7, I1, I2, I3, I4, I5, I6, I7, reduceIte, reduceCtorEq, c4] at hq ⊢
    exact hq
  simp only [PP, P1, P2, P3, P4, P5, P6, P7, P8, P9, P10, P11, P12, P13, P14, L1, P15, N1, N2, N3, N4, N5, N6, N7, I1, I2, I3, I4, I5, I6, I7, reduceIte, reduceCtorEq, c4] at hq ⊢
  have hl : ws.length = ow.length := by
    rcases hR with ⟨q1, q2, _⟩ | ⟨_, _, L⟩
    · exact absurd (q2.symm.trans c1) q1
    · exact L.lw
  obtain ⟨x, g⟩ := some_of (xs := ws) (k := v.toNat) (by omega)
  have v0 : 0 ≤ v := by omega
  have v1 : v < ow.length := by omega
  rw [getD_some g] at hq
  simp only [PP, P1, P2, P3, P4, P5, P6, P7, P8, P9, P10, P11, P12, P13, P14, L1, P15, N1, N2, N3, N4, N5, N6, N7, I1, I2, I3, I4, I5, I6, I7, reduceIte, reduceCtorEq, hl, v0, v1, g]
  exact hq
end
end Go.Am.Ar

set_option linter.unusedVariables false
set_option linter.unusedSimpArgs false
set_option maxRecDepth 10000
namespace Go.Am.Ar
open Go.Am renaming pchk → P1, pold → P2, PKNo → P3, ppack → P4, PObj.under → P5, pput → P6, ptset → P7, ptget → P8, pev → P9, ofAV → P10, ofAV1 → P11, ppad → P12, pfill → P13, prepl → P14, AO.effect → P15
open List renaming replicate → L1
open Nat renaming reduceAdd → N1, reduceSub → N2, reduceMul → N3, reduceLT → N4, reduceLeDiff → N5, reduceEqDiff → N6, reduceBEq → N7
open Int renaming reduceToNat → I1, reduceLT → I2, reduceLE → I3, reduceEq → I4, reduceAdd → I5, reduceSub → I6, reduceNeg → I7
section
variable {tab : FuncId → Option AF} (T : HasA tab)
include T
theorem zregions_p {ow pr : List Int} {su : List (List Int)} {v pl : Int} (ho : ∀ x ∈ ow, 0 ≤ x) :
    SemC tab 5 [gmP false false false false false false false false ow pr su, p64 v, p8 pl] [] fun r _ => r = .bool true := by
  refine SemC_fn T.h5 ?_
  simp only [af5, PP, P1, P2, P3, P4, P5, P6, P7, P8, P9, P10, P11, P12, P13, P14, L1, P15, N1, N2, N3, N4, N5, N6, N7, I1, I2, I3, I4, I5, I6, I7, reduceIte, reduceCtorEq]
  refine long0_p T ?_
  simp only [PP, P1, P2, P3, P4, P5, P6, P7, P8, P9, P10, P11, P12, P13, P14, L1, P15, N1, N2, N3, N4, N5, N6, N7, I1, I2, I3, I4, I5, I6, I7, reduceIte, reduceCtorEq]
  cases hl : longM ow pr su [] with
  | true =>
    simp only [PP, P1, P2, P3, P4, P5, P6, P7, P8, P9, P10, P11, P12, P13, P14, L1, P15, N1, N2, N3, N4, N5, N6, N7, I1, I2, I3, I4, I5, I6, I7, reduceIte, reduceCtorEq]
    refine SemC_true T.awake ?_
    simp only [PP, P1, P2, P3, P4, P5, P6, P7, P8, P9, P10, P11, P12, P13, P14, L1, P15, N1, N2, N3, N4, N5, N6, N7, I1, I2, I3, I4, I5, I6, I7, reduceIte, reduceCtorEq]
  | false =>
    have S := longM_false hl
    have B := S.bnd
    have so := S.o
    simp only [PP, P1, P2, P3, P4, P5, P6, P7, P8, P9, P10, P11, P12, P13, P14, L1, P15, N1, N2, N3, N4, N5, N6, N7, I1, I2, I3, I4, I5, I6, I7, reduceIte, reduceCtorEq]
    refine solve_q T B ho (fun ws ss e hR => ?_)
    simp only [PP, P1, P2, P3, P4, P5, P6, P7, P8, P9, P10, P11, P12, P13, P14, L1, P15, N1, N2, N3, N4, N5, N6, N7, I1, I2, I3, I4, I5, I6, I7, reduceIte, reduceCtorEq]
    refine regions_p T B ho (fun ws2 ss2 e2 hR2 => ?_)
    obtain ⟨rfl, rfl⟩ := hR.eq ho hR2
    simp only [PP, P1, P2, P3, P4, P5, P6, P7, P8, P9, P10, P11, P12, P13, P14, L1, P15, N1, N2, N3, N4, N5, N6, N7, I1, I2, I3, I4, I5, I6, I7, reduceIte, reduceCtorEq]
    refine won_p T B ho (fun ws3 ss3 e3 hR3 => ?_)
    obtain ⟨rfl, rfl⟩ := hR.eq ho hR3
    rcases hR with ⟨q1, rfl, rfl, rfl⟩ | ⟨c1, rfl, L⟩
    · unfold wonM
      rw [if_neg q1]
      have hw00 : IntKind.i64.wrap 0 = 0 := rfl
      simp only [PP, P1, P2, P3, P4, P5, P6, P7, P8, P9, P10, P11, P12, P13, P14, L1, P15, N1, N2, N3, N4, N5, N6, N7, I1, I2, I3, I4, I5, I6, I7, reduceIte, reduceCtorEq, q1, wL, List.filter_nil, List.range_zero, hw00]
      refine SemC_true T.awake ?_
      simp only [PP, P1, P2, P3, P4, P5, P6, P7, P8, P9, P10, P11, P12, P13, P14, L1, P15, N1, N2, N3, N4, N5, N6, N7, I1, I2, I3, I4, I5, I6, I7, reduceIte, reduceCtorEq]
    · have V := valid_of c1
      have n1 := V.n1
      have lw := L.lw
      obtain ⟨wb, we, hwm⟩ : ∃ wb we, wonM ws 0 ow.length v pl = .tuple [.bool wb, p64 we] := by
        unfold wonM; rw [if_pos rfl]; split
        · exact ⟨_, _, rfl⟩
        · split
          · exact ⟨_, _, rfl⟩
          · split <;> exact ⟨_, _, rfl⟩
      have hwm2 := hwm
      rw [hwm]
      simp only [PP, P1, P2, P3, P4, P5, P6, P7, P8, P9, P10, P11, P12, P13, P14, L1, P15, N1, N2, N3, N4, N5, N6, N7, I1, I2, I3, I4, I5, I6, I7, reduceIte, reduceCtorEq, lw]
      refine SemW_re (GStep.nil 14 1 rfl rfl rfl) ?_
      refine SemW_re (GStep.nil 15 1 rfl rfl rfl) ?_
      simp only [ptset, List.cons_append, List.nil_append, List.length_cons, List.length_nil, List.length_append, Nat.reduceAdd]
      refine loop3 (fun (k ga gb : Nat) => k ≤ ow.length)
        (fun k ga gb => [.junk, p64 v, p8 pl, .ptr 0 0 0, .junk, .junk, .junk, .ptr 1 0 0, .junk, slI false true .i64 (natI (wL ws 0 ow.length)), slI false true .i64 (natI (wL ws 1 ow.length)), .junk, .bool wb, p64 we, .ref 2 ga 1 0 (wL ws 0 k).length, .ref 3 gb 1 0 (wL ws 1 k).length, p64 k, .junk, .junk, .junk, .junk, .junk, .junk, .junk, .junk, .junk, .junk, .junk, .junk, .junk, .junk, .junk, .junk, .junk, .junk, .junk, .junk, .junk, .junk, .junk, .junk, .junk, .junk, .junk, .junk, .junk, .junk, .junk, .junk, .junk, .junk, .junk, .junk, .junk, .junk, .junk, .junk, .junk, .junk, .junk, .junk, .junk, .junk, .junk, .junk, .junk, .junk, .junk, .junk, .junk, .junk, .junk, .junk, .junk, .junk, .junk, .junk, .junk, .junk, .junk, .junk, .junk, .junk, .junk, .junk, .junk, .junk, .junk, .junk, .junk, .junk, .junk, .junk, .junk, .junk, .junk, .junk, .junk, .junk, .junk, .junk, .junk, .junk, .junk, .junk, .junk, .junk, .junk, .junk, .junk, .junk, .junk, .junk, .junk, .junk, .junk, .junk, .junk, .junk, .junk, .junk, .junk, .junk, .junk, .junk, .junk, .junk, .junk, .junk, .junk, .junk, .junk, .junk, .junk, .junk, .junk, .junk])
        (fun k ga gb => [.cells 0 0 [slI false false .u8 ow, slI false false .i64 pr, slR false false false false .i64 su], .cells 0 1 [slI false true .u8 ws, slI false true .i64 ss], .cells ga 0 ((natI (wL ws 0 k)).map (PV.int .i64)), .cells gb 0 ((natI (wL ws 1 k)).map (PV.int .i64))])
        (fun k _ _ => ow.length - k) 0 0 0 (by omega) (by simp only [PWeak_nil, PWeak_junk, PWeak_same, Int.cast_ofNat_Int, List.length_nil, wL, List.range_zero, List.filter_nil]) rfl ?_
      intro k ga gb hle ih
      refine SemW_go (by kernel_rfl) ?_
      simp only [PP, P1, P2, P3, P4, P5, P6, P7, P8, P9, P10, P11, P12, P13, P14, L1, P15, N1, N2, N3, N4, N5, N6, N7, I1, I2, I3, I4, I5, I6, I7, reduceIte, reduceCtorEq, lw]
      refine QIf.intro (fun c => ?_) (fun c => ?_)
      · have hk' : k < ow.length := by omega
        have k0 : (0 : Int) ≤ k := by omega
        have kn : (k : Int) < ow.length := by omega
        have hwk := wrap_succ (k := k) (by show _ < 1000000000000; omega)
        obtain ⟨x, g1⟩ := some_of (xs := ws) (k := k) (by omega)
        have ex : ws.getD k 0 = x := getD_some g1
        have s0 := wL_succ ws 0 k
        have s1 := wL_succ ws 1 k
        have l0 := wL_len ws 0 k
        have l1 := wL_len ws 1 k
        rw [ex] at s0 s1
        have b1 : ((wL ws 0 k).length + 1) * 8 ≤ 140737488355328 := by omega
        have b2 : (wL ws 0 k).length ≤ 9223372036854775806 := by omega
        have b3 : ((wL ws 1 k).length + 1) * 8 ≤ 140737488355328 := by omega
        have b4 : (wL ws 1 k).length ≤ 9223372036854775806 := by omega
        have ps : ∀ l : List Nat, psub ((natI l).map (PV.int .i64)) 0 l.length ++ [PV.int .i64 (k : Int)] = (natI (l ++ [k])).map (PV.int .i64) := fun l => by
          rw [psub_all _ _ (by simp)]; simp
        rcases L.w01 x (List.mem_of_getElem? g1) with rfl | rfl
        · rw [if_pos rfl] at s0
          rw [if_neg (by omega), List.append_nil] at s1
          have sl0 : (wL ws 0 (k + 1)).length = (wL ws 0 k).length + 1 := by rw [s0]; simp
          simp only [PP, P1, P2, P3, P4, P5, P6, P7, P8, P9, P10, P11, P12, P13, P14, L1, P15, N1, N2, N3, N4, N5, N6, N7, I1, I2, I3, I4, I5, I6, I7, reduceIte, reduceCtorEq, c, k0, kn, lw, g1, b1, b2, hwk]
          refine SemW_to (ih (k + 1) (ga + 1) gb (by omega) (by omega)) (by simp only [PWeak_nil, PWeak_junk, PWeak_same, sl0, s1]) (by rw [s0, s1, ← ps])
        · rw [if_neg (by omega), List.append_nil] at s0
          rw [if_pos rfl] at s1
          have sl1 : (wL ws 1 (k + 1)).length = (wL ws 1 k).length + 1 := by rw [s1]; simp
          simp only [PP, P1, P2, P3, P4, P5, P6, P7, P8, P9, P10, P11, P12, P13, P14, L1, P15, N1, N2, N3, N4, N5, N6, N7, I1, I2, I3, I4, I5, I6, I7, reduceIte, reduceCtorEq, c, k0, kn, lw, g1, b3, b4, hwk]
          refine SemW_to (ih (k + 1) ga (gb + 1) (by omega) (by omega)) (by simp only [PWeak_nil, PWeak_junk, PWeak_same, sl1, s0]) (by rw [s0, s1, ← ps])
      · have hkn : k = ow.length := by omega
        subst hkn
        have lz0 : (natI (wL ws 0 ow.length)).length < big := by show _ < 1000000000000; have := wL_len ws 0 ow.length; rw [List.length_map]; omega
        have lz1 : (natI (wL ws 1 ow.length)).length < big := by show _ < 1000000000000; have := wL_len ws 1 ow.length; rw [List.length_map]; omega
        unfold wonM at hwm2
        rw [if_pos rfl] at hwm2
        simp only [PP, P1, P2, P3, P4, P5, P6, P7, P8, P9, P10, P11, P12, P13, P14, L1, P15, N1, N2, N3, N4, N5, N6, N7, I1, I2, I3, I4, I5, I6, I7, reduceIte, reduceCtorEq, c]
        have inj : ∀ {b b' : Bool} {e e' : Int}, PV.tuple [.bool b, p64 e] = .tuple [.bool b', p64 e'] → b = b' ∧ e = e' := fun h => by
          simp only [PV.tuple.injEq, List.cons.injEq, PV.bool.injEq, PV.int.injEq, and_true, true_and] at h; exact h
        refine QIf.intro (fun c2 => ?_) (fun c2 => ?_)
        · rw [if_pos c2] at hwm2
          obtain ⟨rfl, rfl⟩ := inj hwm2
          simp only [PP, P1, P2, P3, P4, P5, P6, P7, P8, P9, P10, P11, P12, P13, P14, L1, P15, N1, N2, N3, N4, N5, N6, N7, I1, I2, I3, I4, I5, I6, I7, reduceIte, reduceCtorEq, c2]
          refine SemC_bor (.same (under_slI _ _ _ _ _ _ _) (.ints rfl (List.length_map _) .nil)) (equalInts_p T lz0 ⟨rfl, ?_⟩)
          simp only [PP, P1, P2, P3, P4, P5, P6, P7, P8, P9, P10, P11, P12, P13, P14, L1, P15, N1, N2, N3, N4, N5, N6, N7, I1, I2, I3, I4, I5, I6, I7, reduceIte, reduceCtorEq]
          refine SemC_bor (.same (under_slI _ _ _ _ _ _ _) (.ints rfl (List.length_map _) .nil)) (equalInts_p T lz1 ⟨rfl, ?_⟩)
          simp only [PP, P1, P2, P3, P4, P5, P6, P7, P8, P9, P10, P11, P12, P13, P14, L1, P15, N1, N2, N3, N4, N5, N6, N7, I1, I2, I3, I4, I5, I6, I7, reduceIte, reduceCtorEq]
          refine SemC_true T.awake ?_
          simp only [PP, P1, P2, P3, P4, P5, P6, P7, P8, P9, P10, P11, P12, P13, P14, L1, P15, N1, N2, N3, N4, N5, N6, N7, I1, I2, I3, I4, I5, I6, I7, reduceIte, reduceCtorEq]
        rw [if_neg c2] at hwm2
        simp only [PP, P1, P2, P3, P4, P5, P6, P7, P8, P9, P10, P11, P12, P13, P14, L1, P15, N1, N2, N3, N4, N5, N6, N7, I1, I2, I3, I4, I5, I6, I7, reduceIte, reduceCtorEq, c2]
        refine QIf.intro (fun c3 => ?_) (fun c3 => ?_)
        · rw [if_pos c3] at hwm2
          obtain ⟨rfl, rfl⟩ := inj hwm2
          simp only [PP, P1, P2, P3, P4, P5, P6, P7, P8, P9, P10, P11, P12, P13, P14, L1, P15, N1, N2, N3, N4, N5, N6, N7, I1, I2, I3, I4, I5, I6, I7, reduceIte, reduceCtorEq, c3]
          refine SemC_bor (.same (under_slI _ _ _ _ _ _ _) (.ints rfl (List.length_map _) .nil)) (equalInts_p T lz0 ⟨rfl, ?_⟩)
          simp only [PP, P1, P2, P3, P4, P5, P6, P7, P8, P9, P10, P11, P12, P13, P14, L1, P15, N1, N2, N3, N4, N5, N6, N7, I1, I2, I3, I4, I5, I6, I7, reduceIte, reduceCtorEq]
          refine SemC_bor (.same (under_slI _ _ _ _ _ _ _) (.ints rfl (List.length_map _) .nil)) (equalInts_p T lz1 ⟨rfl, ?_⟩)
          simp only [PP, P1, P2, P3, P4, P5, P6, P7, P8, P9, P10, P11, P12, P13, P14, L1, P15, N1, N2, N3, N4, N5, N6, N7, I1, I2, I3, I4, I5, I6, I7, reduceIte, reduceCtorEq]
          refine SemC_true T.awake ?_
          simp only [PP, P1, P2, P3, P4, P5, P6, P7, P8, P9, P10, P11, P12, P13, P14, L1, P15, N1, N2, N3, N4, N5, N6, N7, I1, I2, I3, I4, I5, I6, I7, reduceIte, reduceCtorEq]
        rw [if_neg c3] at hwm2
        simp only [PP, P1, P2, P3, P4, P5, P6, P7, P8, P9, P10, P11, P12, P13, P14, L1, P15, N1, N2, N3, N4, N5, N6, N7, I1, I2, I3, I4, I5, I6, I7, reduceIte, reduceCtorEq, c3]
        refine QIf.intro (fun c4 => ?_) (fun c4 => ?_)
        · rw [if_pos c4] at hwm2
          obtain ⟨rfl, rfl⟩ := inj hwm2
          simp only [PP, P1, P2, P3, P4, P5, P6, P7, P8, P9, P10, P11, P12, P13, P14, L1, P15, N1, N2, N3, N4, N5, N6, N7, I1, I2, I3, I4, I5, I6, I7, reduceIte, reduceCtorEq, c4]
          refine SemC_bor (.same (under_slI _ _ _ _ _ _ _) (.ints rfl (List.length_map _) .nil)) (equalInts_p T lz0 ⟨rfl, ?_⟩)
          simp only [PP, P1, P2, P3, P4, P5, P6, P7, P8, P9, P10, P11, P12, P13, P14, L1, P15, N1, N2, N3, N4, N5, N6, N7, I1, I2, I3, I4, I5, I6, I7, reduceIte, reduceCtorEq]
          refine SemC_bor (.same (under_slI _ _ _ _ _ _ _) (.ints rfl (List.length_map _) .nil)) (equalInts_p T lz1 ⟨rfl, ?_⟩)
          simp only [PP, P1, P2, P3, P4, P5, P6, P7, P8, P9, P10, P11, P12, P13, P14, L1, P15, N1, N2, N3, N4, N5, N6, N7, I1, I2, I3, I4, I5, I6, I7, reduceIte, reduceCtorEq]
          refine SemC_true T.awake ?_
          simp only [PP, P1, P2, P3, P4, P5, P6, P7, P8, P9, P10, P11, P12, P13, P14, L1, P15, N1, N2, N3, N4, N5, N6, N7, I1, I2, I3, I4, I5, I6, I7, reduceIte, reduceCtorEq]
        rw [if_neg c4] at hwm2
        obtain ⟨rfl, rfl⟩ := inj hwm2
        have v0 : 0 ≤ v := by omega
        have v1 : v < ow.length := by omega
        obtain ⟨x, g⟩ := some_of (xs := ws) (k := v.toNat) (by omega)
        have ex : ws.getD v.toNat 0 = x := getD_some g
        simp only [PP, P1, P2, P3, P4, P5, P6, P7, P8, P9, P10, P11, P12, P13, P14, L1, P15, N1, N2, N3, N4, N5, N6, N7, I1, I2, I3, I4, I5, I6, I7, reduceIte, reduceCtorEq, c4, v0, v1, lw, g, ex]
        refine SemC_bor (.same (under_slI _ _ _ _ _ _ _) (.ints rfl (List.length_map _) .nil)) (equalInts_p T lz0 ⟨rfl, ?_⟩)
        simp only [PP, P1, P2, P3, P4, P5, P6, P7, P8, P9, P10, P11, P12, P13, P14, L1, P15, N1, N2, N3, N4, N5, N6, N7, I1, I2, I3, I4, I5, I6, I7, reduceIte, reduceCtorEq]
        refine SemC_bor (.same (under_slI _ _ _ _ _ _ _) (.ints rfl (List.length_map _) .nil)) (equalInts_p T lz1 ⟨rfl, ?_⟩)
        simp only [PP, P1, P2, P3, P4, P5, P6, P7, P8, P9, P10, P11, P12, P13, P14, L1, P15, N1, N2, N3, N4, N5, N6, N7, I1, I2, I3, I4, I5, I6, I7, reduceIte, reduceCtorEq]
        refine SemC_true T.awake ?_
        simp only [PP, P1, P2, P3, P4, P5, P6, P7, P8, P9, P10, P11, P12, P13, P14, L1, P15, N1, N2, N3, N4, N5, N6, N7, I1, I2, I3, I4, I5, I6, I7, reduceIte, reduceCtorEq]
end
end Go.Am.Ar

set_option linter.unusedVariables false
set_option linter.unusedSimpArgs false
namespace Go.Am.Ar

/-- The type of games. -/
abbrev gameTy : Ty := .pair (.slice (.int .u8)) (.pair (.slice (.int .i64)) (.pair (.slice (.slice (.int .i64))) .unit))

/-- What is known of the numbers of a game that a law gets. -/
structure Nums (ow pr : List Int) (su : List (List Int)) : Prop where
  o : ∀ x ∈ ow, 0 ≤ x ∧ x ≤ 255
  p : ∀ x ∈ pr, -9223372036854775808 ≤ x ∧ x ≤ 9223372036854775807
  s : ∀ r ∈ su, ∀ x ∈ r, -9223372036854775808 ≤ x ∧ x ≤ 9223372036854775807
  lo : ow.length ≤ 9223372036854775807
  lp : pr.length ≤ 9223372036854775807
  ls : su.length ≤ 9223372036854775807
  lr : ∀ r ∈ su, r.length ≤ 9223372036854775807

theorem arg_game {v : AV} {h : H} (hs : ShV gameTy v h) : ∃ (ow pr : List Int) (su : List (List Int)), RepV (wH h) (gmP false false false false false false false false ow pr su) v ∧ Nums ow pr su := by
  obtain ⟨avs, hs, rfl⟩ := hs
  obtain ⟨c1, c2, rfl, h1, c3, c4, rfl, h2, c5, c6, rfl, h3, h4⟩ := hs
  have h4 : c6 = [] := h4
  subst h4
  obtain ⟨vo, ow, rfl, p1, q1, r1⟩ := sh_intsP h1
  obtain ⟨vp, pr, rfl, p2, q2, r2⟩ := sh_intsP h2
  obtain ⟨vs, su, rfl, p3, q3, r3⟩ := sh_rowsP h3
  refine ⟨ow, pr, su, ?_, ⟨r1, r2, fun r hr => (r3 r hr).2, q1, q2, q3, fun r hr => (r3 r hr).1⟩⟩
  have := RepL.cons p1 (.cons p2 (.cons p3 (.nil (wH h))))
  exact .agg this.len this.get
theorem arg_ints {k : IntKind} {v : AV} {h : H} (hs : ShV (.slice (.int k)) v h) : ∃ (xs : List Int), RepV (wH h) (slI false false k xs) v ∧ xs.length ≤ 9223372036854775807 ∧ ∀ x ∈ xs, k.min ≤ x ∧ x ≤ k.max := by
  obtain ⟨avs, hs, rfl⟩ := hs
  obtain ⟨v, xs, rfl, p, q, r⟩ := sh_intsP hs
  exact ⟨xs, p, q, r⟩
theorem arg_int {k : IntKind} {v : AV} {h : H} (hs : ShV (.int k) v h) : ∃ (x : Int), v = .int k x ∧ RepV (wH h) (.int k x) v ∧ k.min ≤ x ∧ x ≤ k.max := by
  obtain ⟨avs, hs, rfl⟩ := hs
  obtain ⟨x, rfl, p⟩ := hs
  exact ⟨x, rfl, .int k x, p⟩

theorem run_of_C {tab : FuncId → Option AF} {g : FuncId} {args : List AV} {h : H} (hc : C (lim tab) g args h fun v _ => v = .bool true) : ∃ n h', (run tab n).call g args h = some (.bool true, h') := by
  unfold C at hc
  obtain ⟨v, h', he, rfl⟩ := hc
  obtain ⟨n, hn⟩ := (lim_call_iff tab).1 he
  exact ⟨n, h', hn⟩
theorem shVs1 {A : Ty} {args : List AV} {h : H} (hs : ShVs [A] args h) : ∃ a, args = [a] ∧ ShV A a h := by
  match args, hs with
  | [a], ⟨h1, _⟩ => exact ⟨a, rfl, h1⟩
theorem shVs2 {A B : Ty} {args : List AV} {h : H} (hs : ShVs [A, B] args h) : ∃ a b, args = [a, b] ∧ ShV A a h ∧ ShV B b h := by
  match args, hs with
  | [a, b], ⟨h1, h2, _⟩ => exact ⟨a, b, rfl, h1, h2⟩
theorem shVs3 {A B D : Ty} {args : List AV} {h : H} (hs : ShVs [A, B, D] args h) : ∃ a b d, args = [a, b, d] ∧ ShV A a h ∧ ShV B b h ∧ ShV D d h := by
  match args, hs with
  | [a, b, d], ⟨h1, h2, h3, _⟩ => exact ⟨a, b, d, rfl, h1, h2, h3⟩
theorem shVs4 {A B D E : Ty} {args : List AV} {h : H} (hs : ShVs [A, B, D, E] args h) : ∃ a b d e, args = [a, b, d, e] ∧ ShV A a h ∧ ShV B b h ∧ ShV D d h ∧ ShV E e h := by
  match args, hs with
  | [a, b, d, e], ⟨h1, h2, h3, h4, _⟩ => exact ⟨a, b, d, e, rfl, h1, h2, h3, h4⟩
theorem shVs5 {A B D E F : Ty} {args : List AV} {h : H} (hs : ShVs [A, B, D, E, F] args h) : ∃ a b d e f, args = [a, b, d, e, f] ∧ ShV A a h ∧ ShV B b h ∧ ShV D d h ∧ ShV E e h ∧ ShV F f h := by
  match args, hs with
  | [a, b, d, e, f], ⟨h1, h2, h3, h4, h5, _⟩ => exact ⟨a, b, d, e, f, rfl, h1, h2, h3, h4, h5⟩
end Go.Am.Ar

set_option linter.unusedVariables false
namespace Go.Am.Ar
theorem zregions_all {tab : FuncId → Option AF} (T : HasA tab) (args : List AV) (h : H) (hs : ShVs [gameTy, .int .i64, .int .u8] args h) :
    ∃ n h', (run tab n).call 5 args h = some (.bool true, h') := by
  obtain ⟨a, b, c, rfl, ha, hb, hc⟩ := shVs3 hs
  obtain ⟨ow, pr, su, r1, N⟩ := arg_game ha
  obtain ⟨v, rfl, r2, _, _⟩ := arg_int hb
  obtain ⟨pl, rfl, r3, _, _⟩ := arg_int hc
  exact run_of_C (law_of_sem (.cons r1 (.cons r2 (.cons r3 (.nil _)))) (zregions_p T (fun x hx => (N.o x hx).1)))
end Go.Am.Ar
