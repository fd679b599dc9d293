/- Contracts: winning regions, and whether a player wins (package zielonka), and what goes with it. -/
import Derived.Test.YtanhmigakclecaaZielonkaRestrictG2
import Derived.Test.YtanhmigakclecaaZielonkaRestrictG0
import Derived.Test.YtanhmigakclecaaPmL
set_option linter.unusedVariables false
set_option linter.unusedSimpArgs false
set_option maxRecDepth 10000
namespace Go.Am.Ar
open Go.Am renaming pchk → P1, pold → P2, PKNo → P3, ppack → P4, PObj.under → P5, pput → P6, ptset → P7, ptget → P8, pev → P9, ofAV → P10, ofAV1 → P11, ppad → P12, pfill → P13, prepl → P14, AO.effect → P15
open List renaming replicate → L1
open Nat renaming reduceAdd → N1, reduceSub → N2, reduceMul → N3, reduceLT → N4, reduceLeDiff → N5, reduceEqDiff → N6, reduceBEq → N7
open Int renaming reduceToNat → I1, reduceLT → I2, reduceLE → I3, reduceEq → I4, reduceAdd → I5, reduceSub → I6, reduceNeg → I7
/-- What solving answers. -/
def SolR (ow pr : List Int) (su : List (List Int)) (ws ss : List Int) (e : Int) : Prop :=
  (¬ checkM ow pr su = 0 ∧ e = checkM ow pr su ∧ ws = [] ∧ ss = []) ∨ (checkM ow pr su = 0 ∧ e = 0 ∧ SolL ow pr su ws ss)
theorem SolL.eq {ow pr : List Int} {su : List (List Int)} {ws ss ws' ss' : List Int} (V : Valid ow pr su) (ho : ∀ x ∈ ow, 0 ≤ x) (L : SolL ow pr su ws ss) (L' : SolL ow pr su ws' ss') : ws = ws' :=
  getD_ext (by rw [L.lw, L'.lw]) fun v hv => L.unique V ho L'.sol v (by rw [← L.lw]; exact hv)
theorem SolL.w01 {ow pr : List Int} {su : List (List Int)} {ws ss : List Int} (L : SolL ow pr su ws ss) : ∀ x ∈ ws, x = 0 ∨ x = 1 := fun x hx => by
  obtain ⟨i, hi⟩ := List.getElem?_of_mem hx
  have := L.sol.r01 i (by rw [← L.lw]; exact getSome_lt hi)
  simp only [getD_some hi] at this
  exact this
theorem SolR.w01 {ow pr : List Int} {su : List (List Int)} {ws ss : List Int} {e : Int} (h : SolR ow pr su ws ss e) : ∀ x ∈ ws, x = 0 ∨ x = 1 := by
  rcases h with ⟨_, _, rfl, _⟩ | ⟨_, _, L⟩
  · intro x h; cases h
  · exact L.w01
theorem SolR.len {ow pr : List Int} {su : List (List Int)} {ws ss : List Int} {e : Int} (h : SolR ow pr su ws ss e) : ws.length ≤ 4096 := by
  rcases h with ⟨_, _, rfl, _⟩ | ⟨c, _, L⟩
  · simp
  · rw [L.lw]; exact (valid_of c).n1
theorem SolR.eq {ow pr : List Int} {su : List (List Int)} {ws ss ws' ss' : List Int} {e e' : Int} (ho : ∀ x ∈ ow, 0 ≤ x) (h : SolR ow pr su ws ss e) (h' : SolR ow pr su ws' ss' e') : ws = ws' ∧ e = e' := by
  rcases h with ⟨c, he, rfl, _⟩ | ⟨c, he, L⟩ <;> rcases h' with ⟨c', he', rfl, _⟩ | ⟨c', he', L'⟩
  · exact ⟨rfl, by rw [he, he']⟩
  · exact absurd c' c
  · exact absurd c c'
  · exact ⟨L.eq (valid_of c) ho L', by rw [he, he']⟩
/-- The positions that a player wins. -/
def wL (ws : List Int) (p : Int) (k : Nat) : List Nat := (List.range k).filter fun v => decide (ws.getD v 0 = p)
theorem wL_len (ws : List Int) (p : Int) (k : Nat) : (wL ws p k).length ≤ k := by
  have := List.length_filter_le (fun v => decide (ws.getD v 0 = p)) (List.range k)
  rwa [List.length_range] at this
theorem wL_succ (ws : List Int) (p : Int) (k : Nat) : wL ws p (k + 1) = wL ws p k ++ if ws.getD k 0 = p then [k] else [] := by
  unfold wL
  rw [List.range_succ, List.filter_append]
  by_cases h : ws.getD k 0 = p
  · rw [if_pos h, List.filter_cons, if_pos (decide_eq_true h)]; rfl
  · rw [if_neg h, List.filter_cons, if_neg (by simpa using h)]; rfl
theorem wL_mem {ws : List Int} {p : Int} {k v : Nat} : v ∈ wL ws p k ↔ v < k ∧ ws.getD v 0 = p := by simp [wL]
def wonM (ws : List Int) (e : Int) (n : Int) (v pl : Int) : PV :=
  if e = 0 then (if v < 0 then .tuple [.bool false, p64 8] else if n ≤ v then .tuple [.bool false, p64 8] else if 1 < pl then .tuple [.bool false, p64 6] else .tuple [.bool (decide (ws.getD v.toNat 0 = pl)), p64 0]) else .tuple [.bool false, p64 e]
section
variable {tab : FuncId → Option AF} (T : HasA tab)
include T
theorem solve_q {M : Mem} {K : PV → Mem → Prop} {f1 p1 f2 p2 f3 p3 f4 p4 : Bool} {ow pr : List Int} {su : List (List Int)} (B : Bnd ow pr su) (ho : ∀ x ∈ ow, 0 ≤ x)
    (hk : ∀ ws ss e, SolR ow pr su ws ss e → K (solV ws ss e) M) : SemC tab 12 [gmP f1 p1 f2 p2 f3 p3 f4 p4 ow pr su] M K :=
  solve_p T B ho (fun c => hk [] [] _ (.inl ⟨c, rfl, rfl, rfl⟩)) (fun c ws ss L => hk ws ss 0 (.inr ⟨c, rfl, L⟩))
theorem regions_p {M : Mem} {K : PV → Mem → Prop} {f1 p1 f2 p2 f3 p3 f4 p4 : Bool} {ow pr : List Int} {su : List (List Int)} (B : Bnd ow pr su) (ho : ∀ x ∈ ow, 0 ≤ x)
    (hk : ∀ ws ss e, SolR ow pr su ws ss e → K (.tuple [slI false true .i64 (natI (wL ws 0 ws.length)), slI false true .i64 (natI (wL ws 1 ws.length)), p64 e]) M) :
    SemC tab 20 [gmP f1 p1 f2 p2 f3 p3 f4 p4 ow pr su] M K := by
  refine SemC_pure T.h20 (by simp only [PP, P1, P2, P3, P4, P5, P6, P7, P8, P9, P10, P11, P12, P13, P14, L1, P15, N1, N2, N3, N4, N5, N6, N7, I1, I2, I3, I4, I5, I6, I7, reduceIte, reduceCtorEq]) ?_
  simp only [af20, PP, P1, P2, P3, P4, P5, P6, P7, P8, P9, P10, P11, P12, P13, P14, L1, P15, N1, N2, N3, N4, N5, N6, N7, I1, I2, I3, I4, I5, I6, I7, reduceIte, reduceCtorEq]
  refine solve_q T B ho (fun ws ss e hR => ?_)
  have hk := hk ws ss e hR
  have hn := hR.len
  have h01 := hR.w01
  simp only [PP, P1, P2, P3, P4, P5, P6, P7, P8, P9, P10, P11, P12, P13, P14, L1, P15, N1, N2, N3, N4, N5, N6, N7, I1, I2, I3, I4, I5, I6, I7, reduceIte, reduceCtorEq]
  refine SemW_re (GStep.nilbox 2 0 1 rfl rfl rfl) ?_
  refine SemW_re (GStep.nilbox 2 1 1 rfl rfl rfl) ?_
  simp only [List.length_cons, List.length_nil, List.length_append, List.length_set, List.set_cons_zero, List.set_cons_succ, List.cons_append, List.nil_append, Nat.reduceAdd]
  refine loop4 (fun (k vv ga gb : Nat) => k ≤ ws.length)
    (fun k vv ga gb => [.junk, .junk, .junk, .junk, p64 e, .junk, .ptr 2 0 0, .junk, .junk, .junk, .junk, .junk, .junk, .junk, .junk, slI false true .u8 ws, p64 ws.length, p64 k, .junk, .junk, .junk, .junk, .junk, .junk, .junk, .junk, .junk, .junk, .junk, .junk, .junk, .junk, .junk, .junk, .junk, .junk])
    (fun k vv ga gb => [.cells 0 0 [slI f1 p1 .u8 ow, slI f2 p2 .i64 pr, slR f3 p3 f4 p4 .i64 su], .cells 0 1 [slI false true .u8 ws, slI false true .i64 ss], .cells 0 vv [.ref 3 ga 1 0 (wL ws 0 k).length, .ref 4 gb 1 0 (wL ws 1 k).length], .cells ga 0 ((natI (wL ws 0 k)).map (PV.int .i64)), .cells gb 0 ((natI (wL ws 1 k)).map (PV.int .i64))])
    (fun k _ _ _ => ws.length - k) 0 0 0 0 (by omega) (by simp only [PWeak_nil, PWeak_junk, PWeak_same, Int.cast_ofNat_Int, List.length_append, List.length_cons, List.length_nil, Nat.zero_add]) rfl ?_
  intro k vv ga gb hle ih
  refine SemW_go (by kernel_rfl) ?_
  simp only [PP, P1, P2, P3, P4, P5, P6, P7, P8, P9, P10, P11, P12, P13, P14, L1, P15, N1, N2, N3, N4, N5, N6, N7, I1, I2, I3, I4, I5, I6, I7, reduceIte, reduceCtorEq]
  refine QIf.intro (fun c => ?_) (fun c => ?_)
  · have hk' : k < ws.length := by omega
    have k0 : (0 : Int) ≤ k := by omega
    have hwk := wrap_succ (k := k) (by show _ < 1000000000000; omega)
    obtain ⟨x, g1⟩ := some_of (xs := ws) (k := k) hk'
    have ex : ws.getD k 0 = x := getD_some g1
    have s0 := wL_succ ws 0 k
    have s1 := wL_succ ws 1 k
    have l0 := wL_len ws 0 k
    have l1 := wL_len ws 1 k
    rw [ex] at s0 s1
    have b1 : ((wL ws 0 k).length + 1) * 8 ≤ 140737488355328 := by omega
    have b2 : (wL ws 0 k).length ≤ 9223372036854775806 := by omega
    have b3 : ((wL ws 1 k).length + 1) * 8 ≤ 140737488355328 := by omega
    have b4 : (wL ws 1 k).length ≤ 9223372036854775806 := by omega
    have ps : ∀ l : List Nat, psub ((natI l).map (PV.int .i64)) 0 l.length ++ [PV.int .i64 (k : Int)] = (natI (l ++ [k])).map (PV.int .i64) := fun l => by
      rw [psub_all _ _ (by simp)]; simp
    rcases h01 x (List.mem_of_getElem? g1) with rfl | rfl
    · rw [if_pos rfl] at s0
      rw [if_neg (by omega), List.append_nil] at s1
      simp only [PP, P1, P2, P3, P4, P5, P6, P7, P8, P9, P10, P11, P12, P13, P14, L1, P15, N1, N2, N3, N4, N5, N6, N7, I1, I2, I3, I4, I5, I6, I7, reduceIte, reduceCtorEq, c, k0, g1, b1, b2, hwk]
      refine SemW_to (ih (k + 1) (vv + 1) (ga + 1) gb (by omega) (by omega)) (by simp only [PWeak_nil, PWeak_junk, PWeak_same, Int.cast_ofNat_Int, List.length_append, List.length_cons, List.length_nil, Nat.zero_add]) (by rw [s0, s1, ← ps]; simp only [PP, P1, P2, P3, P4, P5, P6, P7, P8, P9, P10, P11, P12, P13, P14, L1, P15, N1, N2, N3, N4, N5, N6, N7, I1, I2, I3, I4, I5, I6, I7, reduceIte, reduceCtorEq])
    · rw [if_neg (by omega), List.append_nil] at s0
      rw [if_pos rfl] at s1
      simp only [PP, P1, P2, P3, P4, P5, P6, P7, P8, P9, P10, P11, P12, P13, P14, L1, P15, N1, N2, N3, N4, N5, N6, N7, I1, I2, I3, I4, I5, I6, I7, reduceIte, reduceCtorEq, c, k0, g1, b3, b4, hwk]
      refine SemW_to (ih (k + 1) (vv + 1) ga (gb + 1) (by omega) (by omega)) (by simp only [PWeak_nil, PWeak_junk, PWeak_same, Int.cast_ofNat_Int, List.length_append, List.length_cons, List.length_nil, Nat.zero_add]) (by rw [s0, s1, ← ps]; simp only [PP, P1, P2, P3, P4, P5, P6, P7, P8, P9, P10, P11, P12, P13, P14, L1, P15, N1, N2, N3, N4, N5, N6, N7, I1, I2, I3, I4, I5, I6, I7, reduceIte, reduceCtorEq])
  · have hkn : k = ws.length := by omega
    subst hkn
    simp only [PP, P1, P2, P3, P4, P5, P6, P7, P8, P9, P10, P11, P12, P13, P14, L1, P15, N1, N2, N3, N4, N5, N6, N7, I1, I2, I3, I4, I5, I6, I7, reduceIte, reduceCtorEq, c]
    rw [psub_all _ _ (by simp), psub_all _ _ (by simp)]
    simpa only [slI, List.length_map] using hk
theorem won_p {M : Mem} {K : PV → Mem → Prop} {f1 p1 f2 p2 f3 p3 f4 p4 : Bool} {ow pr : List Int} {su : List (List Int)} {v pl : Int} (B : Bnd ow pr su) (ho : ∀ x ∈ ow, 0 ≤ x)
    (hk : ∀ ws ss e, SolR ow pr su ws ss e → K (wonM ws e ow.length v pl) M) :
    SemC tab 21 [gmP f1 p1 f2 p2 f3 p3 f4 p4 ow pr su, p64 v, p8 pl] M K := by
  refine SemC_pure T.h21 (by simp only [PP, P1, P2, P3, P4, P5, P6, P7, P8, P9, P10, P11, P12, P13, P14, L1, P15, N1, N2, N3, N4, N5, N6, N7, I1, I2, I3, I4, I5, I6, I7, reduceIte, reduceCtorEq]) ?_
  simp only [af21, PP, P1, P2, P3, P4, P5, P6, P7, P8, P9, P10, P11, P12, P13, P14, L1, P15, N1, N2, N3, N4, N5, N6, N7, I1, I2, I3, I4, I5, I6, I7, reduceIte, reduceCtorEq]
  refine solve_q T B ho (fun ws ss e hR => ?_)
  have hq := hk ws ss e hR
  unfold wonM at hq
  simp only [PP, P1, P2, P3, P4, P5, P6, P7, P8, P9, P10, P11, P12, P13, P14, L1, P15, N1, N2, N3, N4, N5, N6, N7, I1, I2, I3, I4, I5, I6, I7, reduceIte, reduceCtorEq]
  refine QIf.intro (fun c1 => ?_) (fun c1 => ?_)
  rotate_left
  · simp only [PP, P1, P2, P3, P4, P5, P6, P7, P8, P9, P10, P11, P12, P13, P14, L1, P15, N1, N2, N3, N4, N5, N6, N7, I1, I2, I3, I4, I5, I6, I7, reduceIte, reduceCtorEq, c1] at hq ⊢
    exact hq
  simp only [PP, P1, P2, P3, P4, P5, P6, P7, P8, P9, P10, P11, P12, P13, P14, L1, P15, N1, N2, N3, N4, N5, N6, N7, I1, I2, I3, I4, I5, I6, I7, reduceIte, reduceCtorEq, c1] at hq ⊢
  refine QIf.intro (fun c2 => ?_) (fun c2 => ?_)
  · simp only [PP, P1, P2, P3, P4, P5, P6, P7, P8, P9, P10, P11, P12, P13, P14, L1, P15, N1, N2, N3, N4, N5, N6, N7, I1, I2, I3, I4, I5, I6, I7, reduceIte, reduceCtorEq, c2] at hq ⊢
    exact hq
  simp only [PP, P1, P2, P3, P4, P5, P6, P7, P8, P9, P10, P11, P12, P13, P14, L1, P15, N1, N2, N3, N4, N5, N6, N7, I1, I2, I3, I4, I5, I6, I7, reduceIte, reduceCtorEq, c2] at hq ⊢
  refine QIf.intro (fun c3 => ?_) (fun c3 => ?_)
  · simp only [PP, P1, P2, P3, P4, P5, P6, P7, P8, P9, P10, P11, P12, P13, P14, L1, P15, N1, N2, N3, N4, N5, N6, N7, I1, I2, I3, I4, I5, I6, I7, reduceIte, reduceCtorEq, c3] at hq ⊢
    exact hq
  simp only [PP, P1, P2, P3, P4, P5, P6, P7, P8, P9, P10, P11, P12, P13, P14, L1, P15, N1, N2, N3, N4, N5, N6, N7, I1, I2, I3, I4, I5, I6, I7, reduceIte, reduceCtorEq, c3] at hq ⊢
  refine QIf.intro (fun c4 => ?_) (fun c4 => ?_)
  · simp only [PP, P1, P2, P3, P4, P5, P6, P7, P8, P9, P10, P11, P12, P13, P14, L1, P15, N1, N2, N3, N4, N5, N6, N7, I1, I2, I3, I4, I5, I6, I7, reduceIte, reduceCtorEq, c4] at hq ⊢
    exact hq
  simp only [PP, P1, P2, P3, P4, P5, P6, P7, P8, P9, P10, P11, P12, P13, P14, L1, P15, N1, N2, N3, N4, N5, N6, N7, I1, I2, I3, I4, I5, I6, I7, reduceIte, reduceCtorEq, c4] at hq ⊢
  have hl : ws.length = ow.length := by
    rcases hR with ⟨q1, q2, _⟩ | ⟨_, _, L⟩
    · exact absurd (q2.symm.trans c1) q1
    · exact L.lw
  obtain ⟨x, g⟩ := some_of (xs := ws) (k := v.toNat) (by omega)
  have v0 : 0 ≤ v := by omega
  have v1 : v < ow.length := by omega
  rw [getD_some g] at hq
  simp only [PP, P1, P2, P3, P4, P5, P6, P7, P8, P9, P10, P11, P12, P13, P14, L1, P15, N1, N2, N3, N4, N5, N6, N7, I1, I2, I3, I4, I5, I6, I7, reduceIte, reduceCtorEq, hl, v0, v1, g]
  exact hq
end
end Go.Am.Ar

set_option linter.unusedVariables false
set_option linter.unusedSimpArgs false
set_option maxRecDepth 10000
namespace Go.Am.Ar

theorem wrap_i64 {k : Nat} (h : k < 4000000000000) : IntKind.i64.wrap (k : Int) = (k : Int) := by
  simp only [IntKind.wrap, IntKind.signed, IntKind.bits]
  simp
  omega
theorem wrap_u64 {k : Nat} (h : k < 4000000000000) : IntKind.u64.wrap (k : Int) = (k : Int) := by
  simp only [IntKind.wrap, IntKind.signed, IntKind.bits]
  simp
  omega
theorem pshr_one (s : Nat) : pbin .shr (.int .u64 (s : Int)) (.int .u64 1) = some (.int .u64 ((s / 2 : Nat) : Int)) := by
  simp [pbin, toAV0, abin, isShift, binShift, IntKind.bits, Int.fdiv_eq_ediv, ofAV1]

/-- How many numbers come before v. -/
def lowB (v : Int) (xs : List Int) : Nat := (xs.takeWhile fun x => decide (x < v)).length
theorem lowB_of {v : Int} : ∀ {xs : List Int} {lo : Nat}, lo ≤ xs.length → (∀ i x, xs[i]? = some x → i < lo → x < v) → (∀ i x, xs[i]? = some x → lo ≤ i → v ≤ x) → lowB v xs = lo
  | [], lo, h0, _, _ => by simp at h0; simp [lowB, h0]
  | x :: xs, 0, h0, h1, h2 => by
    have : ¬ x < v := by have := h2 0 x rfl (Nat.le_refl _); omega
    simp [lowB, this]
  | x :: xs, lo + 1, h0, h1, h2 => by
    have hx : x < v := h1 0 x rfl (by omega)
    have := lowB_of (v := v) (xs := xs) (lo := lo) (by simpa using h0) (fun i y hy hi => h1 (i + 1) y (by simpa using hy) (by omega)) (fun i y hy hi => h2 (i + 1) y (by simpa using hy) (by omega))
    simp only [lowB] at this ⊢
    simp [hx, this]

def rowM (keep row : List Int) : List Int := (row.filter fun u => decide (u ∈ keep)).map fun u => ((lowB u keep : Nat) : Int)
def restrictM (ow pr : List Int) (su : List (List Int)) (keep : List Int) : PV :=
  if wrongM ow pr su 0 keep = 0 then (if (keep.length : Int) = 0 then .tuple [gz, p64 3] else
    if ∃ v ∈ keep, rowM keep (su.getD v.toNat []) = [] then .tuple [gz, p64 13] else
    .tuple [gmP false true false true false true false true (keep.map fun v => ow.getD v.toNat 0) (keep.map fun v => pr.getD v.toNat 0) (keep.map fun v => rowM keep (su.getD v.toNat [])), p64 0])
  else .tuple [gz, p64 (wrongM ow pr su 0 keep)]

end Go.Am.Ar

set_option linter.unusedVariables false
set_option linter.unusedSimpArgs false
set_option maxRecDepth 10000
namespace Go.Am.Ar

theorem eq_of_rise : ∀ {l m : List Int}, l.Pairwise (· < ·) → m.Pairwise (· < ·) → (∀ x, x ∈ l ↔ x ∈ m) → l = m
  | [], [], _, _, _ => rfl
  | [], y :: m, _, _, h => by have := (h y).2 (by simp); simp at this
  | x :: l, [], _, _, h => by have := (h x).1 (by simp); simp at this
  | x :: l, y :: m, hl, hm, h => by
    rw [List.pairwise_cons] at hl hm
    have e : x = y := by
      have h1 := (h x).1 (by simp)
      have h2 := (h y).2 (by simp)
      rcases List.mem_cons.1 h1 with h1 | h1
      · exact h1
      · rcases List.mem_cons.1 h2 with h2 | h2
        · exact h2.symm
        · have := hl.1 y h2
          have := hm.1 x h1
          omega
    subst e
    congr 1
    refine eq_of_rise hl.2 hm.2 fun z => ?_
    constructor
    · intro hz
      rcases List.mem_cons.1 ((h z).1 (by simp [hz])) with e | e
      · have := hl.1 z hz; omega
      · exact e
    · intro hz
      rcases List.mem_cons.1 ((h z).2 (by simp [hz])) with e | e
      · have := hm.1 z hz; omega
      · exact e

def refRow (row : List Int) : Nat → List Int → List Int
  | _, [] => []
  | k, x :: l => if x ∈ row then (k : Int) :: refRow row (k + 1) l else refRow row (k + 1) l
theorem refRow_mem {row : List Int} : ∀ {l : List Int} {k : Nat} {y : Int}, y ∈ refRow row k l ↔ ∃ (i : Nat) (x : Int), l[i]? = some x ∧ x ∈ row ∧ y = ((k + i : Nat) : Int)
  | [], k, y => by simp [refRow]
  | x :: l, k, y => by
    have ih := refRow_mem (row := row) (l := l) (k := k + 1) (y := y)
    have tail : (∃ (i : Nat) (z : Int), l[i]? = some z ∧ z ∈ row ∧ y = ((k + 1 + i : Nat) : Int)) → ∃ (i : Nat) (z : Int), (x :: l)[i]? = some z ∧ z ∈ row ∧ y = ((k + i : Nat) : Int) := by
      rintro ⟨i, z, h1, h2, h3⟩; exact ⟨i + 1, z, by simpa using h1, h2, by rw [h3]; congr 1; omega⟩
    unfold refRow
    split
    · rename_i hx
      rw [List.mem_cons, ih]
      constructor
      · rintro (rfl | h)
        · exact ⟨0, x, rfl, hx, rfl⟩
        · exact tail h
      · rintro ⟨i, z, h1, h2, h3⟩
        cases i with
        | zero => exact .inl (by simpa using h3)
        | succ i => exact .inr ⟨i, z, by simpa using h1, h2, by rw [h3]; congr 1; omega⟩
    · rename_i hx
      rw [ih]
      constructor
      · exact tail
      · rintro ⟨i, z, h1, h2, h3⟩
        cases i with
        | zero => simp at h1; subst h1; exact absurd h2 hx
        | succ i => exact ⟨i, z, by simpa using h1, h2, by rw [h3]; congr 1; omega⟩
theorem refRow_rise {row : List Int} : ∀ (l : List Int) (k : Nat), (refRow row k l).Pairwise (· < ·)
  | [], k => .nil
  | x :: l, k => by
    unfold refRow
    split
    · refine .cons (fun y hy => ?_) (refRow_rise l (k + 1))
      obtain ⟨i, z, _, _, rfl⟩ := refRow_mem.1 hy
      omega
    · exact refRow_rise l (k + 1)
theorem lowB_idx {keep : List Int} (hr : keep.Pairwise (· < ·)) {i : Nat} {u : Int} (hu : keep[i]? = some u) : lowB u keep = i := by
  refine lowB_of (Nat.le_of_lt (getSome_lt hu)) (fun j x hx hj => rise_get hr hx hu hj) (fun j x hx hj => ?_)
  rcases Nat.lt_or_ge i j with q | q
  · exact Int.le_of_lt (rise_get hr hu hx q)
  · have : i = j := by omega
    subst this; rw [hu] at hx; cases hx; exact Int.le_refl _
theorem rowM_eq {keep row : List Int} (hk : keep.Pairwise (· < ·)) (hr : row.Pairwise (· < ·)) : rowM keep row = refRow row 0 keep := by
  refine eq_of_rise ?_ (refRow_rise keep 0) fun y => ?_
  · unfold rowM
    rw [List.pairwise_map]
    refine List.Pairwise.imp_of_mem ?_ (hr.filter _)
    intro a b ha hb hab
    rw [List.mem_filter] at ha hb
    obtain ⟨i, hi⟩ := List.getElem?_of_mem (of_decide_eq_true ha.2)
    obtain ⟨j, hj⟩ := List.getElem?_of_mem (of_decide_eq_true hb.2)
    rw [lowB_idx hk hi, lowB_idx hk hj]
    rcases Nat.lt_or_ge i j with q | q
    · omega
    · rcases Nat.lt_or_ge j i with q2 | q2
      · have := rise_get hk hj hi q2; omega
      · have : i = j := by omega
        subst this; rw [hi] at hj; cases hj; omega
  · rw [refRow_mem]
    unfold rowM
    rw [List.mem_map]
    constructor
    · rintro ⟨u, hu, rfl⟩
      rw [List.mem_filter] at hu
      obtain ⟨i, hi⟩ := List.getElem?_of_mem (of_decide_eq_true hu.2)
      exact ⟨i, u, hi, hu.1, by rw [lowB_idx hk hi, Nat.zero_add]⟩
    · rintro ⟨i, u, hi, hu, rfl⟩
      exact ⟨u, List.mem_filter.2 ⟨hu, by simpa using List.mem_of_getElem? hi⟩, by rw [lowB_idx hk hi, Nat.zero_add]⟩

theorem Valid.rise {ow pr : List Int} {su : List (List Int)} (V : Valid ow pr su) {i : Nat} {row : List Int} (h : su[i]? = some row) : row.Pairwise (· < ·) ∧ ∀ x ∈ row, -1 < x ∧ x < ow.length := by
  have hi := getSome_lt h
  have := (V.row i hi).2.2.2.2
  rw [List.getElem?_eq_getElem hi] at h
  cases h
  exact posM_rise this

end Go.Am.Ar

set_option linter.unusedVariables false
namespace Go.Am.Ar
theorem lowB_lt {keep : List Int} (hr : keep.Pairwise (· < ·)) {u : Int} (hu : u ∈ keep) : lowB u keep < keep.length := by
  obtain ⟨i, hi⟩ := List.getElem?_of_mem hu
  rw [lowB_idx hr hi]
  exact getSome_lt hi
/-- A game restricted to a set in which every position keeps a successor is valid. -/
theorem restrict_valid {ow pr keep : List Int} {su : List (List Int)} (V : Valid ow pr su) (hk : keep.Pairwise (· < ·)) (hkn : ∀ x ∈ keep, -1 < x ∧ x < ow.length) (h0 : 0 < keep.length) (hrow : ∀ v ∈ keep, rowM keep (su.getD v.toNat []) ≠ []) :
    Valid (keep.map fun v => ow.getD v.toNat 0) (keep.map fun v => pr.getD v.toNat 0) (keep.map fun v => rowM keep (su.getD v.toNat [])) := by
  have hlen : keep.length ≤ ow.length := by
    have h1 : (keep.map Int.toNat).length ≤ ow.length := nodup_lenN _ _ (by
      rw [List.nodup_iff_pairwise_ne]
      refine List.pairwise_map.2 (List.Pairwise.imp_of_mem (fun ha hb h => ?_) hk)
      have := hkn _ ha; have := hkn _ hb
      omega) (fun x hx => by
      obtain ⟨y, hy, rfl⟩ := List.mem_map.1 hx
      have := hkn y hy; omega)
    rwa [List.length_map] at h1
  have n1 := V.n1
  refine ⟨by rw [List.length_map]; exact h0, by rw [List.length_map]; omega, by rw [List.length_map, List.length_map], by rw [List.length_map, List.length_map], fun i hi => ?_⟩
  rw [List.length_map] at hi
  have hm : keep[i] ∈ keep := List.getElem_mem hi
  have hki := hkn _ hm
  have hs : keep[i].toNat < su.length := by rw [V.s]; omega
  obtain ⟨h1, h2, h3, h4, h5⟩ := V.row keep[i].toNat hs
  have e1 : (keep.map fun v => pr.getD v.toNat 0).getD i 0 = pr.getD keep[i].toNat 0 := by rw [List.getD, List.getElem?_map, List.getElem?_eq_getElem hi]; rfl
  have e2 : (keep.map fun v => ow.getD v.toNat 0).getD i 0 = ow.getD keep[i].toNat 0 := by rw [List.getD, List.getElem?_map, List.getElem?_eq_getElem hi]; rfl
  rw [e1, e2, List.getElem_map]
  refine ⟨h1, h2, h3, List.length_pos_iff.2 (hrow _ hm), ?_⟩
  have e3 : ((keep.map fun v => ow.getD v.toNat 0).length : Int) = keep.length := by rw [List.length_map]
  rw [e3]
  have hsr : (su.getD keep[i].toNat []).Pairwise (· < ·) := by
    rw [List.getD, List.getElem?_eq_getElem hs]; exact (posM_rise h5).1
  rw [rowM_eq hk hsr]
  refine posM_of (refRow_rise _ _) fun x hx => ?_
  obtain ⟨j, y, hj, _, rfl⟩ := refRow_mem.1 hx
  have := getSome_lt hj
  omega
end Go.Am.Ar

set_option linter.unusedVariables false
namespace Go.Am.Ar
theorem wL_rise (ws : List Int) (p : Int) (n : Nat) : (natI (wL ws p n)).Pairwise (· < ·) ∧ ∀ x ∈ natI (wL ws p n), -1 < x ∧ x < n := by
  constructor
  · refine List.pairwise_map.2 (List.Pairwise.filter _ (List.Pairwise.imp (fun h => ?_) List.pairwise_lt_range))
    omega
  · intro x hx
    obtain ⟨w, hw, rfl⟩ := List.mem_map.1 hx
    have := (wL_mem.1 hw).1
    omega
section
variable {ow pr ws ss : List Int} {su : List (List Int)} {p : Int} (V : Valid ow pr su) (ho : ∀ x ∈ ow, 0 ≤ x) (L : SolL ow pr su ws ss) (hp : p = 0 ∨ p = 1)
include V ho L hp
omit V ho in
theorem own_in {v : Nat} (hv : v ∈ wL ws p ow.length) (h : zO ow v = p) : stN ss v ∈ Sf su v ∧ stN ss v ∈ wL ws p ow.length := by
  have h1 := wL_mem.1 hv
  obtain ⟨q1, q2⟩ := (L.sol.of hp).own v h1 h
  exact ⟨q1, wL_mem.2 q2⟩
omit ho in
theorem opp_in {v : Nat} (hv : v ∈ wL ws p ow.length) (h : ¬ zO ow v = p) : ∀ u ∈ Sf su v, u ∈ wL ws p ow.length := fun u hu => by
  have h1 := wL_mem.1 hv
  exact wL_mem.2 ((L.sol.of hp).opp v h1 h u hu ((valid_S V v h1.1).2 u hu))
omit ho in
theorem some_in {v : Nat} (hv : v ∈ wL ws p ow.length) : ∃ u ∈ Sf su v, u ∈ wL ws p ow.length := by
  by_cases h : zO ow v = p
  · obtain ⟨q1, q2⟩ := own_in L hp hv h
    exact ⟨_, q1, q2⟩
  · have h1 := wL_mem.1 hv
    cases hs : Sf su v with
    | nil => exact absurd hs (valid_S V v h1.1).1
    | cons x l => exact ⟨x, by simp, opp_in V L hp hv h x (by rw [hs]; simp)⟩
omit ho in
theorem region_rows : ∀ v ∈ natI (wL ws p ow.length), rowM (natI (wL ws p ow.length)) (su.getD v.toNat []) ≠ [] := by
  intro x hx
  obtain ⟨v, hv, rfl⟩ := List.mem_map.1 hx
  obtain ⟨u, hu, h1⟩ := some_in V L hp hv
  obtain ⟨y, hy, rfl⟩ := List.mem_map.1 hu
  have hr := su_range V (wL_mem.1 hv).1 hy
  intro e
  unfold rowM at e
  rw [List.map_eq_nil_iff, List.filter_eq_nil_iff] at e
  refine e y hy (decide_eq_true ?_)
  have := mem_natI.2 h1
  rwa [Int.toNat_of_nonneg hr.1] at this
theorem restrict_wins {ws2 ss2 : List Int} (L2 : SolL ((natI (wL ws p ow.length)).map fun v => ow.getD v.toNat 0) ((natI (wL ws p ow.length)).map fun v => pr.getD v.toNat 0) ((natI (wL ws p ow.length)).map fun v => rowM (natI (wL ws p ow.length)) (su.getD v.toNat [])) ws2 ss2) :
    ∀ i, i < (wL ws p ow.length).length → ws2.getD i 0 = p := by
  have hri := wL_rise ws p ow.length
  have h2 := L2.sol
  have hKm : ∀ i, i < (wL ws p ow.length).length → (wL ws p ow.length).getD i 0 ∈ wL ws p ow.length := fun i hi => by
    rw [List.getD, List.getElem?_eq_getElem hi]; exact List.getElem_mem hi
  have hget : ∀ i, i < (wL ws p ow.length).length → (natI (wL ws p ow.length))[i]? = some (((wL ws p ow.length).getD i 0 : Nat) : Int) := fun i hi => by
    rw [List.getElem?_map, List.getD, List.getElem?_eq_getElem hi]; rfl
  have row2 : ∀ i, i < (wL ws p ow.length).length → ∀ x, x ∈ Sf ((natI (wL ws p ow.length)).map fun v => rowM (natI (wL ws p ow.length)) (su.getD v.toNat [])) i ↔ x < (wL ws p ow.length).length ∧ (wL ws p ow.length).getD x 0 ∈ Sf su ((wL ws p ow.length).getD i 0) := by
    intro i hi x
    have hv := (wL_mem.1 (hKm i hi)).1
    have e : ((natI (wL ws p ow.length)).map fun v => rowM (natI (wL ws p ow.length)) (su.getD v.toNat [])).getD i [] = rowM (natI (wL ws p ow.length)) (su.getD ((wL ws p ow.length).getD i 0) []) := by
      rw [List.getD, List.getElem?_map, hget i hi]; rfl
    unfold Sf
    rw [e]
    unfold rowM
    constructor
    · intro hx
      obtain ⟨y, hy, rfl⟩ := List.mem_map.1 hx
      obtain ⟨u, hu, rfl⟩ := List.mem_map.1 hy
      obtain ⟨hu1, hu2⟩ := List.mem_filter.1 hu
      obtain ⟨j, hj⟩ := List.getElem?_of_mem (of_decide_eq_true hu2)
      rw [lowB_idx hri.1 hj, Int.toNat_natCast]
      have hjl := getSome_lt hj
      rw [List.length_map] at hjl
      rw [hget j hjl] at hj
      have hj : (((wL ws p ow.length).getD j 0 : Nat) : Int) = u := by simpa using hj
      exact ⟨hjl, List.mem_map.2 ⟨u, hu1, by omega⟩⟩
    · rintro ⟨hx, hm⟩
      obtain ⟨u, hu, h3⟩ := List.mem_map.1 hm
      have hur := su_range V hv hu
      have huk : u = (((wL ws p ow.length).getD x 0 : Nat) : Int) := by omega
      have hk := hget x hx
      rw [← huk] at hk
      refine List.mem_map.2 ⟨((lowB u (natI (wL ws p ow.length)) : Nat) : Int), List.mem_map.2 ⟨u, List.mem_filter.2 ⟨hu, decide_eq_true (List.mem_of_getElem? hk)⟩, rfl⟩, ?_⟩
      rw [lowB_idx hri.1 hk, Int.toNat_natCast]
  have eO : ∀ i, i < (wL ws p ow.length).length → zO ((natI (wL ws p ow.length)).map fun v => ow.getD v.toNat 0) i = zO ow ((wL ws p ow.length).getD i 0) := fun i hi => by
    show List.getD _ _ _ = _
    rw [List.getD, List.getElem?_map, hget i hi]; rfl
  have eP : ∀ i, i < (wL ws p ow.length).length → zP ((natI (wL ws p ow.length)).map fun v => pr.getD v.toNat 0) i = zP pr ((wL ws p ow.length).getD i 0) := fun i hi => by
    show List.getD _ _ _ = _
    rw [List.getD, List.getElem?_map, hget i hi]; rfl
  have el : ((natI (wL ws p ow.length)).map fun v => ow.getD v.toNat 0).length = (wL ws p ow.length).length := by rw [List.length_map, List.length_map]
  rw [el] at h2
  have find : ∀ v ∈ wL ws p ow.length, ∃ j, j < (wL ws p ow.length).length ∧ (wL ws p ow.length).getD j 0 = v := fun v hv => by
    obtain ⟨j, hj⟩ := List.getElem?_of_mem hv
    exact ⟨j, getSome_lt hj, by rw [List.getD, hj]; rfl⟩
  intro i hi
  have hvi := wL_mem.1 (hKm i hi)
  refine IsSol.into (ph := fun i => (wL ws p ow.length).getD i 0) (q := 1 - p) L.sol h2 hp rfl (fun v hv => eP v hv) (fun u hu hu' => ?_) hvi.1 hi hvi.2
  have hum : (wL ws p ow.length).getD u 0 ∈ wL ws p ow.length := hKm u hu'.1
  by_cases hop : zO ow ((wL ws p ow.length).getD u 0) = p
  · obtain ⟨q1, q2⟩ := own_in L hp hum hop
    obtain ⟨j, hj, e⟩ := find _ q2
    refine ⟨j, ?_, (row2 u hu'.1 j).2 ⟨hj, ?_⟩, ?_, hj, fun _ => e, fun h => ?_⟩
    · show List.getD _ j 0 ∈ _; rw [e]; exact q1
    · rw [e]; exact q1
    · show List.getD _ j 0 < _; rw [e]; exact (wL_mem.1 q2).1
    · rw [eO u hu'.1, hop] at h; omega
  · have hO2 : zO ((natI (wL ws p ow.length)).map fun v => ow.getD v.toNat 0) u = 1 - p := by
      rw [eO u hu'.1]
      have := valid_O V ho _ (wL_mem.1 hum).1
      omega
    obtain ⟨q1, q2⟩ := (h2.of (p := 1 - p) (by omega)).own u hu' hO2
    have q3 := (row2 u hu'.1 _).1 q1
    exact ⟨_, q3.2, q1, (wL_mem.1 (hKm _ q3.1)).1, q3.1, fun h => absurd h hop, fun _ => rfl⟩
end
end Go.Am.Ar

set_option linter.unusedVariables false
set_option linter.unusedSimpArgs false
set_option maxRecDepth 10000
namespace Go.Am.Ar
open Go.Am renaming pchk → P1, pold → P2, PKNo → P3, ppack → P4, PObj.under → P5, pput → P6, ptset → P7, ptget → P8, pev → P9, ofAV → P10, ofAV1 → P11, ppad → P12, pfill → P13, prepl → P14, AO.effect → P15
open List renaming replicate → L1
open Nat renaming reduceAdd → N1, reduceSub → N2, reduceMul → N3, reduceLT → N4, reduceLeDiff → N5, reduceEqDiff → N6, reduceBEq → N7
open Int renaming reduceToNat → I1, reduceLT → I2, reduceLE → I3, reduceEq → I4, reduceAdd → I5, reduceSub → I6, reduceNeg → I7
section
variable {tab : FuncId → Option AF} (T : HasA tab)
include T

theorem isNaN_p {M : Mem} {K : PV → Mem → Prop} {x : Int} (hq : K (.bool false) M) : SemC tab 69 [p64 x] M K := by
  refine SemC_pure T.h69 (by simp only [PP, P1, P2, P3, P4, P5, P6, P7, P8, P9, P10, P11, P12, P13, P14, L1, P15, N1, N2, N3, N4, N5, N6, N7, I1, I2, I3, I4, I5, I6, I7, reduceIte, reduceCtorEq]) ?_
  simp only [af69, PP, P1, P2, P3, P4, P5, P6, P7, P8, P9, P10, P11, P12, P13, P14, L1, P15, N1, N2, N3, N4, N5, N6, N7, I1, I2, I3, I4, I5, I6, I7, reduceIte, reduceCtorEq]
  exact hq
theorem sisNaN_p {M : Mem} {K : PV → Mem → Prop} {x : Int} (hq : K (.bool false) M) : SemC tab 62 [p64 x] M K := by
  refine SemC_pure T.h62 (by simp only [PP, P1, P2, P3, P4, P5, P6, P7, P8, P9, P10, P11, P12, P13, P14, L1, P15, N1, N2, N3, N4, N5, N6, N7, I1, I2, I3, I4, I5, I6, I7, reduceIte, reduceCtorEq]) ?_
  simp only [af62, PP, P1, P2, P3, P4, P5, P6, P7, P8, P9, P10, P11, P12, P13, P14, L1, P15, N1, N2, N3, N4, N5, N6, N7, I1, I2, I3, I4, I5, I6, I7, reduceIte, reduceCtorEq]
  exact hq
theorem less_p {M : Mem} {K : PV → Mem → Prop} {x y : Int} (hq : K (.bool (decide (x < y))) M) : SemC tab 61 [p64 x, p64 y] M K := by
  refine SemC_pure T.h61 (by simp only [PP, P1, P2, P3, P4, P5, P6, P7, P8, P9, P10, P11, P12, P13, P14, L1, P15, N1, N2, N3, N4, N5, N6, N7, I1, I2, I3, I4, I5, I6, I7, reduceIte, reduceCtorEq]) ?_
  simp only [af61, PP, P1, P2, P3, P4, P5, P6, P7, P8, P9, P10, P11, P12, P13, P14, L1, P15, N1, N2, N3, N4, N5, N6, N7, I1, I2, I3, I4, I5, I6, I7, reduceIte, reduceCtorEq]
  refine isNaN_p T ?_
  simp only [PP, P1, P2, P3, P4, P5, P6, P7, P8, P9, P10, P11, P12, P13, P14, L1, P15, N1, N2, N3, N4, N5, N6, N7, I1, I2, I3, I4, I5, I6, I7, reduceIte, reduceCtorEq]
  exact hq

theorem search_p {M : Mem} {K : PV → Mem → Prop} {f o : Bool} {xs : List Int} {v : Int} (hm : xs.length < big) (hs : xs.Pairwise (· < ·)) (hq : K (.tuple [p64 (lowB v xs), .bool (decide (v ∈ xs))]) M) :
    SemC tab 44 [slI f o .i64 xs, p64 v] M K := by
  refine SemC_pure T.h44 (by simp only [PP, P1, P2, P3, P4, P5, P6, P7, P8, P9, P10, P11, P12, P13, P14, L1, P15, N1, N2, N3, N4, N5, N6, N7, I1, I2, I3, I4, I5, I6, I7, reduceIte, reduceCtorEq]) ?_
  simp only [af44, PP, P1, P2, P3, P4, P5, P6, P7, P8, P9, P10, P11, P12, P13, P14, L1, P15, N1, N2, N3, N4, N5, N6, N7, I1, I2, I3, I4, I5, I6, I7, reduceIte, reduceCtorEq]
  refine loop2 (fun (lo hi : Nat) => lo ≤ hi ∧ hi ≤ xs.length ∧ (∀ i x, xs[i]? = some x → i < lo → x < v) ∧ (∀ i x, xs[i]? = some x → hi ≤ i → v ≤ x)) (fun lo hi => [slI f o .i64 xs, p64 v, .junk, .junk, .junk, .junk, p64 xs.length, p64 lo, p64 hi, .junk, .junk, .junk, .junk, .junk, .junk, .junk, .junk, .junk, .junk, .junk, .junk, .junk, .junk, .junk, .junk, .junk, .junk, .junk, .junk, .junk, .junk, .junk, .junk, .junk, .junk, .junk, .junk, .junk, .junk, .junk, .junk, .junk, .junk, .junk, .junk, .junk, .junk, .junk, .junk, .junk, .junk, .junk, .junk, .junk]) (fun _ _ => []) (fun lo hi => hi - lo) 0 xs.length ⟨by omega, by omega, fun i x h1 h2 => by omega, fun i x h1 h2 => by have := getSome_lt h1; omega⟩ (by simp only [PWeak_nil, PWeak_junk, PWeak_same, Int.cast_ofNat_Int, List.length_append, List.length_cons, List.length_nil, Nat.zero_add]) rfl ?_
  intro lo hi ⟨h1, h2, h3, h4⟩ ih
  refine SemW_go (by kernel_rfl) ?_
  have hb : xs.length < 1000000000000 := hm
  simp only [PP, P1, P2, P3, P4, P5, P6, P7, P8, P9, P10, P11, P12, P13, P14, L1, P15, N1, N2, N3, N4, N5, N6, N7, I1, I2, I3, I4, I5, I6, I7, reduceIte, reduceCtorEq]
  refine QIf.intro (fun c => ?_) (fun c => ?_)
  · have w1 : IntKind.i64.wrap ((lo : Int) + hi) = ((lo + hi : Nat) : Int) := by
      rw [show (lo : Int) + hi = ((lo + hi : Nat) : Int) by omega]; exact wrap_i64 (by omega)
    have w2 : IntKind.u64.wrap ((lo + hi : Nat) : Int) = ((lo + hi : Nat) : Int) := wrap_u64 (by omega)
    have w3 : IntKind.i64.wrap (((lo + hi) / 2 : Nat) : Int) = (((lo + hi) / 2 : Nat) : Int) := wrap_i64 (by omega)
    have hmid : (lo + hi) / 2 < xs.length := by omega
    have hge : lo ≤ (lo + hi) / 2 := by omega
    have hlh : (lo + hi) / 2 < hi := by omega
    have w4 := wrap_succ (k := (lo + hi) / 2) (by show _ < 1000000000000; omega)
    have hs' := pshr_one (lo + hi)
    generalize (lo + hi) / 2 = mid at *
    obtain ⟨x, g1⟩ := some_of hmid
    have k0 : (0 : Int) ≤ mid := by omega
    have k1 : (mid : Int) < xs.length := by omega
    simp only [PP, P1, P2, P3, P4, P5, P6, P7, P8, P9, P10, P11, P12, P13, P14, L1, P15, N1, N2, N3, N4, N5, N6, N7, I1, I2, I3, I4, I5, I6, I7, reduceIte, reduceCtorEq, c, w1, w2, hs', w3, g1, k0, k1]
    refine less_p T ?_
    by_cases c : x < v
    · simp only [PP, P1, P2, P3, P4, P5, P6, P7, P8, P9, P10, P11, P12, P13, P14, L1, P15, N1, N2, N3, N4, N5, N6, N7, I1, I2, I3, I4, I5, I6, I7, reduceIte, reduceCtorEq, c, w4]
      exact SemW_weak (ih (mid + 1) hi ⟨by omega, h2, fun i y hy hi => by
        rcases Nat.lt_or_ge i mid with q | q
        · have := rise_get hs hy g1 q; omega
        · have : i = mid := by omega
          subst this; rw [g1] at hy; cases hy; exact c, h4⟩ (by omega)) (by simp only [PWeak_nil, PWeak_junk, PWeak_same, Int.cast_ofNat_Int, List.length_append, List.length_cons, List.length_nil, Nat.zero_add])
    · simp only [PP, P1, P2, P3, P4, P5, P6, P7, P8, P9, P10, P11, P12, P13, P14, L1, P15, N1, N2, N3, N4, N5, N6, N7, I1, I2, I3, I4, I5, I6, I7, reduceIte, reduceCtorEq, c]
      exact SemW_weak (ih lo mid ⟨by omega, by omega, h3, fun i y hy hi => by
        rcases Nat.lt_or_ge mid i with q | q
        · have := rise_get hs g1 hy q; omega
        · have : i = mid := by omega
          subst this; rw [g1] at hy; cases hy; omega⟩ (by omega)) (by simp only [PWeak_nil, PWeak_junk, PWeak_same, Int.cast_ofNat_Int, List.length_append, List.length_cons, List.length_nil, Nat.zero_add])
  · have e : hi = lo := by omega
    subst e
    have hl := lowB_of h2 h3 h4
    rw [hl] at hq
    by_cases c2 : hi < xs.length
    · obtain ⟨x, g1⟩ := some_of c2
      have k0 : (0 : Int) ≤ hi := by omega
      have k1 : (hi : Int) < xs.length := by omega
      by_cases d : x = v
      · subst d
        have : x ∈ xs := List.mem_of_getElem? g1
        simp only [PP, P1, P2, P3, P4, P5, P6, P7, P8, P9, P10, P11, P12, P13, P14, L1, P15, N1, N2, N3, N4, N5, N6, N7, I1, I2, I3, I4, I5, I6, I7, reduceIte, reduceCtorEq, k0, k1, g1, this, Int.lt_irrefl] at hq ⊢
        exact hq
      · have hni : ¬ v ∈ xs := by
          intro hv
          obtain ⟨j, hj⟩ := List.getElem?_of_mem hv
          have a1 := h4 hi x g1 (Nat.le_refl _)
          rcases Nat.lt_or_ge j hi with q | q
          · have := h3 j v hj q; omega
          · rcases Nat.lt_or_ge hi j with q2 | q2
            · have := rise_get hs g1 hj q2; omega
            · have : j = hi := by omega
              subst this; rw [g1] at hj; cases hj; exact d rfl
        simp only [PP, P1, P2, P3, P4, P5, P6, P7, P8, P9, P10, P11, P12, P13, P14, L1, P15, N1, N2, N3, N4, N5, N6, N7, I1, I2, I3, I4, I5, I6, I7, reduceIte, reduceCtorEq, k0, k1, g1, d, hni, Int.lt_irrefl] at hq ⊢
        refine sisNaN_p T ?_
        simp only [PP, P1, P2, P3, P4, P5, P6, P7, P8, P9, P10, P11, P12, P13, P14, L1, P15, N1, N2, N3, N4, N5, N6, N7, I1, I2, I3, I4, I5, I6, I7, reduceIte, reduceCtorEq]
        exact hq
    · have k1 : ¬ (hi : Int) < xs.length := by omega
      have hni : ¬ v ∈ xs := by
        intro hv
        obtain ⟨j, hj⟩ := List.getElem?_of_mem hv
        have := getSome_lt hj
        have := h3 j v hj (by omega)
        omega
      simp only [PP, P1, P2, P3, P4, P5, P6, P7, P8, P9, P10, P11, P12, P13, P14, L1, P15, N1, N2, N3, N4, N5, N6, N7, I1, I2, I3, I4, I5, I6, I7, reduceIte, reduceCtorEq, k1, hni, Int.lt_irrefl] at hq ⊢
      exact hq
end
end Go.Am.Ar

set_option linter.unusedVariables false
set_option linter.unusedSimpArgs false
set_option maxRecDepth 10000
namespace Go.Am.Ar
open Go.Am renaming pchk → P1, pold → P2, PKNo → P3, ppack → P4, PObj.under → P5, pput → P6, ptset → P7, ptget → P8, pev → P9, ofAV → P10, ofAV1 → P11, ppad → P12, pfill → P13, prepl → P14, AO.effect → P15
open List renaming replicate → L1
open Nat renaming reduceAdd → N1, reduceSub → N2, reduceMul → N3, reduceLT → N4, reduceLeDiff → N5, reduceEqDiff → N6, reduceBEq → N7
open Int renaming reduceToNat → I1, reduceLT → I2, reduceLE → I3, reduceEq → I4, reduceAdd → I5, reduceSub → I6, reduceNeg → I7
section
variable {tab : FuncId → Option AF} (T : HasA tab)
include T

theorem restrict_p {M : Mem} {K : PV → Mem → Prop} {f1 o1 f2 o2 f3 o3 f4 o4 f5 o5 : Bool} {ow pr keep : List Int} {su : List (List Int)} (B : Bnd ow pr su) (hb : keep.length < big) (hq : K (restrictM ow pr su keep) M) :
    SemC tab 24 [gmP f1 o1 f2 o2 f3 o3 f4 o4 ow pr su, slI f5 o5 .i64 keep] M K := by
  refine SemC_pure T.h24 (by simp only [PP, P1, P2, P3, P4, P5, P6, P7, P8, P9, P10, P11, P12, P13, P14, L1, P15, N1, N2, N3, N4, N5, N6, N7, I1, I2, I3, I4, I5, I6, I7, reduceIte, reduceCtorEq]) ?_
  simp only [af24, PP, P1, P2, P3, P4, P5, P6, P7, P8, P9, P10, P11, P12, P13, P14, L1, P15, N1, N2, N3, N4, N5, N6, N7, I1, I2, I3, I4, I5, I6, I7, reduceIte, reduceCtorEq, restrictM] at hq ⊢
  refine acheck_p T B hb ?_
  simp only [PP, P1, P2, P3, P4, P5, P6, P7, P8, P9, P10, P11, P12, P13, P14, L1, P15, N1, N2, N3, N4, N5, N6, N7, I1, I2, I3, I4, I5, I6, I7, reduceIte, reduceCtorEq]
  refine QIf.intro (fun c1 => ?_) (fun c1 => ?_)
  rotate_left
  · simp only [PP, P1, P2, P3, P4, P5, P6, P7, P8, P9, P10, P11, P12, P13, P14, L1, P15, N1, N2, N3, N4, N5, N6, N7, I1, I2, I3, I4, I5, I6, I7, reduceIte, reduceCtorEq, c1] at hq ⊢
    exact hq
  simp only [PP, P1, P2, P3, P4, P5, P6, P7, P8, P9, P10, P11, P12, P13, P14, L1, P15, N1, N2, N3, N4, N5, N6, N7, I1, I2, I3, I4, I5, I6, I7, reduceIte, reduceCtorEq, c1] at hq ⊢
  refine QIf.intro (fun c2 => ?_) (fun c2 => ?_)
  · simp only [PP, P1, P2, P3, P4, P5, P6, P7, P8, P9, P10, P11, P12, P13, P14, L1, P15, N1, N2, N3, N4, N5, N6, N7, I1, I2, I3, I4, I5, I6, I7, reduceIte, reduceCtorEq, c2] at hq ⊢
    exact hq
  simp only [PP, P1, P2, P3, P4, P5, P6, P7, P8, P9, P10, P11, P12, P13, P14, L1, P15, N1, N2, N3, N4, N5, N6, N7, I1, I2, I3, I4, I5, I6, I7, reduceIte, reduceCtorEq, c2] at hq ⊢
  obtain ⟨V, _, hpm⟩ := wrong_zero c1
  obtain ⟨hrise, hrange⟩ := posM_rise hpm
  have hs := V.s
  have hp := V.p
  have n1 := V.n1
  have hb' : keep.length < 1000000000000 := hb
  refine SemW_re (GStep.nilbox 1 0 1 rfl rfl rfl) ?_
  refine SemW_re (GStep.nilbox 1 1 1 rfl rfl rfl) ?_
  refine SemW_re (GStep.nilbox 1 2 1 rfl rfl rfl) ?_
  simp only [List.length_cons, List.length_nil, List.length_append, List.length_set, List.set_cons_zero, List.set_cons_succ, List.cons_append, List.nil_append, Nat.reduceAdd]
  refine loop6 (fun (k v g : Nat) (a1 a2 : List Int) (a3 : List (List Int)) => k ≤ keep.length ∧ a1 = (keep.take k).map (fun v => ow.getD v.toNat 0) ∧ a2 = (keep.take k).map (fun v => pr.getD v.toNat 0) ∧ a3 = (keep.take k).map (fun v => rowM keep (su.getD v.toNat [])) ∧ [] ∉ a3)
    (fun k v g a1 a2 a3 => [.junk, slI f5 o5 .i64 keep, .ptr 0 0 0, .junk, .ptr 1 0 0, .junk, .junk, .junk, .junk, .junk, .junk, .junk, .junk, .junk, .junk, .junk, .junk, .junk, .junk, .junk, .junk, .junk, .junk, .junk, .junk, slI f5 o5 .i64 keep, p64 keep.length, p64 k, .junk, .junk, .junk, .junk, .junk, .junk, .junk, .junk, .junk, .junk, .junk, .junk, .junk, .junk, .junk, .junk, .junk, .junk, .junk, .junk, .junk, .junk, .junk, .junk, .junk, .junk, .junk, .junk, .junk, .junk, .junk, .junk, .junk, .junk, .junk, .junk, .junk, .junk, .junk, .junk, .junk, .junk, .junk, .junk, .junk, .junk, .junk, .junk, .junk, .junk, .junk, .junk, .junk, .junk, .junk, .junk, .junk])
    (fun k v g a1 a2 a3 => [.cells 0 0 [slI f1 o1 .u8 ow, slI f2 o2 .i64 pr, slR f3 o3 f4 o4 .i64 su], .cells 0 v [.ref 2 g 1 0 a1.length, .ref 3 g 1 0 a2.length, .ref 4 g 1 0 a3.length], .cells g 0 (a1.map (PV.int .u8)), .cells g 0 (a2.map (PV.int .i64)), .cells g 0 (a3.map (slI false true .i64))])
    (fun k _ _ _ _ _ => keep.length - k) 0 0 0 [] [] [] ⟨by omega, rfl, rfl, rfl, by simp⟩ (by simp only [PWeak_nil, PWeak_junk, PWeak_same, Int.cast_ofNat_Int, List.length_append, List.length_cons, List.length_nil, Nat.zero_add]) rfl ?_
  intro k v g a1 a2 a3 ⟨hle, ha1, ha2, ha3, hne⟩ ih
  refine SemW_go (by kernel_rfl) ?_
  simp only [PP, P1, P2, P3, P4, P5, P6, P7, P8, P9, P10, P11, P12, P13, P14, L1, P15, N1, N2, N3, N4, N5, N6, N7, I1, I2, I3, I4, I5, I6, I7, reduceIte, reduceCtorEq]
  refine QIf.intro (fun c => ?_) (fun c => ?_)
  · have hk' : k < keep.length := by omega
    obtain ⟨x, g1⟩ := some_of hk'
    obtain ⟨hx0, hx1⟩ := hrange x (List.mem_of_getElem? g1)
    have h0 : (0 : Int) ≤ k := by omega
    have hw := wrap_succ (k := k) (by show _ < 1000000000000; omega)
    have x0 : (0 : Int) ≤ x := by omega
    have x1 : x < (ow.length : Int) := hx1
    have x2 : x < (pr.length : Int) := by omega
    have x3 : x < (su.length : Int) := by omega
    obtain ⟨row, q1⟩ := some_of (xs := su) (k := x.toNat) (by omega)
    obtain ⟨o, q2⟩ := some_of (xs := ow) (k := x.toNat) (by omega)
    obtain ⟨p, q3⟩ := some_of (xs := pr) (k := x.toNat) (by omega)
    have hrb := B.r row (List.mem_of_getElem? q1)
    have hrb' : row.length < 1000000000000 := hrb
    simp only [PP, P1, P2, P3, P4, P5, P6, P7, P8, P9, P10, P11, P12, P13, P14, L1, P15, N1, N2, N3, N4, N5, N6, N7, I1, I2, I3, I4, I5, I6, I7, reduceIte, reduceCtorEq, c, g1, h0, x0, x3, q1]
    refine SemW_gh ?_
    refine SemW_re (GStep.nil 9 1 rfl rfl rfl) ?_
    simp only [ptset, List.cons_append, List.nil_append, List.length_cons, List.length_nil, Nat.reduceAdd]
    refine loop3 (fun (j g2 : Nat) (acc : List Int) => j ≤ row.length ∧ acc = rowM keep (row.take j))
      (fun j g2 acc => [.junk, slI f5 o5 .i64 keep, .ptr 0 0 0, .junk, .ptr 1 0 0, .junk, .junk, .junk, p64 x, .ref 5 g2 1 0 acc.length, .junk, .junk, .junk, .junk, .junk, .junk, .junk, .junk, .junk, .junk, .junk, .junk, .junk, .junk, .junk, slI f5 o5 .i64 keep, p64 keep.length, p64 k, .junk, .junk, .junk, .junk, .junk, .junk, .junk, slI f4 o4 .i64 row, p64 row.length, p64 j, .junk, .junk, .junk, .junk, .junk, .junk, .junk, .junk, .junk, .junk, .junk, .junk, .junk, .junk, .junk, .junk, .junk, .junk, .junk, .junk, .junk, .junk, .junk, .junk, .junk, .junk, .junk, .junk, .junk, .junk, .junk, .junk, .junk, .junk, .junk, .junk, .junk, .junk, .junk, .junk, .junk, .junk, .junk, .junk, .junk, .junk, .junk])
      (fun j g2 acc => [.cells 0 0 [slI f1 o1 .u8 ow, slI f2 o2 .i64 pr, slR f3 o3 f4 o4 .i64 su], .cells 0 v [.ref 2 g 1 0 a1.length, .ref 3 g 1 0 a2.length, .ref 4 g 1 0 a3.length], .cells g 0 (a1.map (PV.int .u8)), .cells g 0 (a2.map (PV.int .i64)), .cells g 0 (a3.map (slI false true .i64)), .cells g2 0 (acc.map (PV.int .i64))])
      (fun j _ _ => row.length - j) 0 0 [] ⟨by omega, rfl⟩ (by simp only [PWeak_nil, PWeak_junk, PWeak_same, Int.cast_ofNat_Int, List.length_append, List.length_cons, List.length_nil, Nat.zero_add]) rfl ?_
    intro j g2 acc ⟨hjle, hacc⟩ ih2
    refine SemW_go (by kernel_rfl) ?_
    simp only [PP, P1, P2, P3, P4, P5, P6, P7, P8, P9, P10, P11, P12, P13, P14, L1, P15, N1, N2, N3, N4, N5, N6, N7, I1, I2, I3, I4, I5, I6, I7, reduceIte, reduceCtorEq]
    refine QIf.intro (fun d => ?_) (fun d => ?_)
    · have hj' : j < row.length := by omega
      obtain ⟨u, e1⟩ := some_of hj'
      have j0 : (0 : Int) ≤ j := by omega
      have hwj := wrap_succ (k := j) (by show _ < 1000000000000; omega)
      simp only [PP, P1, P2, P3, P4, P5, P6, P7, P8, P9, P10, P11, P12, P13, P14, L1, P15, N1, N2, N3, N4, N5, N6, N7, I1, I2, I3, I4, I5, I6, I7, reduceIte, reduceCtorEq, d, e1, j0]
      refine search_p T hb hrise ?_
      simp only [PP, P1, P2, P3, P4, P5, P6, P7, P8, P9, P10, P11, P12, P13, P14, L1, P15, N1, N2, N3, N4, N5, N6, N7, I1, I2, I3, I4, I5, I6, I7, reduceIte, reduceCtorEq]
      by_cases hu : u ∈ keep
      · have hal : acc.length ≤ j := by
          rw [hacc]; simp only [rowM, List.length_map]
          exact Nat.le_trans (List.length_filter_le _ _) (by simp; omega)
        have b1 : (acc.length + 1) * 8 ≤ 140737488355328 := by omega
        have b2 : acc.length + 1 ≤ 9223372036854775807 := by omega
        simp only [PP, P1, P2, P3, P4, P5, P6, P7, P8, P9, P10, P11, P12, P13, P14, L1, P15, N1, N2, N3, N4, N5, N6, N7, I1, I2, I3, I4, I5, I6, I7, reduceIte, reduceCtorEq, hu, b1, b2, hwj]
        refine SemW_to (ih2 (j + 1) (g2 + 1) (acc ++ [((lowB u keep : Nat) : Int)]) ⟨by omega, ?_⟩ (by omega)) (by simp only [PWeak_nil, PWeak_junk, PWeak_same, Int.cast_ofNat_Int, List.length_append, List.length_cons, List.length_nil, Nat.zero_add]) (by simp only [List.map_append, List.map_cons, List.map_nil])
        rw [take_some e1, hacc]; simp [rowM, hu]
      · simp only [PP, P1, P2, P3, P4, P5, P6, P7, P8, P9, P10, P11, P12, P13, P14, L1, P15, N1, N2, N3, N4, N5, N6, N7, I1, I2, I3, I4, I5, I6, I7, reduceIte, reduceCtorEq, hu, hwj]
        refine SemW_weak (ih2 (j + 1) g2 acc ⟨by omega, ?_⟩ (by omega)) (by simp only [PWeak_nil, PWeak_junk, PWeak_same, Int.cast_ofNat_Int, List.length_append, List.length_cons, List.length_nil, Nat.zero_add])
        rw [take_some e1, hacc]; simp [rowM, hu]
    · have hacc : acc = rowM keep row := by rw [hacc, List.take_of_length_le (by omega)]
      simp only [PP, P1, P2, P3, P4, P5, P6, P7, P8, P9, P10, P11, P12, P13, P14, L1, P15, N1, N2, N3, N4, N5, N6, N7, I1, I2, I3, I4, I5, I6, I7, reduceIte, reduceCtorEq, d]
      refine Gh.step (GStep.freeze (b := [.junk, slI f5 o5 .i64 keep, .ptr 0 0 0, .junk, .ptr 1 0 0, .junk, .junk, .junk, p64 x, slI false true .i64 acc, .junk, .junk, .junk, .junk, .junk, .junk, .junk, .junk, .junk, .junk, .junk, .junk, .junk, .junk, .junk, slI f5 o5 .i64 keep, p64 keep.length, p64 k, .junk, .junk, .junk, .junk, .junk, .junk, .junk, .junk, .junk, .junk, .junk, .junk, .junk, .junk, .junk, .junk, .junk, .junk, .junk, .junk, .junk, .junk, .junk, .junk, .junk, .junk, .junk, .junk, .junk, .junk, .junk, .junk, .junk, .junk, .junk, .junk, .junk, .junk, .junk, .junk, .junk, .junk, .junk, .junk, .junk, .junk, .junk, .junk, .junk, .junk, .junk, .junk, .junk, .junk, .junk, .junk, .junk]) 5 (Nat.zero_le _) rfl (by simp only [PFrz_nil, PFrz_junk, PFrz_same, PFrz_ref, psub_map, Nat.mul_one, Nat.zero_add, List.length_map, Nat.le_refl]) rfl) (Gh.same ?_)
      have hrow : rowM keep (su.getD x.toNat []) = acc := by rw [hacc]; simp [List.getD, q1]
      simp only [PP, P1, P2, P3, P4, P5, P6, P7, P8, P9, P10, P11, P12, P13, P14, L1, P15, N1, N2, N3, N4, N5, N6, N7, I1, I2, I3, I4, I5, I6, I7, reduceIte, reduceCtorEq]
      refine QIf.intro (fun d2 => ?_) (fun d2 => ?_)
      · have hex : ∃ v ∈ keep, rowM keep (su.getD v.toNat []) = [] := ⟨x, List.mem_of_getElem? g1, by rw [hrow]; exact List.length_eq_zero_iff.1 (by omega)⟩
        simp only [PP, P1, P2, P3, P4, P5, P6, P7, P8, P9, P10, P11, P12, P13, P14, L1, P15, N1, N2, N3, N4, N5, N6, N7, I1, I2, I3, I4, I5, I6, I7, reduceIte, reduceCtorEq, d2, hex] at hq ⊢
        exact hq
      · have l1 : a1.length = k := by rw [ha1]; simp; omega
        have l2 : a2.length = k := by rw [ha2]; simp; omega
        have l3 : a3.length = k := by rw [ha3]; simp; omega
        have b1 : a1.length + 1 ≤ 140737488355328 := by omega
        have b2 : (a2.length + 1) * 8 ≤ 140737488355328 := by omega
        have b3 : (a3.length + 1) * 24 ≤ 140737488355328 := by omega
        have b4 : a1.length + 1 ≤ 9223372036854775807 := by omega
        have b5 : a2.length + 1 ≤ 9223372036854775807 := by omega
        have b6 : a3.length + 1 ≤ 9223372036854775807 := by omega
        simp only [PP, P1, P2, P3, P4, P5, P6, P7, P8, P9, P10, P11, P12, P13, P14, L1, P15, N1, N2, N3, N4, N5, N6, N7, I1, I2, I3, I4, I5, I6, I7, reduceIte, reduceCtorEq, d2, x0, x1, x2, q2, q3, b1, b2, b3, b4, b5, b6, hw]
        refine SemW_re (GStep.drop (b := [.junk, slI f5 o5 .i64 keep, .ptr 0 0 0, .junk, .ptr 1 0 0, .junk, .junk, .junk, .junk, .junk, .junk, .junk, .junk, .junk, .junk, .junk, .junk, .junk, .junk, .junk, .junk, .junk, .junk, .junk, .junk, slI f5 o5 .i64 keep, p64 keep.length, p64 ((k + 1 : Nat) : Int), .junk, .junk, .junk, .junk, .junk, .junk, .junk, .junk, .junk, .junk, .junk, .junk, .junk, .junk, .junk, .junk, .junk, .junk, .junk, .junk, .junk, .junk, .junk, .junk, .junk, .junk, .junk, .junk, .junk, .junk, .junk, .junk, .junk, .junk, .junk, .junk, .junk, .junk, .junk, .junk, .junk, .junk, .junk, .junk, .junk, .junk, .junk, .junk, .junk, .junk, .junk, .junk, .junk, .junk, .junk, .junk, .junk]) 5 (Nat.zero_le _) (by simp) (by simp only [PWeak_nil, PWeak_junk, PWeak_same, Int.cast_ofNat_Int, List.length_append, List.length_cons, List.length_nil, Nat.zero_add]) (by simp only [PP, P1, P2, P3, P4, P5, P6, P7, P8, P9, P10, P11, P12, P13, P14, L1, P15, N1, N2, N3, N4, N5, N6, N7, I1, I2, I3, I4, I5, I6, I7, reduceIte, reduceCtorEq]) (by simp only [PP, P1, P2, P3, P4, P5, P6, P7, P8, P9, P10, P11, P12, P13, P14, L1, P15, N1, N2, N3, N4, N5, N6, N7, I1, I2, I3, I4, I5, I6, I7, reduceIte, reduceCtorEq]) rfl) ?_
        refine SemW_to (ih (k + 1) (v + 1 + 1 + 1) (g + 1) (a1 ++ [o]) (a2 ++ [p]) (a3 ++ [acc]) ⟨by omega, ?_, ?_, ?_, ?_⟩ (by omega)) (by simp only [PWeak_nil, PWeak_junk, PWeak_same, Int.cast_ofNat_Int, List.length_append, List.length_cons, List.length_nil, Nat.zero_add]) (by simp only [PP, P1, P2, P3, P4, P5, P6, P7, P8, P9, P10, P11, P12, P13, P14, L1, P15, N1, N2, N3, N4, N5, N6, N7, I1, I2, I3, I4, I5, I6, I7, reduceIte, reduceCtorEq])
        · rw [take_some g1, ha1]; simp [List.getD, q2]
        · rw [take_some g1, ha2]; simp [List.getD, q3]
        · rw [take_some g1, ha3, List.map_append]; simp only [List.map_cons, List.map_nil, hrow]
        · simp only [List.mem_append, List.mem_singleton, not_or]
          exact ⟨hne, fun e => d2 (by rw [← e]; rfl)⟩
  · have ha1 : a1 = keep.map (fun v => ow.getD v.toNat 0) := by rw [ha1, List.take_of_length_le (by omega)]
    have ha2 : a2 = keep.map (fun v => pr.getD v.toNat 0) := by rw [ha2, List.take_of_length_le (by omega)]
    have ha3 : a3 = keep.map (fun v => rowM keep (su.getD v.toNat [])) := by rw [ha3, List.take_of_length_le (by omega)]
    have hex : ¬ ∃ v ∈ keep, rowM keep (su.getD v.toNat []) = [] := by
      rintro ⟨v, hv, he⟩
      exact hne (by rw [ha3]; exact List.mem_map.2 ⟨v, hv, he⟩)
    simp only [hex, if_false] at hq
    rw [← ha1, ← ha2, ← ha3] at hq
    simp only [PP, P1, P2, P3, P4, P5, P6, P7, P8, P9, P10, P11, P12, P13, P14, L1, P15, N1, N2, N3, N4, N5, N6, N7, I1, I2, I3, I4, I5, I6, I7, reduceIte, reduceCtorEq, c]
    exact hq
end
end Go.Am.Ar

set_option linter.unusedVariables false
set_option linter.unusedSimpArgs false
set_option maxRecDepth 10000
namespace Go.Am.Ar
open Go.Am renaming pchk → P1, pold → P2, PKNo → P3, ppack → P4, PObj.under → P5, pput → P6, ptset → P7, ptget → P8, pev → P9, ofAV → P10, ofAV1 → P11, ppad → P12, pfill → P13, prepl → P14, AO.effect → P15
open List renaming replicate → L1
open Nat renaming reduceAdd → N1, reduceSub → N2, reduceMul → N3, reduceLT → N4, reduceLeDiff → N5, reduceEqDiff → N6, reduceBEq → N7
open Int renaming reduceToNat → I1, reduceLT → I2, reduceLE → I3, reduceEq → I4, reduceAdd → I5, reduceSub → I6, reduceNeg → I7
theorem check_valid {ow pr : List Int} {su : List (List Int)} (V : Valid ow pr su) : checkM ow pr su = 0 := check_of V
section
variable {tab : FuncId → Option AF} (T : HasA tab)
include T
theorem zrestrict_p {ow pr : List Int} {su : List (List Int)} (ho : ∀ x ∈ ow, 0 ≤ x) :
    SemC tab 7 [gmP false false false false false false false false ow pr su] [] fun r _ => r = .bool true := by
  refine SemC_fn T.h7 ?_
  simp only [af7, PP, P1, P2, P3, P4, P5, P6, P7, P8, P9, P10, P11, P12, P13, P14, L1, P15, N1, N2, N3, N4, N5, N6, N7, I1, I2, I3, I4, I5, I6, I7, reduceIte, reduceCtorEq]
  refine long0_p T ?_
  simp only [PP, P1, P2, P3, P4, P5, P6, P7, P8, P9, P10, P11, P12, P13, P14, L1, P15, N1, N2, N3, N4, N5, N6, N7, I1, I2, I3, I4, I5, I6, I7, reduceIte, reduceCtorEq]
  cases hl : longM ow pr su [] with
  | true =>
    simp only [PP, P1, P2, P3, P4, P5, P6, P7, P8, P9, P10, P11, P12, P13, P14, L1, P15, N1, N2, N3, N4, N5, N6, N7, I1, I2, I3, I4, I5, I6, I7, reduceIte, reduceCtorEq]
    refine SemC_true T.awake ?_
    simp only [PP, P1, P2, P3, P4, P5, P6, P7, P8, P9, P10, P11, P12, P13, P14, L1, P15, N1, N2, N3, N4, N5, N6, N7, I1, I2, I3, I4, I5, I6, I7, reduceIte, reduceCtorEq]
  | false =>
    have S := longM_false hl
    have B := S.bnd
    have so := S.o
    simp only [PP, P1, P2, P3, P4, P5, P6, P7, P8, P9, P10, P11, P12, P13, P14, L1, P15, N1, N2, N3, N4, N5, N6, N7, I1, I2, I3, I4, I5, I6, I7, reduceIte, reduceCtorEq]
    refine SemC_true T.awake ?_
    simp only [PP, P1, P2, P3, P4, P5, P6, P7, P8, P9, P10, P11, P12, P13, P14, L1, P15, N1, N2, N3, N4, N5, N6, N7, I1, I2, I3, I4, I5, I6, I7, reduceIte, reduceCtorEq]
    refine regions_p T B ho (fun ws ss e hR => ?_)
    rcases hR with ⟨q1, rfl, rfl, rfl⟩ | ⟨c1, rfl, L⟩
    · have hw00 : IntKind.i64.wrap 0 = 0 := rfl
      simp only [PP, P1, P2, P3, P4, P5, P6, P7, P8, P9, P10, P11, P12, P13, P14, L1, P15, N1, N2, N3, N4, N5, N6, N7, I1, I2, I3, I4, I5, I6, I7, reduceIte, reduceCtorEq, q1, wL, List.filter_nil, List.range_zero, hw00]
    · have V := valid_of c1
      have n1 := V.n1
      have lw := L.lw
      simp only [PP, P1, P2, P3, P4, P5, P6, P7, P8, P9, P10, P11, P12, P13, P14, L1, P15, N1, N2, N3, N4, N5, N6, N7, I1, I2, I3, I4, I5, I6, I7, reduceIte, reduceCtorEq, lw]
      refine loop1 (fun (p : Nat) => p ≤ 2) (fun p => [.junk, .ptr 0 0 0, .junk, slI false true .i64 (natI (wL ws 0 ow.length)), slI false true .i64 (natI (wL ws 1 ow.length)), .junk, p64 p, .junk, .junk, .junk, .junk, .junk, .junk, .junk, .junk, .junk, .junk, .junk, .junk, .junk, .junk, .junk, .junk, .junk, .junk, .junk, .junk, .junk, .junk, .junk, .junk, .junk, .junk, .junk, .junk, .junk, .junk, .junk, .junk, .junk, .junk, .junk, .junk, .junk, .junk, .junk, .junk, .junk, .junk, .junk, .junk, .junk, .junk, .junk, .junk, .junk, .junk, .junk, .junk, .junk, .junk, .junk, .junk, .junk, .junk, .junk, .junk, .junk, .junk, .junk, .junk, .junk, .junk, .junk, .junk, .junk, .junk, .junk, .junk, .junk, .junk, .junk, .junk, .junk, .junk])
        (fun _ => [.cells 0 0 [slI false false .u8 ow, slI false false .i64 pr, slR false false false false .i64 su]]) (fun p => 2 - p) 0 (by omega) (by simp only [PWeak_nil, PWeak_junk, PWeak_same, Int.cast_ofNat_Int, List.length_append, List.length_cons, List.length_nil, Nat.zero_add]) rfl ?_
      intro p hle ih
      refine SemW_go (by kernel_rfl) ?_
      simp only [PP, P1, P2, P3, P4, P5, P6, P7, P8, P9, P10, P11, P12, P13, P14, L1, P15, N1, N2, N3, N4, N5, N6, N7, I1, I2, I3, I4, I5, I6, I7, reduceIte, reduceCtorEq]
      refine QIf.intro (fun c => ?_) (fun c => ?_)
      rotate_left
      · simp only [PP, P1, P2, P3, P4, P5, P6, P7, P8, P9, P10, P11, P12, P13, P14, L1, P15, N1, N2, N3, N4, N5, N6, N7, I1, I2, I3, I4, I5, I6, I7, reduceIte, reduceCtorEq, c]
      have hp2 : p = 0 ∨ p = 1 := by omega
      simp only [PP, P1, P2, P3, P4, P5, P6, P7, P8, P9, P10, P11, P12, P13, P14, L1, P15, N1, N2, N3, N4, N5, N6, N7, I1, I2, I3, I4, I5, I6, I7, reduceIte, reduceCtorEq, c]
      rcases hp2 with rfl | rfl
      · have hwp : IntKind.i64.wrap 1 = 1 := rfl
        have hri := wL_rise ws 0 ow.length
        have hrl := wL_len ws 0 ow.length
        have hrow := region_rows V L (p := 0) (by omega)
        have kb : (natI (wL ws 0 ow.length)).length < big := by show _ < 1000000000000; rw [List.length_map]; omega
        simp only [PP, P1, P2, P3, P4, P5, P6, P7, P8, P9, P10, P11, P12, P13, P14, L1, P15, N1, N2, N3, N4, N5, N6, N7, I1, I2, I3, I4, I5, I6, I7, reduceIte, reduceCtorEq]
        refine QIf.intro (fun c2 => ?_) (fun c2 => ?_)
        · simp only [PP, P1, P2, P3, P4, P5, P6, P7, P8, P9, P10, P11, P12, P13, P14, L1, P15, N1, N2, N3, N4, N5, N6, N7, I1, I2, I3, I4, I5, I6, I7, reduceIte, reduceCtorEq, c2, hwp]
          exact SemW_weak (ih 1 (by omega) (by omega)) (by simp only [PWeak_nil, PWeak_junk, PWeak_same, Int.cast_ofNat_Int, List.length_append, List.length_cons, List.length_nil, Nat.zero_add])
        have hV2 := restrict_valid V hri.1 hri.2 (by rw [List.length_map]; omega) hrow
        have hwin := fun ws2 ss2 L2 => restrict_wins V ho L (p := 0) (by omega) (ws2 := ws2) (ss2 := ss2) L2
        have hrm : restrictM ow pr su (natI (wL ws 0 ow.length)) = .tuple [gmP false true false true false true false true ((natI (wL ws 0 ow.length)).map fun v => ow.getD v.toNat 0) ((natI (wL ws 0 ow.length)).map fun v => pr.getD v.toNat 0) ((natI (wL ws 0 ow.length)).map fun v => rowM (natI (wL ws 0 ow.length)) (su.getD v.toNat [])), p64 0] := by
          have w0 : wrongM ow pr su 0 (natI (wL ws 0 ow.length)) = 0 := by
            unfold wrongM
            rw [if_pos c1, if_neg (by omega), if_pos (posM_of hri.1 hri.2)]
          unfold restrictM
          rw [if_pos w0, if_neg (by rw [List.length_map]; omega), if_neg (fun ⟨v, h1, h2⟩ => hrow v h1 h2)]
        have hB2 : Bnd ((natI (wL ws 0 ow.length)).map fun v => ow.getD v.toNat 0) ((natI (wL ws 0 ow.length)).map fun v => pr.getD v.toNat 0) ((natI (wL ws 0 ow.length)).map fun v => rowM (natI (wL ws 0 ow.length)) (su.getD v.toNat [])) := by
          refine ⟨by rw [List.length_map]; exact kb, by rw [List.length_map]; exact kb, by rw [List.length_map]; exact kb, fun r hr => ?_⟩
          obtain ⟨v, hv, rfl⟩ := List.mem_map.1 hr
          unfold rowM
          rw [List.length_map]
          refine Nat.lt_of_le_of_lt (List.length_filter_le _ _) ?_
          rw [List.getD]
          cases hx : su[v.toNat]? with
          | none => show 0 < 1000000000000; omega
          | some row => exact B.r row (List.mem_of_getElem? hx)
        have ho2 : ∀ x ∈ (natI (wL ws 0 ow.length)).map fun v => ow.getD v.toNat 0, 0 ≤ x := fun x hx => by
          obtain ⟨v, hv, rfl⟩ := List.mem_map.1 hx
          rw [List.getD]
          cases hx : ow[v.toNat]? with
          | none => exact Int.le_refl _
          | some y => exact ho y (List.mem_of_getElem? hx)
        have hl2 : ((natI (wL ws 0 ow.length)).map fun v => ow.getD v.toNat 0).length = (wL ws 0 ow.length).length := by rw [List.length_map, List.length_map]
        simp only [PP, P1, P2, P3, P4, P5, P6, P7, P8, P9, P10, P11, P12, P13, P14, L1, P15, N1, N2, N3, N4, N5, N6, N7, I1, I2, I3, I4, I5, I6, I7, reduceIte, reduceCtorEq, c2]
        refine restrict_p T B kb ?_
        rw [hrm]
        generalize ((natI (wL ws 0 ow.length)).map fun v => ow.getD v.toNat 0) = o2 at *
        generalize ((natI (wL ws 0 ow.length)).map fun v => pr.getD v.toNat 0) = p2 at *
        generalize ((natI (wL ws 0 ow.length)).map fun v => rowM (natI (wL ws 0 ow.length)) (su.getD v.toNat [])) = s2 at *
        simp only [PP, P1, P2, P3, P4, P5, P6, P7, P8, P9, P10, P11, P12, P13, P14, L1, P15, N1, N2, N3, N4, N5, N6, N7, I1, I2, I3, I4, I5, I6, I7, reduceIte, reduceCtorEq]
        refine solve_p T hB2 ho2 (fun c3 => absurd (check_of hV2) c3) (fun c3 ws2 ss2 L2 => ?_)
        have lw2 : ws2.length = (wL ws 0 ow.length).length := by rw [L2.lw, hl2]
        have hwin := hwin ws2 ss2 L2
        simp only [PP, P1, P2, P3, P4, P5, P6, P7, P8, P9, P10, P11, P12, P13, P14, L1, P15, N1, N2, N3, N4, N5, N6, N7, I1, I2, I3, I4, I5, I6, I7, reduceIte, reduceCtorEq, lw2]
        refine loop1 (fun (k : Nat) => k ≤ (wL ws 0 ow.length).length) (fun k => [.junk, .ptr 0 0 0, .junk, slI false true .i64 (natI (wL ws 0 ow.length)), slI false true .i64 (natI (wL ws 1 ow.length)), .junk, p64 0, .junk, .junk, .junk, .ptr 2 0 0, .junk, p64 k, .junk, .junk, .junk, .junk, .junk, .junk, .junk, .junk, .junk, .junk, .junk, .junk, .junk, .junk, .junk, .junk, .junk, .junk, .junk, .junk, .junk, .junk, .junk, .junk, .junk, .junk, .junk, .junk, .junk, .junk, .junk, .junk, .junk, .junk, .junk, .junk, .junk, .junk, .junk, .junk, .junk, .junk, .junk, .junk, .junk, .junk, .junk, .junk, .junk, .junk, .junk, .junk, .junk, .junk, .junk, .junk, .junk, .junk, .junk, .junk, .junk, .junk, .junk, .junk, .junk, .junk, .junk, .junk, .junk, .junk, .junk, .junk])
          (fun _ => [.cells 0 0 [slI false false .u8 ow, slI false false .i64 pr, slR false false false false .i64 su], .cells 0 1 [slI false true .u8 o2, slI false true .i64 p2, slR false true false true .i64 s2], .cells 0 1 [slI false true .u8 ws2, slI false true .i64 ss2]]) (fun k => (wL ws 0 ow.length).length - k) 0 (by omega) (by simp only [PWeak_nil, PWeak_junk, PWeak_same, Int.cast_ofNat_Int, List.length_append, List.length_cons, List.length_nil, Nat.zero_add]) rfl ?_
        intro k hkl ih2
        refine SemW_go (by kernel_rfl) ?_
        simp only [PP, P1, P2, P3, P4, P5, P6, P7, P8, P9, P10, P11, P12, P13, P14, L1, P15, N1, N2, N3, N4, N5, N6, N7, I1, I2, I3, I4, I5, I6, I7, reduceIte, reduceCtorEq, lw2]
        refine QIf.intro (fun d => ?_) (fun d => ?_)
        · have k0 : (0 : Int) ≤ k := by omega
          have hwk := wrap_succ (k := k) (by show _ < 1000000000000; omega)
          obtain ⟨x, g1⟩ := some_of (xs := ws2) (k := k) (by omega)
          have hx := hwin k (by omega)
          rw [getD_some g1] at hx
          subst hx
          have hwx : IntKind.i64.wrap 0 = 0 := rfl
          simp only [PP, P1, P2, P3, P4, P5, P6, P7, P8, P9, P10, P11, P12, P13, P14, L1, P15, N1, N2, N3, N4, N5, N6, N7, I1, I2, I3, I4, I5, I6, I7, reduceIte, reduceCtorEq, d, k0, g1, lw2, hwx, hwk]
          exact SemW_weak (ih2 (k + 1) (by omega) (by omega)) (by simp only [PWeak_nil, PWeak_junk, PWeak_same, Int.cast_ofNat_Int, List.length_append, List.length_cons, List.length_nil, Nat.zero_add])
        · simp only [PP, P1, P2, P3, P4, P5, P6, P7, P8, P9, P10, P11, P12, P13, P14, L1, P15, N1, N2, N3, N4, N5, N6, N7, I1, I2, I3, I4, I5, I6, I7, reduceIte, reduceCtorEq, d, hwp]
          refine SemW_re (GStep.drop (b := [.junk, .ptr 0 0 0, .junk, slI false true .i64 (natI (wL ws 0 ow.length)), slI false true .i64 (natI (wL ws 1 ow.length)), .junk, p64 1, .junk, .junk, .junk, .junk, .junk, .junk, .junk, .junk, .junk, .junk, .junk, .junk, .junk, .junk, .junk, .junk, .junk, .junk, .junk, .junk, .junk, .junk, .junk, .junk, .junk, .junk, .junk, .junk, .junk, .junk, .junk, .junk, .junk, .junk, .junk, .junk, .junk, .junk, .junk, .junk, .junk, .junk, .junk, .junk, .junk, .junk, .junk, .junk, .junk, .junk, .junk, .junk, .junk, .junk, .junk, .junk, .junk, .junk, .junk, .junk, .junk, .junk, .junk, .junk, .junk, .junk, .junk, .junk, .junk, .junk, .junk, .junk, .junk, .junk, .junk, .junk, .junk, .junk]) 1 (Nat.zero_le _) (by simp) (by simp only [PWeak_nil, PWeak_junk, PWeak_same, Int.cast_ofNat_Int, List.length_append, List.length_cons, List.length_nil, Nat.zero_add]) (by simp only [PP, P1, P2, P3, P4, P5, P6, P7, P8, P9, P10, P11, P12, P13, P14, L1, P15, N1, N2, N3, N4, N5, N6, N7, I1, I2, I3, I4, I5, I6, I7, reduceIte, reduceCtorEq]) (by simp only [PP, P1, P2, P3, P4, P5, P6, P7, P8, P9, P10, P11, P12, P13, P14, L1, P15, N1, N2, N3, N4, N5, N6, N7, I1, I2, I3, I4, I5, I6, I7, reduceIte, reduceCtorEq]) rfl) ?_
          exact SemW_to (ih 1 (by omega) (by omega)) (by simp only [PWeak_nil, PWeak_junk, PWeak_same, Int.cast_ofNat_Int, List.length_append, List.length_cons, List.length_nil, Nat.zero_add]) rfl
      · have hwp : IntKind.i64.wrap 2 = 2 := rfl
        have hri := wL_rise ws 1 ow.length
        have hrl := wL_len ws 1 ow.length
        have hrow := region_rows V L (p := 1) (by omega)
        have kb : (natI (wL ws 1 ow.length)).length < big := by show _ < 1000000000000; rw [List.length_map]; omega
        simp only [PP, P1, P2, P3, P4, P5, P6, P7, P8, P9, P10, P11, P12, P13, P14, L1, P15, N1, N2, N3, N4, N5, N6, N7, I1, I2, I3, I4, I5, I6, I7, reduceIte, reduceCtorEq]
        refine QIf.intro (fun c2 => ?_) (fun c2 => ?_)
        · simp only [PP, P1, P2, P3, P4, P5, P6, P7, P8, P9, P10, P11, P12, P13, P14, L1, P15, N1, N2, N3, N4, N5, N6, N7, I1, I2, I3, I4, I5, I6, I7, reduceIte, reduceCtorEq, c2, hwp]
          exact SemW_weak (ih 2 (by omega) (by omega)) (by simp only [PWeak_nil, PWeak_junk, PWeak_same, Int.cast_ofNat_Int, List.length_append, List.length_cons, List.length_nil, Nat.zero_add])
        have hV2 := restrict_valid V hri.1 hri.2 (by rw [List.length_map]; omega) hrow
        have hwin := fun ws2 ss2 L2 => restrict_wins V ho L (p := 1) (by omega) (ws2 := ws2) (ss2 := ss2) L2
        have hrm : restrictM ow pr su (natI (wL ws 1 ow.length)) = .tuple [gmP false true false true false true false true ((natI (wL ws 1 ow.length)).map fun v => ow.getD v.toNat 0) ((natI (wL ws 1 ow.length)).map fun v => pr.getD v.toNat 0) ((natI (wL ws 1 ow.length)).map fun v => rowM (natI (wL ws 1 ow.length)) (su.getD v.toNat [])), p64 0] := by
          have w0 : wrongM ow pr su 0 (natI (wL ws 1 ow.length)) = 0 := by
            unfold wrongM
            rw [if_pos c1, if_neg (by omega), if_pos (posM_of hri.1 hri.2)]
          unfold restrictM
          rw [if_pos w0, if_neg (by rw [List.length_map]; omega), if_neg (fun ⟨v, h1, h2⟩ => hrow v h1 h2)]
        have hB2 : Bnd ((natI (wL ws 1 ow.length)).map fun v => ow.getD v.toNat 0) ((natI (wL ws 1 ow.length)).map fun v => pr.getD v.toNat 0) ((natI (wL ws 1 ow.length)).map fun v => rowM (natI (wL ws 1 ow.length)) (su.getD v.toNat [])) := by
          refine ⟨by rw [List.length_map]; exact kb, by rw [List.length_map]; exact kb, by rw [List.length_map]; exact kb, fun r hr => ?_⟩
          obtain ⟨v, hv, rfl⟩ := List.mem_map.1 hr
          unfold rowM
          rw [List.length_map]
          refine Nat.lt_of_le_of_lt (List.length_filter_le _ _) ?_
          rw [List.getD]
          cases hx : su[v.toNat]? with
          | none => show 0 < 1000000000000; omega
          | some row => exact B.r row (List.mem_of_getElem? hx)
        have ho2 : ∀ x ∈ (natI (wL ws 1 ow.length)).map fun v => ow.getD v.toNat 0, 0 ≤ x := fun x hx => by
          obtain ⟨v, hv, rfl⟩ := List.mem_map.1 hx
          rw [List.getD]
          cases hx : ow[v.toNat]? with
          | none => exact Int.le_refl _
          | some y => exact ho y (List.mem_of_getElem? hx)
        have hl2 : ((natI (wL ws 1 ow.length)).map fun v => ow.getD v.toNat 0).length = (wL ws 1 ow.length).length := by rw [List.length_map, List.length_map]
        simp only [PP, P1, P2, P3, P4, P5, P6, P7, P8, P9, P10, P11, P12, P13, P14, L1, P15, N1, N2, N3, N4, N5, N6, N7, I1, I2, I3, I4, I5, I6, I7, reduceIte, reduceCtorEq, c2]
        refine restrict_p T B kb ?_
        rw [hrm]
        generalize ((natI (wL ws 1 ow.length)).map fun v => ow.getD v.toNat 0) = o2 at *
        generalize ((natI (wL ws 1 ow.length)).map fun v => pr.getD v.toNat 0) = p2 at *
        generalize ((natI (wL ws 1 ow.length)).map fun v => rowM (natI (wL ws 1 ow.length)) (su.getD v.toNat [])) = s2 at *
        simp only [PP, P1, P2, P3, P4, P5, P6, P7, P8, P9, P10, P11, P12, P13, P14, L1, P15, N1, N2, N3, N4, N5, N6, N7, I1, I2, I3, I4, I5, I6, I7, reduceIte, reduceCtorEq]
        refine solve_p T hB2 ho2 (fun c3 => absurd (check_of hV2) c3) (fun c3 ws2 ss2 L2 => ?_)
        have lw2 : ws2.length = (wL ws 1 ow.length).length := by rw [L2.lw, hl2]
        have hwin := hwin ws2 ss2 L2
        simp only [PP, P1, P2, P3, P4, P5, P6, P7, P8, P9, P10, P11, P12, P13, P14, L1, P15, N1, N2, N3, N4, N5, N6, N7, I1, I2, I3, I4, I5, I6, I7, reduceIte, reduceCtorEq, lw2]
        refine loop1 (fun (k : Nat) => k ≤ (wL ws 1 ow.length).length) (fun k => [.junk, .ptr 0 0 0, .junk, slI false true .i64 (natI (wL ws 0 ow.length)), slI false true .i64 (natI (wL ws 1 ow.length)), .junk, p64 1, .junk, .junk, .junk, .ptr 2 0 0, .junk, p64 k, .junk, .junk, .junk, .junk, .junk, .junk, .junk, .junk, .junk, .junk, .junk, .junk, .junk, .junk, .junk, .junk, .junk, .junk, .junk, .junk, .junk, .junk, .junk, .junk, .junk, .junk, .junk, .junk, .junk, .junk, .junk, .junk, .junk, .junk, .junk, .junk, .junk, .junk, .junk, .junk, .junk, .junk, .junk, .junk, .junk, .junk, .junk, .junk, .junk, .junk, .junk, .junk, .junk, .junk, .junk, .junk, .junk, .junk, .junk, .junk, .junk, .junk, .junk, .junk, .junk, .junk, .junk, .junk, .junk, .junk, .junk, .junk])
          (fun _ => [.cells 0 0 [slI false false .u8 ow, slI false false .i64 pr, slR false false false false .i64 su], .cells 0 1 [slI false true .u8 o2, slI false true .i64 p2, slR false true false true .i64 s2], .cells 0 1 [slI false true .u8 ws2, slI false true .i64 ss2]]) (fun k => (wL ws 1 ow.length).length - k) 0 (by omega) (by simp only [PWeak_nil, PWeak_junk, PWeak_same, Int.cast_ofNat_Int, List.length_append, List.length_cons, List.length_nil, Nat.zero_add]) rfl ?_
        intro k hkl ih2
        refine SemW_go (by kernel_rfl) ?_
        simp only [PP, P1, P2, P3, P4, P5, P6, P7, P8, P9, P10, P11, P12, P13, P14, L1, P15, N1, N2, N3, N4, N5, N6, N7, I1, I2, I3, I4, I5, I6, I7, reduceIte, reduceCtorEq, lw2]
        refine QIf.intro (fun d => ?_) (fun d => ?_)
        · have k0 : (0 : Int) ≤ k := by omega
          have hwk := wrap_succ (k := k) (by show _ < 1000000000000; omega)
          obtain ⟨x, g1⟩ := some_of (xs := ws2) (k := k) (by omega)
          have hx := hwin k (by omega)
          rw [getD_some g1] at hx
          subst hx
          have hwx : IntKind.i64.wrap 1 = 1 := rfl
          simp only [PP, P1, P2, P3, P4, P5, P6, P7, P8, P9, P10, P11, P12, P13, P14, L1, P15, N1, N2, N3, N4, N5, N6, N7, I1, I2, I3, I4, I5, I6, I7, reduceIte, reduceCtorEq, d, k0, g1, lw2, hwx, hwk]
          exact SemW_weak (ih2 (k + 1) (by omega) (by omega)) (by simp only [PWeak_nil, PWeak_junk, PWeak_same, Int.cast_ofNat_Int, List.length_append, List.length_cons, List.length_nil, Nat.zero_add])
        · simp only [PP, P1, P2, P3, P4, P5, P6, P7, P8, P9, P10, P11, P12, P13, P14, L1, P15, N1, N2, N3, N4, N5, N6, N7, I1, I2, I3, I4, I5, I6, I7, reduceIte, reduceCtorEq, d, hwp]
          refine SemW_re (GStep.drop (b := [.junk, .ptr 0 0 0, .junk, slI false true .i64 (natI (wL ws 0 ow.length)), slI false true .i64 (natI (wL ws 1 ow.length)), .junk, p64 2, .junk, .junk, .junk, .junk, .junk, .junk, .junk, .junk, .junk, .junk, .junk, .junk, .junk, .junk, .junk, .junk, .junk, .junk, .junk, .junk, .junk, .junk, .junk, .junk, .junk, .junk, .junk, .junk, .junk, .junk, .junk, .junk, .junk, .junk, .junk, .junk, .junk, .junk, .junk, .junk, .junk, .junk, .junk, .junk, .junk, .junk, .junk, .junk, .junk, .junk, .junk, .junk, .junk, .junk, .junk, .junk, .junk, .junk, .junk, .junk, .junk, .junk, .junk, .junk, .junk, .junk, .junk, .junk, .junk, .junk, .junk, .junk, .junk, .junk, .junk, .junk, .junk, .junk]) 1 (Nat.zero_le _) (by simp) (by simp only [PWeak_nil, PWeak_junk, PWeak_same, Int.cast_ofNat_Int, List.length_append, List.length_cons, List.length_nil, Nat.zero_add]) (by simp only [PP, P1, P2, P3, P4, P5, P6, P7, P8, P9, P10, P11, P12, P13, P14, L1, P15, N1, N2, N3, N4, N5, N6, N7, I1, I2, I3, I4, I5, I6, I7, reduceIte, reduceCtorEq]) (by simp only [PP, P1, P2, P3, P4, P5, P6, P7, P8, P9, P10, P11, P12, P13, P14, L1, P15, N1, N2, N3, N4, N5, N6, N7, I1, I2, I3, I4, I5, I6, I7, reduceIte, reduceCtorEq]) rfl) ?_
          exact SemW_to (ih 2 (by omega) (by omega)) (by simp only [PWeak_nil, PWeak_junk, PWeak_same, Int.cast_ofNat_Int, List.length_append, List.length_cons, List.length_nil, Nat.zero_add]) rfl
end
end Go.Am.Ar

set_option linter.unusedVariables false
set_option linter.unusedSimpArgs false
namespace Go.Am.Ar

/-- The type of games. -/
abbrev gameTy : Ty := .pair (.slice (.int .u8)) (.pair (.slice (.int .i64)) (.pair (.slice (.slice (.int .i64))) .unit))

/-- What is known of the numbers of a game that a law gets. -/
structure Nums (ow pr : List Int) (su : List (List Int)) : Prop where
  o : ∀ x ∈ ow, 0 ≤ x ∧ x ≤ 255
  p : ∀ x ∈ pr, -9223372036854775808 ≤ x ∧ x ≤ 9223372036854775807
  s : ∀ r ∈ su, ∀ x ∈ r, -9223372036854775808 ≤ x ∧ x ≤ 9223372036854775807
  lo : ow.length ≤ 9223372036854775807
  lp : pr.length ≤ 9223372036854775807
  ls : su.length ≤ 9223372036854775807
  lr : ∀ r ∈ su, r.length ≤ 9223372036854775807

theorem arg_game {v : AV} {h : H} (hs : ShV gameTy v h) : ∃ (ow pr : List Int) (su : List (List Int)), RepV (wH h) (gmP false false false false false false false false ow pr su) v ∧ Nums ow pr su := by
  obtain ⟨avs, hs, rfl⟩ := hs
  obtain ⟨c1, c2, rfl, h1, c3, c4, rfl, h2, c5, c6, rfl, h3, h4⟩ := hs
  have h4 : c6 = [] := h4
  subst h4
  obtain ⟨vo, ow, rfl, p1, q1, r1⟩ := sh_intsP h1
  obtain ⟨vp, pr, rfl, p2, q2, r2⟩ := sh_intsP h2
  obtain ⟨vs, su, rfl, p3, q3, r3⟩ := sh_rowsP h3
  refine ⟨ow, pr, su, ?_, ⟨r1, r2, fun r hr => (r3 r hr).2, q1, q2, q3, fun r hr => (r3 r hr).1⟩⟩
  have := RepL.cons p1 (.cons p2 (.cons p3 (.nil (wH h))))
  exact .agg this.len this.get
theorem arg_ints {k : IntKind} {v : AV} {h : H} (hs : ShV (.slice (.int k)) v h) : ∃ (xs : List Int), RepV (wH h) (slI false false k xs) v ∧ xs.length ≤ 9223372036854775807 ∧ ∀ x ∈ xs, k.min ≤ x ∧ x ≤ k.max := by
  obtain ⟨avs, hs, rfl⟩ := hs
  obtain ⟨v, xs, rfl, p, q, r⟩ := sh_intsP hs
  exact ⟨xs, p, q, r⟩
theorem arg_int {k : IntKind} {v : AV} {h : H} (hs : ShV (.int k) v h) : ∃ (x : Int), v = .int k x ∧ RepV (wH h) (.int k x) v ∧ k.min ≤ x ∧ x ≤ k.max := by
  obtain ⟨avs, hs, rfl⟩ := hs
  obtain ⟨x, rfl, p⟩ := hs
  exact ⟨x, rfl, .int k x, p⟩

theorem run_of_C {tab : FuncId → Option AF} {g : FuncId} {args : List AV} {h : H} (hc : C (lim tab) g args h fun v _ => v = .bool true) : ∃ n h', (run tab n).call g args h = some (.bool true, h') := by
  unfold C at hc
  obtain ⟨v, h', he, rfl⟩ := hc
  obtain ⟨n, hn⟩ := (lim_call_iff tab).1 he
  exact ⟨n, h', hn⟩
theorem shVs1 {A : Ty} {args : List AV} {h : H} (hs : ShVs [A] args h) : ∃ a, args = [a] ∧ ShV A a h := by
  match args, hs with
  | [a], ⟨h1, _⟩ => exact ⟨a, rfl, h1⟩
theorem shVs2 {A B : Ty} {args : List AV} {h : H} (hs : ShVs [A, B] args h) : ∃ a b, args = [a, b] ∧ ShV A a h ∧ ShV B b h := by
  match args, hs with
  | [a, b], ⟨h1, h2, _⟩ => exact ⟨a, b, rfl, h1, h2⟩
theorem shVs3 {A B D : Ty} {args : List AV} {h : H} (hs : ShVs [A, B, D] args h) : ∃ a b d, args = [a, b, d] ∧ ShV A a h ∧ ShV B b h ∧ ShV D d h := by
  match args, hs with
  | [a, b, d], ⟨h1, h2, h3, _⟩ => exact ⟨a, b, d, rfl, h1, h2, h3⟩
theorem shVs4 {A B D E : Ty} {args : List AV} {h : H} (hs : ShVs [A, B, D, E] args h) : ∃ a b d e, args = [a, b, d, e] ∧ ShV A a h ∧ ShV B b h ∧ ShV D d h ∧ ShV E e h := by
  match args, hs with
  | [a, b, d, e], ⟨h1, h2, h3, h4, _⟩ => exact ⟨a, b, d, e, rfl, h1, h2, h3, h4⟩
theorem shVs5 {A B D E F : Ty} {args : List AV} {h : H} (hs : ShVs [A, B, D, E, F] args h) : ∃ a b d e f, args = [a, b, d, e, f] ∧ ShV A a h ∧ ShV B b h ∧ ShV D d h ∧ ShV E e h ∧ ShV F f h := by
  match args, hs with
  | [a, b, d, e, f], ⟨h1, h2, h3, h4, h5, _⟩ => exact ⟨a, b, d, e, f, rfl, h1, h2, h3, h4, h5⟩
end Go.Am.Ar

set_option linter.unusedVariables false
namespace Go.Am.Ar
theorem zrestrict_all {tab : FuncId → Option AF} (T : HasA tab) (args : List AV) (h : H) (hs : ShVs [gameTy] args h) :
    ∃ n h', (run tab n).call 7 args h = some (.bool true, h') := by
  obtain ⟨a, rfl, ha⟩ := shVs1 hs
  obtain ⟨ow, pr, su, r1, N⟩ := arg_game ha
  exact run_of_C (law_of_sem (.cons r1 (.nil _)) (zrestrict_p T (fun x hx => (N.o x hx).1)))
end Go.Am.Ar
