/- Contract: what a player loses (sentinelref30.Loses), and what goes with it. -/
import Derived.Test.YtkbdnbmnopmhdaaCertifyRefutesG1
import Derived.Test.YtkbdnbmnopmhdaaCertifyRefutesG2
import Derived.Test.YtkbdnbmnopmhdaaCertifyRefutesG0
set_option linter.unusedVariables false
set_option linter.unusedSimpArgs false
set_option maxRecDepth 10000
namespace Go.Am.Ar
open Go.Am renaming pchk → P1, pold → P2, PKNo → P3, ppack → P4, PObj.under → P5, pput → P6, ptset → P7, ptget → P8, pev → P9, ofAV → P10, ofAV1 → P11, ppad → P12, pfill → P13, prepl → P14, AO.effect → P15
open List renaming replicate → L1
open Nat renaming reduceAdd → N1, reduceSub → N2, reduceMul → N3, reduceLT → N4, reduceLeDiff → N5, reduceEqDiff → N6, reduceBEq → N7
open Int renaming reduceToNat → I1, reduceLT → I2, reduceLE → I3, reduceEq → I4, reduceAdd → I5, reduceSub → I6, reduceNeg → I7
theorem set_bm {w : List Bool} {v u : Nat} {b : Bool} (hv : v < w.length) : bm (w.set v b) u ↔ if u = v then b = true else bm w u := by
  unfold bm
  by_cases e : u = v
  · subst e; simp [hv]
  · rw [List.getElem?_set_ne (by omega), if_neg e]
theorem Rch.tgt {E : Nat → Nat → Prop} {Q : Nat → Prop} {v u : Nat} (h : Rch E Q v u) : ∃ a, E a u := by
  cases h with
  | one h1 _ => exact ⟨_, h1⟩
  | more _ h1 _ => exact ⟨_, h1⟩
theorem Rch.cond {E : Nat → Nat → Prop} {Q Q' : Nat → Prop} {v u : Nat} (h : Rch E Q v u) (hE : ∀ a b, E a b → Q b → Q' b) : Rch E Q' v u := by
  induction h with
  | one h1 h2 => exact .one h1 (hE _ _ h1 h2)
  | more _ h1 h2 ih => exact .more ih h1 (hE _ _ h1 h2)
theorem no_bm {n : Nat} (v : Nat) : ¬ bm (List.replicate n false) v := fun h => by
  unfold bm at h
  rw [List.getElem?_replicate] at h
  split at h
  · cases h
  · cases h
section
variable {tab : FuncId → Option AF} (T : HasA tab)
include T
set_option maxHeartbeats 1000000 in
theorem loses_p {M : Mem} {K : PV → Mem → Prop} {f1 o1 f2 o2 f3 o3 f4 o4 f5 o5 f6 o6 : Bool} {ow pr : List Int} {su0 su : List (List Int)} {p : Int} (R : RowsIn su) (hs : su.length = ow.length) (hp : pr.length = ow.length) (hp0 : 0 ≤ p) (hp1 : p ≤ 1) (hpr : ∀ x ∈ pr, 0 ≤ x)
    (hk : ∀ l : List Bool, l.length = ow.length → (∀ v, v < ow.length → (bm l v ↔ Lost (fun a b => b ∈ Sf su a) (zP pr) p v)) → K (slB false true l) M) :
    SemC tab 62 [gmP f1 o1 f2 o2 f3 o3 f4 o4 ow pr su0, p8 p, slR f5 o5 f6 o6 .i64 su] M K := by
  have hR := R
  obtain ⟨hn, hr⟩ := R
  have tgt : ∀ a b, b ∈ Sf su a → b < ow.length := fun a b h => by
    unfold Sf at h
    by_cases ha : a < su.length
    · rw [List.getD, List.getElem?_eq_getElem ha] at h
      obtain ⟨x, hx, rfl⟩ := List.mem_map.1 h
      have := (hr _ (List.getElem_mem ha)).2 x hx
      omega
    · rw [List.getD, List.getElem?_eq_none (by omega)] at h; cases h
  refine SemC_pureS T.h62 (by simp only [PP, P1, P2, P3, P4, P5, P6, P7, P8, P9, P10, P11, P12, P13, P14, L1, P15, N1, N2, N3, N4, N5, N6, N7, I1, I2, I3, I4, I5, I6, I7, reduceIte, reduceCtorEq]) ?_
  simp only [af62]
  have b0 : (0 : Int) ≤ ow.length := by omega
  have b1 : (ow.length : Int) * 1 ≤ 140737488355328 := by omega
  have b2 : (ow.length : Int) ≤ 9223372036854775807 := by omega
  have c1 : ow.length * 1 ≤ 140737488355328 := by omega
  have c2 : ow.length ≤ 9223372036854775807 := by omega
  have hwp : IntKind.i64.wrap p = p := wrap64 (by omega) (by omega)
  refine SemW_seq (SemW_of ?_)
  simp only [PP, P1, P2, P3, P4, P5, P6, P7, P8, P9, P10, P11, P12, P13, P14, L1, P15, N1, N2, N3, N4, N5, N6, N7, I1, I2, I3, I4, I5, I6, I7, reduceIte, reduceCtorEq]
  refine SemW_seq (SemW_of ?_)
  simp only [PP, P1, P2, P3, P4, P5, P6, P7, P8, P9, P10, P11, P12, P13, P14, L1, P15, N1, N2, N3, N4, N5, N6, N7, I1, I2, I3, I4, I5, I6, I7, reduceIte, reduceCtorEq]
  refine SemW_seq (SemW_of ?_)
  simp only [PP, P1, P2, P3, P4, P5, P6, P7, P8, P9, P10, P11, P12, P13, P14, L1, P15, N1, N2, N3, N4, N5, N6, N7, I1, I2, I3, I4, I5, I6, I7, reduceIte, reduceCtorEq, b0, b1, b2, Int.le_refl]
  refine SemW_seq (SemW_of ?_)
  simp only [PP, P1, P2, P3, P4, P5, P6, P7, P8, P9, P10, P11, P12, P13, P14, L1, P15, N1, N2, N3, N4, N5, N6, N7, I1, I2, I3, I4, I5, I6, I7, reduceIte, reduceCtorEq, b0, b1, b2, Int.le_refl]
  refine SemW_seq (SemW_of ?_)
  simp only [PP, P1, P2, P3, P4, P5, P6, P7, P8, P9, P10, P11, P12, P13, P14, L1, P15, N1, N2, N3, N4, N5, N6, N7, I1, I2, I3, I4, I5, I6, I7, reduceIte, reduceCtorEq]
  refine SemW_gh ?_
  refine loop3 (fun (k ver : Nat) (w : List Bool) => k ≤ ow.length ∧ w.length = ow.length ∧ ∀ v, v < k → w[v]? = some true)
    (fun k ver w => [.junk, p8 p, slR f5 o5 f6 o6 .i64 su, .ptr 0 0 0, .junk, .junk, .junk, p64 ow.length, .ref 1 0 1 0 ow.length, .ref 2 0 1 0 ow.length, p64 k, .junk, .junk, .junk, .junk, .junk, .junk, .junk, .junk, .junk, .junk, .junk, .junk, .junk, .junk, .junk, .junk, .junk, .junk, .junk, .junk, .junk, .junk, .junk, .junk, .junk, .junk, .junk, .junk, .junk, .junk, .junk, .junk, .junk, .junk, .junk, .junk, .junk, .junk, .junk, .junk, .junk, .junk, .junk, .junk, .junk, .junk, .junk, .junk, .junk, .junk, .junk, .junk, .junk, .junk, .junk, .junk, .junk, .junk, .junk, .junk, .junk, .junk, .junk, .junk, .junk, .junk, .junk, .junk, .junk, .junk, .junk, .junk, .junk, .junk, .junk, .junk, .junk, .junk, .junk, .junk, .junk, .junk, .junk, .junk, .junk, .junk, .junk, .junk, .junk, .junk, .junk, .junk, .junk, .junk, .junk, .junk, .junk, .junk, .junk, .junk, .junk, .junk, .junk])
    (fun k ver w => [.cells 0 0 [slI f1 o1 .u8 ow, slI f2 o2 .i64 pr, slR f3 o3 f4 o4 .i64 su0], .cells 0 0 ((List.replicate ow.length false).map PV.bool), .cells 0 ver (w.map PV.bool)])
    (fun k _ _ => ow.length - k) 0 0 (List.replicate ow.length false) ⟨by omega, by simp, by intro v h; omega⟩ (by simp only [PWeak_nil, PWeak_junk, PWeak_same, Int.cast_ofNat_Int, List.length_append, List.length_cons, List.length_nil, Nat.zero_add]) (by simp only [List.map_replicate]) ?_
  intro k ver w ⟨hle, hw, hget⟩ ih
  refine SemW_go (by kernel_rfl) ?_
  simp only [PP, P1, P2, P3, P4, P5, P6, P7, P8, P9, P10, P11, P12, P13, P14, L1, P15, N1, N2, N3, N4, N5, N6, N7, I1, I2, I3, I4, I5, I6, I7, reduceIte, reduceCtorEq]
  refine QIf.intro (fun c => ?_) (fun c => ?_)
  · have hk' : k < ow.length := by omega
    have k0 : (0 : Int) ≤ k := by omega
    have k1 : k + 1 ≤ ow.length := hk'
    have hwk := wrap_succ (k := k) (by show _ < 1000000000000; omega)
    simp only [PP, P1, P2, P3, P4, P5, P6, P7, P8, P9, P10, P11, P12, P13, P14, L1, P15, N1, N2, N3, N4, N5, N6, N7, I1, I2, I3, I4, I5, I6, I7, reduceIte, reduceCtorEq, c, k0, k1, hw, hwk]
    refine SemW_to (ih (k + 1) (ver + 1) (w.set k true) ⟨by omega, by simp [hw], fun v hv => ?_⟩ (by omega)) (by simp only [PWeak_nil, PWeak_junk, PWeak_same, Int.cast_ofNat_Int, List.length_append, List.length_cons, List.length_nil, Nat.zero_add]) (by simp only [← List.map_set])
    by_cases e : v = k
    · subst e; rw [List.getElem?_set_self (by omega)]
    · rw [List.getElem?_set_ne (by omega)]; exact hget v (by omega)
  have hkn : k = ow.length := by omega
  subst hkn
  have hall : ∀ v, bm w v ↔ v < ow.length := fun v => ⟨fun h => by rw [← hw]; exact bm_lt h, fun h => hget v h⟩
  simp only [PP, P1, P2, P3, P4, P5, P6, P7, P8, P9, P10, P11, P12, P13, P14, L1, P15, N1, N2, N3, N4, N5, N6, N7, I1, I2, I3, I4, I5, I6, I7, reduceIte, reduceCtorEq, c]
  refine Gh.step (GStep.freeze (b := [.junk, p8 p, slR f5 o5 f6 o6 .i64 su, .ptr 0 0 0, .junk, .junk, .junk, p64 ow.length, .ref 1 0 1 0 ow.length, slB false true w, .junk, .junk, .junk, .junk, .junk, .junk, .junk, .junk, .junk, .junk, .junk, .junk, .junk, .junk, .junk, .junk, .junk, .junk, .junk, .junk, .junk, .junk, .junk, .junk, .junk, .junk, .junk, .junk, .junk, .junk, .junk, .junk, .junk, .junk, .junk, .junk, .junk, .junk, .junk, .junk, .junk, .junk, .junk, .junk, .junk, .junk, .junk, .junk, .junk, .junk, .junk, .junk, .junk, .junk, .junk, .junk, .junk, .junk, .junk, .junk, .junk, .junk, .junk, .junk, .junk, .junk, .junk, .junk, .junk, .junk, .junk, .junk, .junk, .junk, .junk, .junk, .junk, .junk, .junk, .junk, .junk, .junk, .junk, .junk, .junk, .junk, .junk, .junk, .junk, .junk, .junk, .junk, .junk, .junk, .junk, .junk, .junk, .junk, .junk, .junk, .junk, .junk, .junk, .junk]) 2 (by omega) rfl (by
    simp only [PFrz_junk, PFrz_same]
    rw [PFrz_ref (by rw [List.length_map, hw]; omega) (by rw [Nat.mul_one, psub_all _ _ (by simp [hw])]; unfold slB; rw [hw])]
    simp only [PFrz_nil, PFrz_junk, PFrz_same]) rfl) (Gh.same ?_)
  simp only [PP, P1, P2, P3, P4, P5, P6, P7, P8, P9, P10, P11, P12, P13, P14, L1, P15, N1, N2, N3, N4, N5, N6, N7, I1, I2, I3, I4, I5, I6, I7, reduceIte, reduceCtorEq]
  -- the bad positions
  refine SemW_seq (SemW_of ?_)
  simp only [PP, P1, P2, P3, P4, P5, P6, P7, P8, P9, P10, P11, P12, P13, P14, L1, P15, N1, N2, N3, N4, N5, N6, N7, I1, I2, I3, I4, I5, I6, I7, reduceIte, reduceCtorEq]
  refine loop3 (fun (k ver : Nat) (o : List Bool) => k ≤ ow.length ∧ o.length = ow.length ∧ ∀ v, bm o v ↔ v < k ∧ Bad (fun a b => b ∈ Sf su a) (zP pr) p v)
    (fun k ver o => [.junk, p8 p, slR f5 o5 f6 o6 .i64 su, .ptr 0 0 0, .junk, .junk, .junk, p64 ow.length, .ref 1 0 1 0 ow.length, slB false true w, .junk, p64 k, .junk, .junk, .junk, .junk, .junk, .junk, .junk, .junk, .junk, .junk, .junk, .junk, .junk, .junk, .junk, .junk, .junk, .junk, .junk, .junk, .junk, .junk, .junk, .junk, .junk, .junk, .junk, .junk, .junk, .junk, .junk, .junk, .junk, .junk, .junk, .junk, .junk, .junk, .junk, .junk, .junk, .junk, .junk, .junk, .junk, .junk, .junk, .junk, .junk, .junk, .junk, .junk, .junk, .junk, .junk, .junk, .junk, .junk, .junk, .junk, .junk, .junk, .junk, .junk, .junk, .junk, .junk, .junk, .junk, .junk, .junk, .junk, .junk, .junk, .junk, .junk, .junk, .junk, .junk, .junk, .junk, .junk, .junk, .junk, .junk, .junk, .junk, .junk, .junk, .junk, .junk, .junk, .junk, .junk, .junk, .junk, .junk, .junk, .junk, .junk, .junk, .junk])
    (fun k ver o => [.cells 0 0 [slI f1 o1 .u8 ow, slI f2 o2 .i64 pr, slR f3 o3 f4 o4 .i64 su0], .cells 0 ver (o.map PV.bool), .gone])
    (fun k _ _ => ow.length - k) 0 0 (List.replicate ow.length false) ⟨by omega, by simp, fun v => ⟨fun h => absurd h (no_bm v), fun h => by omega⟩⟩ (by simp only [PWeak_nil, PWeak_junk, PWeak_same, Int.cast_ofNat_Int, List.length_append, List.length_cons, List.length_nil, Nat.zero_add]) (by simp only [PP, P1, P2, P3, P4, P5, P6, P7, P8, P9, P10, P11, P12, P13, P14, L1, P15, N1, N2, N3, N4, N5, N6, N7, I1, I2, I3, I4, I5, I6, I7, reduceIte, reduceCtorEq]) ?_
  intro k ver o ⟨hle, lo, hbad⟩ ih2
  refine SemW_go (by kernel_rfl) ?_
  simp only [PP, P1, P2, P3, P4, P5, P6, P7, P8, P9, P10, P11, P12, P13, P14, L1, P15, N1, N2, N3, N4, N5, N6, N7, I1, I2, I3, I4, I5, I6, I7, reduceIte, reduceCtorEq]
  refine QIf.intro (fun d => ?_) (fun d => ?_)
  · have hk' : k < ow.length := by omega
    have k0 : (0 : Int) ≤ k := by omega
    have kn : (k : Int) < ow.length := by omega
    have k1 : k + 1 ≤ ow.length := hk'
    have hwk := wrap_succ (k := k) (by show _ < 1000000000000; omega)
    obtain ⟨q, g1⟩ := some_of (xs := pr) (k := k) (by omega)
    have q0 := hpr q (List.mem_of_getElem? g1)
    have eq : zP pr k = q := getD_some g1
    have hrem : q.tmod 2 = q % 2 := Int.tmod_eq_emod_of_nonneg q0
    simp only [PP, P1, P2, P3, P4, P5, P6, P7, P8, P9, P10, P11, P12, P13, P14, L1, P15, N1, N2, N3, N4, N5, N6, N7, I1, I2, I3, I4, I5, I6, I7, reduceIte, reduceCtorEq, d, k0, kn, g1, hp, prem (show (2 : Int) ≠ 0 by decide), hrem, hwp]
    refine QIf.intro (fun e => ?_) (fun e => ?_)
    · simp only [PP, P1, P2, P3, P4, P5, P6, P7, P8, P9, P10, P11, P12, P13, P14, L1, P15, N1, N2, N3, N4, N5, N6, N7, I1, I2, I3, I4, I5, I6, I7, reduceIte, reduceCtorEq, e, hwk]
      refine SemW_weak (ih2 (k + 1) ver o ⟨by omega, lo, fun v => ?_⟩ (by omega)) (by simp only [PWeak_nil, PWeak_junk, PWeak_same, Int.cast_ofNat_Int, List.length_append, List.length_cons, List.length_nil, Nat.zero_add])
      rw [hbad v]
      refine ⟨fun h => ⟨by omega, h.2⟩, fun h => ⟨?_, h.2⟩⟩
      by_cases e2 : v = k
      · subst e2; exact absurd (eq ▸ e) h.2.1
      · omega
    simp only [PP, P1, P2, P3, P4, P5, P6, P7, P8, P9, P10, P11, P12, P13, P14, L1, P15, N1, N2, N3, N4, N5, N6, N7, I1, I2, I3, I4, I5, I6, I7, reduceIte, reduceCtorEq, e, b0, b1, b2, Int.le_refl]
    refine SemW_gh ?_
    refine loop3 (fun (j vr : Nat) (a : List Bool) => j ≤ ow.length ∧ a.length = ow.length ∧ ∀ u, u < j → a[u]? = some (decide (zP pr u ≤ q)))
      (fun j vr a => [.junk, p8 p, slR f5 o5 f6 o6 .i64 su, .ptr 0 0 0, .junk, .junk, .junk, p64 ow.length, .ref 1 0 1 0 ow.length, slB false true w, .junk, p64 k, .ref 3 0 1 0 ow.length, p64 j, .junk, .junk, .junk, .junk, .junk, .junk, .junk, .junk, .junk, .junk, .junk, .junk, .junk, .junk, .junk, .junk, .junk, .junk, .junk, .junk, .junk, .junk, .junk, .junk, .junk, .junk, .junk, .junk, .junk, .junk, .junk, .junk, .junk, .junk, .junk, .junk, .junk, .junk, .junk, .junk, .junk, .junk, .junk, .junk, .junk, .junk, .junk, .junk, .junk, .junk, .junk, .junk, .junk, .junk, .junk, .junk, .junk, .junk, .junk, .junk, .junk, .junk, .junk, .junk, .junk, .junk, .junk, .junk, .junk, .junk, .junk, .junk, .junk, .junk, .junk, .junk, .junk, .junk, .junk, .junk, .junk, .junk, .junk, .junk, .junk, .junk, .junk, .junk, .junk, .junk, .junk, .junk, .junk, .junk, .junk, .junk, .junk, .junk, .junk, .junk])
      (fun j vr a => [.cells 0 0 [slI f1 o1 .u8 ow, slI f2 o2 .i64 pr, slR f3 o3 f4 o4 .i64 su0], .cells 0 ver (o.map PV.bool), .gone, .cells 0 vr (a.map PV.bool)])
      (fun j _ _ => ow.length - j) 0 0 (List.replicate ow.length false) ⟨by omega, by simp, by intro v h; omega⟩ (by simp only [PWeak_nil, PWeak_junk, PWeak_same, Int.cast_ofNat_Int, List.length_append, List.length_cons, List.length_nil, Nat.zero_add]) (by simp only [List.map_replicate]) ?_
    intro j vr a ⟨hle3, la, hga⟩ ih3
    refine SemW_go (by kernel_rfl) ?_
    simp only [PP, P1, P2, P3, P4, P5, P6, P7, P8, P9, P10, P11, P12, P13, P14, L1, P15, N1, N2, N3, N4, N5, N6, N7, I1, I2, I3, I4, I5, I6, I7, reduceIte, reduceCtorEq]
    refine QIf.intro (fun x => ?_) (fun x => ?_)
    · have hj : j < ow.length := by omega
      have j0 : (0 : Int) ≤ j := by omega
      have jn : (j : Int) < ow.length := by omega
      have j1 : j + 1 ≤ ow.length := hj
      have hwj := wrap_succ (k := j) (by show _ < 1000000000000; omega)
      obtain ⟨r, g2⟩ := some_of (xs := pr) (k := j) (by omega)
      have er : zP pr j = r := getD_some g2
      simp only [PP, P1, P2, P3, P4, P5, P6, P7, P8, P9, P10, P11, P12, P13, P14, L1, P15, N1, N2, N3, N4, N5, N6, N7, I1, I2, I3, I4, I5, I6, I7, reduceIte, reduceCtorEq, x, j0, jn, j1, k0, kn, g1, g2, hp, la, hwj]
      refine SemW_to (ih3 (j + 1) (vr + 1) (a.set j (decide (r ≤ q))) ⟨by omega, by simp [la], fun u hu => ?_⟩ (by omega)) (by simp only [PWeak_nil, PWeak_junk, PWeak_same, Int.cast_ofNat_Int, List.length_append, List.length_cons, List.length_nil, Nat.zero_add]) (by simp only [← List.map_set])
      by_cases e : u = j
      · subst e; rw [List.getElem?_set_self (by omega), er]
      · rw [List.getElem?_set_ne (by omega)]; exact hga u (by omega)
    have hjn : j = ow.length := by omega
    subst hjn
    simp only [PP, P1, P2, P3, P4, P5, P6, P7, P8, P9, P10, P11, P12, P13, P14, L1, P15, N1, N2, N3, N4, N5, N6, N7, I1, I2, I3, I4, I5, I6, I7, reduceIte, reduceCtorEq, x]
    refine Gh.step (GStep.freeze (b := [.junk, p8 p, slR f5 o5 f6 o6 .i64 su, .ptr 0 0 0, .junk, .junk, .junk, p64 ow.length, .ref 1 0 1 0 ow.length, slB false true w, .junk, p64 k, slB false true a, .junk, .junk, .junk, .junk, .junk, .junk, .junk, .junk, .junk, .junk, .junk, .junk, .junk, .junk, .junk, .junk, .junk, .junk, .junk, .junk, .junk, .junk, .junk, .junk, .junk, .junk, .junk, .junk, .junk, .junk, .junk, .junk, .junk, .junk, .junk, .junk, .junk, .junk, .junk, .junk, .junk, .junk, .junk, .junk, .junk, .junk, .junk, .junk, .junk, .junk, .junk, .junk, .junk, .junk, .junk, .junk, .junk, .junk, .junk, .junk, .junk, .junk, .junk, .junk, .junk, .junk, .junk, .junk, .junk, .junk, .junk, .junk, .junk, .junk, .junk, .junk, .junk, .junk, .junk, .junk, .junk, .junk, .junk, .junk, .junk, .junk, .junk, .junk, .junk, .junk, .junk, .junk, .junk, .junk, .junk, .junk, .junk, .junk, .junk, .junk, .junk]) 3 (by omega) rfl (by
      simp only [PFrz_junk, PFrz_same]
      rw [PFrz_ref (by rw [List.length_map, la]; omega) (by rw [Nat.mul_one, psub_all _ _ (by simp [la])]; unfold slB; rw [la])]
      simp only [PFrz_nil, PFrz_junk, PFrz_same]) rfl) (Gh.same ?_)
    simp only [PP, P1, P2, P3, P4, P5, P6, P7, P8, P9, P10, P11, P12, P13, P14, L1, P15, N1, N2, N3, N4, N5, N6, N7, I1, I2, I3, I4, I5, I6, I7, reduceIte, reduceCtorEq]
    refine reach_p T hR (by omega) (by omega) (fun z lz hz => ?_)
    obtain ⟨y, gy⟩ := some_of (xs := z) (k := k) (by omega)
    have hza : bm z k ↔ Bad (fun a b => b ∈ Sf su a) (zP pr) p k := by
      rw [hz k]
      unfold Bad
      rw [eq]
      constructor
      · intro h
        refine ⟨e, h.cond fun a b hab hb => ?_⟩
        have hb2 := tgt a b hab
        rw [bm, hga b hb2] at hb
        simpa [eq] using hb
      · intro h
        refine h.2.cond fun a b hab hb => ?_
        rw [bm, hga b (tgt a b hab)]
        simpa [eq] using hb
    have stay : ∀ o' : List Bool, o'.length = ow.length → (∀ v, bm o' v ↔ if v = k then Bad (fun a b => b ∈ Sf su a) (zP pr) p k else bm o v) → k + 1 ≤ ow.length ∧ o'.length = ow.length ∧ ∀ v, bm o' v ↔ v < k + 1 ∧ Bad (fun a b => b ∈ Sf su a) (zP pr) p v := fun o' h1 h2 => ⟨hk', h1, fun v => by
      rw [h2 v]
      by_cases e2 : v = k
      · subst e2; simp
      · rw [if_neg e2, hbad v]
        exact ⟨fun h => ⟨by omega, h.2⟩, fun h => ⟨by omega, h.2⟩⟩⟩
    have kz : (k : Int) < z.length := by omega
    cases y with
    | true =>
      have hy := hza.1 ((bm_of gy).2 rfl)
      simp only [PP, P1, P2, P3, P4, P5, P6, P7, P8, P9, P10, P11, P12, P13, P14, L1, P15, N1, N2, N3, N4, N5, N6, N7, I1, I2, I3, I4, I5, I6, I7, reduceIte, reduceCtorEq, k0, kz, gy, kn, k1, lo, hwk]
      refine SemW_re (GStep.drop (b := [.junk, p8 p, slR f5 o5 f6 o6 .i64 su, .ptr 0 0 0, .junk, .junk, .junk, p64 ow.length, .ref 1 0 1 0 ow.length, slB false true w, .junk, p64 ((k + 1 : Nat) : Int), .junk, .junk, .junk, .junk, .junk, .junk, .junk, .junk, .junk, .junk, .junk, .junk, .junk, .junk, .junk, .junk, .junk, .junk, .junk, .junk, .junk, .junk, .junk, .junk, .junk, .junk, .junk, .junk, .junk, .junk, .junk, .junk, .junk, .junk, .junk, .junk, .junk, .junk, .junk, .junk, .junk, .junk, .junk, .junk, .junk, .junk, .junk, .junk, .junk, .junk, .junk, .junk, .junk, .junk, .junk, .junk, .junk, .junk, .junk, .junk, .junk, .junk, .junk, .junk, .junk, .junk, .junk, .junk, .junk, .junk, .junk, .junk, .junk, .junk, .junk, .junk, .junk, .junk, .junk, .junk, .junk, .junk, .junk, .junk, .junk, .junk, .junk, .junk, .junk, .junk, .junk, .junk, .junk, .junk, .junk, .junk, .junk, .junk, .junk, .junk, .junk, .junk]) 3 (Nat.zero_le _) (by simp) (by simp only [PWeak_nil, PWeak_junk, PWeak_same, Int.cast_ofNat_Int, List.length_append, List.length_cons, List.length_nil, Nat.zero_add]) (by simp only [PP, P1, P2, P3, P4, P5, P6, P7, P8, P9, P10, P11, P12, P13, P14, L1, P15, N1, N2, N3, N4, N5, N6, N7, I1, I2, I3, I4, I5, I6, I7, reduceIte, reduceCtorEq]) (by simp only [← List.map_set, PP, P1, P2, P3, P4, P5, P6, P7, P8, P9, P10, P11, P12, P13, P14, L1, P15, N1, N2, N3, N4, N5, N6, N7, I1, I2, I3, I4, I5, I6, I7, reduceIte, reduceCtorEq]) rfl) ?_
      refine SemW_to (ih2 (k + 1) (ver + 1) (o.set k true) (stay _ (by simp [lo]) fun v => ?_) (by omega)) (by simp only [PWeak_nil, PWeak_junk, PWeak_same, Int.cast_ofNat_Int, List.length_append, List.length_cons, List.length_nil, Nat.zero_add]) (by simp only [← List.map_set, PP, P1, P2, P3, P4, P5, P6, P7, P8, P9, P10, P11, P12, P13, P14, L1, P15, N1, N2, N3, N4, N5, N6, N7, I1, I2, I3, I4, I5, I6, I7, reduceIte, reduceCtorEq])
      rw [set_bm (by omega)]
      split
      · simp [hy]
      · rfl
    | false =>
      have hy : ¬ Bad (fun a b => b ∈ Sf su a) (zP pr) p k := fun h => by have := hza.2 h; rw [bm_of gy] at this; cases this
      simp only [PP, P1, P2, P3, P4, P5, P6, P7, P8, P9, P10, P11, P12, P13, P14, L1, P15, N1, N2, N3, N4, N5, N6, N7, I1, I2, I3, I4, I5, I6, I7, reduceIte, reduceCtorEq, k0, kz, gy, hwk]
      refine SemW_re (GStep.drop (b := [.junk, p8 p, slR f5 o5 f6 o6 .i64 su, .ptr 0 0 0, .junk, .junk, .junk, p64 ow.length, .ref 1 0 1 0 ow.length, slB false true w, .junk, p64 ((k + 1 : Nat) : Int), .junk, .junk, .junk, .junk, .junk, .junk, .junk, .junk, .junk, .junk, .junk, .junk, .junk, .junk, .junk, .junk, .junk, .junk, .junk, .junk, .junk, .junk, .junk, .junk, .junk, .junk, .junk, .junk, .junk, .junk, .junk, .junk, .junk, .junk, .junk, .junk, .junk, .junk, .junk, .junk, .junk, .junk, .junk, .junk, .junk, .junk, .junk, .junk, .junk, .junk, .junk, .junk, .junk, .junk, .junk, .junk, .junk, .junk, .junk, .junk, .junk, .junk, .junk, .junk, .junk, .junk, .junk, .junk, .junk, .junk, .junk, .junk, .junk, .junk, .junk, .junk, .junk, .junk, .junk, .junk, .junk, .junk, .junk, .junk, .junk, .junk, .junk, .junk, .junk, .junk, .junk, .junk, .junk, .junk, .junk, .junk, .junk, .junk, .junk, .junk, .junk, .junk]) 3 (Nat.zero_le _) (by simp) (by simp only [PWeak_nil, PWeak_junk, PWeak_same, Int.cast_ofNat_Int, List.length_append, List.length_cons, List.length_nil, Nat.zero_add]) (by simp only [PP, P1, P2, P3, P4, P5, P6, P7, P8, P9, P10, P11, P12, P13, P14, L1, P15, N1, N2, N3, N4, N5, N6, N7, I1, I2, I3, I4, I5, I6, I7, reduceIte, reduceCtorEq]) (by simp only [PP, P1, P2, P3, P4, P5, P6, P7, P8, P9, P10, P11, P12, P13, P14, L1, P15, N1, N2, N3, N4, N5, N6, N7, I1, I2, I3, I4, I5, I6, I7, reduceIte, reduceCtorEq]) rfl) ?_
      refine SemW_to (ih2 (k + 1) ver o (stay _ lo fun v => ?_) (by omega)) (by simp only [PWeak_nil, PWeak_junk, PWeak_same, Int.cast_ofNat_Int, List.length_append, List.length_cons, List.length_nil, Nat.zero_add]) (by simp only [PP, P1, P2, P3, P4, P5, P6, P7, P8, P9, P10, P11, P12, P13, P14, L1, P15, N1, N2, N3, N4, N5, N6, N7, I1, I2, I3, I4, I5, I6, I7, reduceIte, reduceCtorEq])
      split
      · rename_i e2; subst e2; rw [hbad v]; constructor
        · intro h; exact absurd h.2 hy
        · intro h; exact absurd h hy
      · rfl
  have hkn : k = ow.length := by omega
  subst hkn
  have hbad' : ∀ v, bm o v ↔ Bad (fun a b => b ∈ Sf su a) (zP pr) p v := fun v => by
    rw [hbad v]
    refine ⟨fun h => h.2, fun h => ⟨?_, h⟩⟩
    obtain ⟨a, ha⟩ := h.2.tgt
    exact tgt a v ha
  simp only [PP, P1, P2, P3, P4, P5, P6, P7, P8, P9, P10, P11, P12, P13, P14, L1, P15, N1, N2, N3, N4, N5, N6, N7, I1, I2, I3, I4, I5, I6, I7, reduceIte, reduceCtorEq, d]
  refine SemW_seq (SemW_of ?_)
  have hps : psub (o.map PV.bool) 0 ow.length = o.map PV.bool := psub_all _ _ (by simp [lo])
  have lo' : ow.length ≤ o.length := by omega
  simp only [PP, P1, P2, P3, P4, P5, P6, P7, P8, P9, P10, P11, P12, P13, P14, L1, P15, N1, N2, N3, N4, N5, N6, N7, I1, I2, I3, I4, I5, I6, I7, reduceIte, reduceCtorEq, c2, b1, lo', hps]
  refine ⟨by omega, ?_⟩
  refine SemW_re (GStep.freeze (b := [.junk, .junk, slR f5 o5 f6 o6 .i64 su, .ptr 0 0 0, .junk, .junk, .junk, p64 ow.length, .ref 1 0 1 0 ow.length, slB false true w, .junk, .junk, .junk, .junk, slB false true o, .junk, .junk, .junk, .junk, .junk, .junk, .junk, .junk, .junk, .junk, .junk, .junk, .junk, .junk, .junk, .junk, .junk, .junk, .junk, .junk, .junk, .junk, .junk, .junk, .junk, .junk, .junk, .junk, .junk, .junk, .junk, .junk, .junk, .junk, .junk, .junk, .junk, .junk, .junk, .junk, .junk, .junk, .junk, .junk, .junk, .junk, .junk, .junk, .junk, .junk, .junk, .junk, .junk, .junk, .junk, .junk, .junk, .junk, .junk, .junk, .junk, .junk, .junk, .junk, .junk, .junk, .junk, .junk, .junk, .junk, .junk, .junk, .junk, .junk, .junk, .junk, .junk, .junk, .junk, .junk, .junk, .junk, .junk, .junk, .junk, .junk, .junk, .junk, .junk, .junk, .junk, .junk, .junk, .junk, .junk, .junk, .junk, .junk, .junk]) 3 (by omega) rfl (by
    simp only [PFrz_junk, PFrz_same]
    rw [PFrz_ref (by rw [List.length_map, lo]; omega) (by rw [Nat.mul_one, psub_all _ _ (by simp [lo])]; unfold slB; rw [lo])]
    simp only [PFrz_nil, PFrz_junk, PFrz_same]) rfl) ?_
  refine SemW_seq (SemW_of ?_)
  simp only [PP, P1, P2, P3, P4, P5, P6, P7, P8, P9, P10, P11, P12, P13, P14, L1, P15, N1, N2, N3, N4, N5, N6, N7, I1, I2, I3, I4, I5, I6, I7, reduceIte, reduceCtorEq]
  refine loop3 (fun (k vr : Nat) (l : List Bool) => k ≤ ow.length ∧ l.length = ow.length ∧ ∀ v, bm l v ↔ if v < k then Lost (fun a b => b ∈ Sf su a) (zP pr) p v else bm o v)
    (fun k vr l => [.junk, .junk, slR f5 o5 f6 o6 .i64 su, .junk, .junk, .junk, .junk, p64 ow.length, .ref 1 0 1 0 ow.length, slB false true w, .junk, .junk, .junk, .junk, slB false true o, p64 k, .junk, .junk, .junk, .junk, .junk, .junk, .junk, .junk, .junk, .junk, .junk, .junk, .junk, .junk, .junk, .junk, .junk, .junk, .junk, .junk, .junk, .junk, .junk, .junk, .junk, .junk, .junk, .junk, .junk, .junk, .junk, .junk, .junk, .junk, .junk, .junk, .junk, .junk, .junk, .junk, .junk, .junk, .junk, .junk, .junk, .junk, .junk, .junk, .junk, .junk, .junk, .junk, .junk, .junk, .junk, .junk, .junk, .junk, .junk, .junk, .junk, .junk, .junk, .junk, .junk, .junk, .junk, .junk, .junk, .junk, .junk, .junk, .junk, .junk, .junk, .junk, .junk, .junk, .junk, .junk, .junk, .junk, .junk, .junk, .junk, .junk, .junk, .junk, .junk, .junk, .junk, .junk, .junk, .junk, .junk, .junk, .junk, .junk])
    (fun k vr l => [.cells 0 0 [slI f1 o1 .u8 ow, slI f2 o2 .i64 pr, slR f3 o3 f4 o4 .i64 su0], .cells 0 vr (l.map PV.bool), .gone, .gone])
    (fun k _ _ => ow.length - k) 0 ver o ⟨by omega, lo, fun v => by rw [if_neg (by omega)]⟩ (by simp only [PWeak_nil, PWeak_junk, PWeak_same, Int.cast_ofNat_Int, List.length_append, List.length_cons, List.length_nil, Nat.zero_add]) (by simp only [PP, P1, P2, P3, P4, P5, P6, P7, P8, P9, P10, P11, P12, P13, P14, L1, P15, N1, N2, N3, N4, N5, N6, N7, I1, I2, I3, I4, I5, I6, I7, reduceIte, reduceCtorEq]) ?_
  intro k vr l ⟨hle, ll, hl⟩ ih2
  refine SemW_go (by kernel_rfl) ?_
  simp only [PP, P1, P2, P3, P4, P5, P6, P7, P8, P9, P10, P11, P12, P13, P14, L1, P15, N1, N2, N3, N4, N5, N6, N7, I1, I2, I3, I4, I5, I6, I7, reduceIte, reduceCtorEq]
  refine QIf.intro (fun d => ?_) (fun d => ?_)
  · have hk' : k < ow.length := by omega
    have k0 : (0 : Int) ≤ k := by omega
    have kn : (k : Int) < ow.length := by omega
    have k1 : k + 1 ≤ ow.length := hk'
    have hwk := wrap_succ (k := k) (by show _ < 1000000000000; omega)
    simp only [PP, P1, P2, P3, P4, P5, P6, P7, P8, P9, P10, P11, P12, P13, P14, L1, P15, N1, N2, N3, N4, N5, N6, N7, I1, I2, I3, I4, I5, I6, I7, reduceIte, reduceCtorEq, d]
    refine reach_p T hR (by omega) (by omega) (fun z lz hz => ?_)
    have hz : ∀ u, bm z u ↔ Rch (fun a b => b ∈ Sf su a) (fun _ => True) k u := fun u => by
      rw [hz u]
      exact ⟨fun h => h.cond fun _ _ _ _ => trivial, fun h => h.cond fun a b hab _ => (hall b).2 (tgt a b hab)⟩
    simp only [PP, P1, P2, P3, P4, P5, P6, P7, P8, P9, P10, P11, P12, P13, P14, L1, P15, N1, N2, N3, N4, N5, N6, N7, I1, I2, I3, I4, I5, I6, I7, reduceIte, reduceCtorEq]
    refine loop3 (fun (j vr : Nat) (a : List Bool) => j ≤ ow.length ∧ a.length = ow.length ∧ ∀ v, bm a v ↔ if v = k then (Bad (fun a b => b ∈ Sf su a) (zP pr) p k ∨ ∃ u, u < j ∧ bm o u ∧ bm z u) else bm l v)
      (fun j vr a => [.junk, .junk, slR f5 o5 f6 o6 .i64 su, .junk, .junk, .junk, .junk, p64 ow.length, .ref 1 0 1 0 ow.length, slB false true w, .junk, .junk, .junk, .junk, slB false true o, p64 k, slB false true z, p64 j, .junk, .junk, .junk, .junk, .junk, .junk, .junk, .junk, .junk, .junk, .junk, .junk, .junk, .junk, .junk, .junk, .junk, .junk, .junk, .junk, .junk, .junk, .junk, .junk, .junk, .junk, .junk, .junk, .junk, .junk, .junk, .junk, .junk, .junk, .junk, .junk, .junk, .junk, .junk, .junk, .junk, .junk, .junk, .junk, .junk, .junk, .junk, .junk, .junk, .junk, .junk, .junk, .junk, .junk, .junk, .junk, .junk, .junk, .junk, .junk, .junk, .junk, .junk, .junk, .junk, .junk, .junk, .junk, .junk, .junk, .junk, .junk, .junk, .junk, .junk, .junk, .junk, .junk, .junk, .junk, .junk, .junk, .junk, .junk, .junk, .junk, .junk, .junk, .junk, .junk, .junk, .junk, .junk, .junk, .junk, .junk])
      (fun j vr a => [.cells 0 0 [slI f1 o1 .u8 ow, slI f2 o2 .i64 pr, slR f3 o3 f4 o4 .i64 su0], .cells 0 vr (a.map PV.bool), .gone, .gone])
      (fun j _ _ => ow.length - j) 0 vr l ⟨by omega, ll, fun v => ?_⟩ (by simp only [PWeak_nil, PWeak_junk, PWeak_same, Int.cast_ofNat_Int, List.length_append, List.length_cons, List.length_nil, Nat.zero_add]) (by simp only [PP, P1, P2, P3, P4, P5, P6, P7, P8, P9, P10, P11, P12, P13, P14, L1, P15, N1, N2, N3, N4, N5, N6, N7, I1, I2, I3, I4, I5, I6, I7, reduceIte, reduceCtorEq]) ?_
    · split
      · rename_i e; subst e
        rw [hl v, if_neg (by omega), hbad' v]
        exact ⟨.inl, fun h => h.elim id fun ⟨u, h, _⟩ => by omega⟩
      · rfl
    intro j vr a ⟨hle3, la, ha⟩ ih3
    refine SemW_go (by kernel_rfl) ?_
    simp only [PP, P1, P2, P3, P4, P5, P6, P7, P8, P9, P10, P11, P12, P13, P14, L1, P15, N1, N2, N3, N4, N5, N6, N7, I1, I2, I3, I4, I5, I6, I7, reduceIte, reduceCtorEq]
    refine QIf.intro (fun x => ?_) (fun x => ?_)
    · have hj : j < ow.length := by omega
      have j0 : (0 : Int) ≤ j := by omega
      have jo : (j : Int) < o.length := by omega
      have jz : (j : Int) < z.length := by omega
      have hwj := wrap_succ (k := j) (by show _ < 1000000000000; omega)
      obtain ⟨y1, g1⟩ := some_of (xs := a) (k := k) (by omega)
      obtain ⟨y2, g2⟩ := some_of (xs := o) (k := j) (by omega)
      obtain ⟨y3, g3⟩ := some_of (xs := z) (k := j) (by omega)
      have e1 := bm_of g1
      have e2 := bm_of g2
      have e3 := bm_of g3
      have up : ∀ b : Bool, (b = true ↔ y1 = true ∨ (y2 = true ∧ y3 = true)) → j + 1 ≤ ow.length ∧ (a.set k b).length = ow.length ∧ ∀ v, bm (a.set k b) v ↔ if v = k then (Bad (fun a b => b ∈ Sf su a) (zP pr) p k ∨ ∃ u, u < j + 1 ∧ bm o u ∧ bm z u) else bm l v := fun b hb => ⟨hj, by simp [la], fun v => by
        rw [set_bm (by omega)]
        by_cases e : v = k
        · rw [if_pos e, if_pos e, hb, ← e1, ← e2, ← e3, ha k, if_pos rfl]
          constructor
          · rintro ((h | ⟨u, h1, h2⟩) | h)
            · exact .inl h
            · exact .inr ⟨u, by omega, h2⟩
            · exact .inr ⟨j, by omega, h⟩
          · rintro (h | ⟨u, h1, h2⟩)
            · exact .inl (.inl h)
            · by_cases e : u = j
              · subst e; exact .inr h2
              · exact .inl (.inr ⟨u, by omega, h2⟩)
        · rw [if_neg e, if_neg e, ha v, if_neg e]⟩
      cases y1 with
      | true =>
        simp only [PP, P1, P2, P3, P4, P5, P6, P7, P8, P9, P10, P11, P12, P13, P14, L1, P15, N1, N2, N3, N4, N5, N6, N7, I1, I2, I3, I4, I5, I6, I7, reduceIte, reduceCtorEq, x, k0, kn, k1, la, g1, hwj]
        exact SemW_to (ih3 (j + 1) (vr + 1) (a.set k true) (up true (by simp)) (by omega)) (by simp only [PWeak_nil, PWeak_junk, PWeak_same, Int.cast_ofNat_Int, List.length_append, List.length_cons, List.length_nil, Nat.zero_add]) (by simp only [← List.map_set])
      | false =>
        cases y2 with
        | false =>
          simp only [PP, P1, P2, P3, P4, P5, P6, P7, P8, P9, P10, P11, P12, P13, P14, L1, P15, N1, N2, N3, N4, N5, N6, N7, I1, I2, I3, I4, I5, I6, I7, reduceIte, reduceCtorEq, x, k0, kn, k1, j0, jo, jz, la, g1, g2, hwj]
          exact SemW_to (ih3 (j + 1) (vr + 1) (a.set k false) (up false (by simp)) (by omega)) (by simp only [PWeak_nil, PWeak_junk, PWeak_same, Int.cast_ofNat_Int, List.length_append, List.length_cons, List.length_nil, Nat.zero_add]) (by simp only [← List.map_set])
        | true =>
          simp only [PP, P1, P2, P3, P4, P5, P6, P7, P8, P9, P10, P11, P12, P13, P14, L1, P15, N1, N2, N3, N4, N5, N6, N7, I1, I2, I3, I4, I5, I6, I7, reduceIte, reduceCtorEq, x, k0, kn, k1, j0, jo, jz, la, g1, g2, g3, hwj]
          exact SemW_to (ih3 (j + 1) (vr + 1) (a.set k y3) (up y3 (by simp)) (by omega)) (by simp only [PWeak_nil, PWeak_junk, PWeak_same, Int.cast_ofNat_Int, List.length_append, List.length_cons, List.length_nil, Nat.zero_add]) (by simp only [← List.map_set])
    · have hjn : j = ow.length := by omega
      subst hjn
      simp only [PP, P1, P2, P3, P4, P5, P6, P7, P8, P9, P10, P11, P12, P13, P14, L1, P15, N1, N2, N3, N4, N5, N6, N7, I1, I2, I3, I4, I5, I6, I7, reduceIte, reduceCtorEq, x, hwk]
      refine SemW_weak (ih2 (k + 1) vr a ⟨by omega, la, fun v => ?_⟩ (by omega)) (by simp only [PWeak_nil, PWeak_junk, PWeak_same, Int.cast_ofNat_Int, List.length_append, List.length_cons, List.length_nil, Nat.zero_add])
      rw [ha v]
      by_cases e : v = k
      · subst e
        rw [if_pos rfl, if_pos (by omega)]
        unfold Lost
        refine or_congr Iff.rfl ⟨fun ⟨u, h1, h2, h3⟩ => ⟨u, (hbad' u).1 h2, (hz u).1 h3⟩, fun ⟨u, h2, h3⟩ => ⟨u, ?_, (hbad' u).2 h2, (hz u).2 h3⟩⟩
        obtain ⟨a, ha⟩ := h3.tgt
        exact tgt a u ha
      · rw [if_neg e, hl v]
        by_cases e2 : v < k
        · rw [if_pos e2, if_pos (by omega)]
        · rw [if_neg e2, if_neg (by omega)]
  · have hkn : k = ow.length := by omega
    subst hkn
    simp only [PP, P1, P2, P3, P4, P5, P6, P7, P8, P9, P10, P11, P12, P13, P14, L1, P15, N1, N2, N3, N4, N5, N6, N7, I1, I2, I3, I4, I5, I6, I7, reduceIte, reduceCtorEq, d]
    refine SemW_of ?_
    simp only [PP, P1, P2, P3, P4, P5, P6, P7, P8, P9, P10, P11, P12, P13, P14, L1, P15, N1, N2, N3, N4, N5, N6, N7, I1, I2, I3, I4, I5, I6, I7, reduceIte, reduceCtorEq, ← ll]
    exact hk l ll fun v hv => by rw [hl v, if_pos hv]
end
end Go.Am.Ar
set_option linter.unusedVariables false
set_option linter.unusedSimpArgs false
set_option maxRecDepth 10000
namespace Go.Am.Ar
open Go.Am renaming pchk → P1, pold → P2, PKNo → P3, ppack → P4, PObj.under → P5, pput → P6, ptset → P7, ptget → P8, pev → P9, ofAV → P10, ofAV1 → P11, ppad → P12, pfill → P13, prepl → P14, AO.effect → P15
open List renaming replicate → L1
open Nat renaming reduceAdd → N1, reduceSub → N2, reduceMul → N3, reduceLT → N4, reduceLeDiff → N5, reduceEqDiff → N6, reduceBEq → N7
open Int renaming reduceToNat → I1, reduceLT → I2, reduceLE → I3, reduceEq → I4, reduceAdd → I5, reduceSub → I6, reduceNeg → I7
def RwWk : List PV → List (List Int) → Prop
  | [], [] => True
  | y :: cs, r :: rows => (∃ f o, y = slI f o .i64 r) ∧ RwWk cs rows
  | _, _ => False
theorem RwWk.app : ∀ {cs : List PV} {rows : List (List Int)}, RwWk cs rows → ∀ (f o : Bool) (r : List Int), RwWk (cs ++ [slI f o .i64 r]) (rows ++ [r])
  | [], [], _, f, o, r => ⟨⟨f, o, rfl⟩, trivial⟩
  | y :: cs, x :: rows, ⟨h1, h2⟩, f, o, r => ⟨h1, h2.app f o r⟩
  | [], _ :: _, h, _, _, _ => h.elim
  | _ :: _, [], h, _, _, _ => h.elim
theorem RwWk.len : ∀ {cs : List PV} {rows : List (List Int)}, RwWk cs rows → cs.length = rows.length
  | [], [], _ => rfl
  | y :: cs, x :: rows, ⟨h1, h2⟩ => by simp [h2.len]
  | [], _ :: _, h => h.elim
  | _ :: _, [], h => h.elim
theorem RwWk.one : ∀ {cs : List PV} {rows : List (List Int)}, RwWk cs rows → cs.all PV.one = true
  | [], [], _ => rfl
  | y :: cs, x :: rows, ⟨⟨f, o, e⟩, h2⟩ => by subst e; simp only [List.all_cons, one_sl, h2.one, Bool.and_self]
  | [], _ :: _, h => h.elim
  | _ :: _, [], h => h.elim
theorem RwWk.und (m : Nat) : ∀ {cs : List PV} {rows : List (List Int)}, RwWk cs rows → underL m cs = true
  | [], [], _ => underL_nil _
  | y :: cs, x :: rows, ⟨⟨f, o, e⟩, h2⟩ => by subst e; rw [underL_cons, h2.und m, under_slI]; rfl
  | [], _ :: _, h => h.elim
  | _ :: _, [], h => h.elim
theorem RwWk.get : ∀ {cs : List PV} {rows : List (List Int)}, RwWk cs rows → ∀ (i : Nat) (y z : PV), cs[i]? = some y → (rows.map (slI true false .i64))[i]? = some z → PvWk y z
  | y :: cs, x :: rows, ⟨⟨f, o, e⟩, h2⟩, 0, a, b, ha, hb => by
    cases ha; cases hb; subst e; exact PvWk.sl0 _ _ _ _ _
  | y :: cs, x :: rows, ⟨_, h2⟩, i + 1, a, b, ha, hb => h2.get i a b (by simpa using ha) (by simpa using hb)
  | [], [], _, i, a, b, ha, _ => by simp at ha
  | [], _ :: _, h, _, _, _, _, _ => h.elim
  | _ :: _, [], h, _, _, _, _, _ => h.elim
theorem PvWk.cells {f o : Bool} {sz n : Nat} {cs cs' : List PV} (hl : cs.length = cs'.length) (h : ∀ (i : Nat) (y z : PV), cs[i]? = some y → cs'[i]? = some z → PvWk y z) : PvWk (.sl f o sz n cs) (.sl f o sz n cs') := fun w x hx => by
  cases hx with
  | sl h1 h2 h3 h4 h5 h7 h6 =>
    refine .sl h1 (by rw [← hl]; exact h2) (by rw [← hl]; exact h3) h4 h5 h7 fun i y z hy hz => ?_
    have hi : i < cs.length := by rw [hl]; exact getSome_lt hy
    exact h i _ y (List.getElem?_eq_getElem hi) hy w z (h6 i _ z (List.getElem?_eq_getElem hi) hz)
  | slN =>
    have : cs' = [] := List.length_eq_zero_iff.1 (by rw [← hl]; rfl)
    subst this; exact .slN
def movF (ow : List Int) (su : List (List Int)) (p : Int) (st : List Int) (v : Nat) : List Int := if ow.getD v 0 = p ∧ st.getD v 0 ∈ su.getD v [] then [st.getD v 0] else su.getD v []
def ownF (ow ws ss : List Int) (p : Int) (v : Nat) : Int := if ow.getD v 0 = p ∧ ws.getD v 0 = p then ss.getD v 0 else -1
section
variable {tab : FuncId → Option AF} (T : HasA tab)
include T
theorem moves_p {M : Mem} {K : PV → Mem → Prop} {f1 o1 f2 o2 f3 o3 f4 o4 f5 o5 : Bool} {ow pr st : List Int} {su : List (List Int)} {p : Int} (B : Bnd ow pr su) (hs : su.length = ow.length) (ht : st.length = ow.length)
    (hk : K (slR false true true false .i64 (tabA ow.length (movF ow su p st))) M) :
    SemC tab 63 [gmP f1 o1 f2 o2 f3 o3 f4 o4 ow pr su, p8 p, slI f5 o5 .i64 st] M K := by
  refine SemC_wk ?_
  refine SemC_pure T.h63 (by simp only [PP, P1, P2, P3, P4, P5, P6, P7, P8, P9, P10, P11, P12, P13, P14, L1, P15, N1, N2, N3, N4, N5, N6, N7, I1, I2, I3, I4, I5, I6, I7, reduceIte, reduceCtorEq]) ?_
  simp only [af63, PP, P1, P2, P3, P4, P5, P6, P7, P8, P9, P10, P11, P12, P13, P14, L1, P15, N1, N2, N3, N4, N5, N6, N7, I1, I2, I3, I4, I5, I6, I7, reduceIte, reduceCtorEq]
  have hn : ow.length < 1000000000000 := B.o
  refine SemW_re (GStep.nil 7 1 rfl rfl rfl) ?_
  refine loop4 (fun (k g v : Nat) (cs : List PV) => k ≤ ow.length ∧ RwWk cs (tabA k (movF ow su p st)))
    (fun k g v cs => [.junk, p8 p, slI f5 o5 .i64 st, .ptr 0 0 0, .junk, .junk, .junk, .ref 1 g 1 0 k, p64 k, .junk, .junk, .junk, .junk, .junk, .junk, .junk, .junk, .junk, .junk, .junk, .junk, .junk, .junk, .junk, .junk, .junk, .junk, .junk, .junk, .junk, .junk, .junk, .junk, .junk, .junk, .junk, .junk, .junk, .junk, .junk, .junk, .junk, .junk, .junk, .junk, .junk, .junk, .junk, .junk, .junk, .junk, .junk])
    (fun k g v cs => [.cells 0 0 [slI f1 o1 .u8 ow, slI f2 o2 .i64 pr, slR f3 o3 f4 o4 .i64 su], .cells g v cs])
    (fun k _ _ _ => ow.length - k) 0 0 0 [] ⟨by omega, trivial⟩ (by simp only [PP, P1, P2, P3, P4, P5, P6, P7, P8, P9, P10, P11, P12, P13, P14, L1, P15, N1, N2, N3, N4, N5, N6, N7, I1, I2, I3, I4, I5, I6, I7, reduceIte, reduceCtorEq, PWeak_nil, PWeak_junk, PWeak_same, Int.cast_ofNat_Int]) (by simp only [PP, P1, P2, P3, P4, P5, P6, P7, P8, P9, P10, P11, P12, P13, P14, L1, P15, N1, N2, N3, N4, N5, N6, N7, I1, I2, I3, I4, I5, I6, I7, reduceIte, reduceCtorEq]) ?_
  intro k g v cs ⟨hle, hc⟩ ih
  have lc : cs.length = k := by rw [hc.len, tabA_len]
  refine SemW_go (by kernel_rfl) ?_
  simp only [PP, P1, P2, P3, P4, P5, P6, P7, P8, P9, P10, P11, P12, P13, P14, L1, P15, N1, N2, N3, N4, N5, N6, N7, I1, I2, I3, I4, I5, I6, I7, reduceIte, reduceCtorEq]
  refine QIf.intro (fun c => ?_) (fun c => ?_)
  · have hk' : k < ow.length := by omega
    have k0 : (0 : Int) ≤ k := by omega
    have kn : (k : Int) < ow.length := by omega
    have hwk := wrap_succ (k := k) (by show _ < 1000000000000; omega)
    obtain ⟨o, g1⟩ := some_of (xs := ow) (k := k) hk'
    obtain ⟨x, g2⟩ := some_of (xs := st) (k := k) (by omega)
    obtain ⟨r, g3⟩ := some_of (xs := su) (k := k) (by omega)
    have e1 : ow.getD k 0 = o := getD_some g1
    have e2 : st.getD k 0 = x := getD_some g2
    have e3 : su.getD k [] = r := by simp [List.getD, g3]
    have ef : movF ow su p st k = if o = p ∧ x ∈ r then [x] else r := by unfold movF; rw [e1, e2, e3]
    have hps : psub cs 0 k = cs := psub_all _ _ (by omega)
    have c24 : (k + 1) * 24 ≤ 140737488355328 := by omega
    have c1 : k + 1 ≤ 9223372036854775807 := by omega
    have ho := hc.one
    have hex : k ≤ cs.length := by omega
    have step : ∀ (f o' : Bool) (y : List Int), movF ow su p st k = y → RwWk (cs ++ [slI f o' .i64 y]) (tabA (k + 1) (movF ow su p st)) := fun f o' y hy => by
      rw [tabA_succ, hy]; exact hc.app f o' y
    simp only [PP, P1, P2, P3, P4, P5, P6, P7, P8, P9, P10, P11, P12, P13, P14, L1, P15, N1, N2, N3, N4, N5, N6, N7, I1, I2, I3, I4, I5, I6, I7, reduceIte, reduceCtorEq, c, k0, kn, g1]
    refine QIf.intro (fun d => ?_) (fun d => ?_)
    · simp only [PP, P1, P2, P3, P4, P5, P6, P7, P8, P9, P10, P11, P12, P13, P14, L1, P15, N1, N2, N3, N4, N5, N6, N7, I1, I2, I3, I4, I5, I6, I7, reduceIte, reduceCtorEq, d, k0, kn, g2, g3, hs, ht]
      refine hasInt_p T (B.r r (List.mem_of_getElem? g3)) ?_
      by_cases q : x ∈ r
      · simp only [PP, P1, P2, P3, P4, P5, P6, P7, P8, P9, P10, P11, P12, P13, P14, L1, P15, N1, N2, N3, N4, N5, N6, N7, I1, I2, I3, I4, I5, I6, I7, reduceIte, reduceCtorEq, q, k0, kn, g2, ht, hps, c24, c1, ho, hwk, hex]
        rw [if_pos ⟨d, q⟩] at ef
        refine SemW_to (ih (k + 1) (g + 1) 0 (cs ++ [slI true true .i64 [x]]) ⟨by omega, step true true [x] ef⟩ (by omega)) (by simp only [PWeak_nil, PWeak_junk, PWeak_same, Int.cast_ofNat_Int, List.length_append, List.length_cons, List.length_nil, Nat.zero_add]) rfl
      · simp only [PP, P1, P2, P3, P4, P5, P6, P7, P8, P9, P10, P11, P12, P13, P14, L1, P15, N1, N2, N3, N4, N5, N6, N7, I1, I2, I3, I4, I5, I6, I7, reduceIte, reduceCtorEq, q, k0, kn, g3, hs, hps, c24, c1, ho, hwk, hex]
        rw [if_neg (fun h => q h.2)] at ef
        refine SemW_to (ih (k + 1) (g + 1) 0 (cs ++ [slI f4 o4 .i64 r]) ⟨by omega, step f4 o4 r ef⟩ (by omega)) (by simp only [PWeak_nil, PWeak_junk, PWeak_same, Int.cast_ofNat_Int, List.length_append, List.length_cons, List.length_nil, Nat.zero_add]) rfl
    · simp only [PP, P1, P2, P3, P4, P5, P6, P7, P8, P9, P10, P11, P12, P13, P14, L1, P15, N1, N2, N3, N4, N5, N6, N7, I1, I2, I3, I4, I5, I6, I7, reduceIte, reduceCtorEq, d, k0, kn, g3, hs, hps, c24, c1, ho, hwk, hex]
      rw [if_neg (fun h => d h.1)] at ef
      refine SemW_to (ih (k + 1) (g + 1) 0 (cs ++ [slI f4 o4 .i64 r]) ⟨by omega, step f4 o4 r ef⟩ (by omega)) (by simp only [PWeak_nil, PWeak_junk, PWeak_same, Int.cast_ofNat_Int, List.length_append, List.length_cons, List.length_nil, Nat.zero_add]) rfl
  · have hkn : k = ow.length := by omega
    subst hkn
    have hps : psub cs 0 ow.length = cs := psub_all _ _ (by omega)
    simp only [PP, P1, P2, P3, P4, P5, P6, P7, P8, P9, P10, P11, P12, P13, P14, L1, P15, N1, N2, N3, N4, N5, N6, N7, I1, I2, I3, I4, I5, I6, I7, reduceIte, reduceCtorEq, c]
    rw [frzO_cells (by omega) (hc.und 0), Nat.mul_one, hps]
    simp only [PP, P1, P2, P3, P4, P5, P6, P7, P8, P9, P10, P11, P12, P13, P14, L1, P15, N1, N2, N3, N4, N5, N6, N7, I1, I2, I3, I4, I5, I6, I7, reduceIte, reduceCtorEq]
    refine ⟨_, ?_, hk⟩
    have := PvWk.cells (f := false) (o := true) (sz := 1) (n := ow.length) (cs := cs) (cs' := (tabA ow.length (movF ow su p st)).map (slI true false .i64)) (by simp [lc, tabA_len]) hc.get
    simp only [slR, tabA_len]
    exact this
theorem own_p {M : Mem} {K : PV → Mem → Prop} {f1 o1 f2 o2 f3 o3 f4 o4 f5 o5 f6 o6 : Bool} {ow pr ws ss : List Int} {su : List (List Int)} {p : Int} (hn : ow.length < big) (hw : ws.length = ow.length) (hs : ss.length = ow.length)
    (hk : K (slI false true .i64 (tabA ow.length (ownF ow ws ss p))) M) :
    SemC tab 64 [gmP f1 o1 f2 o2 f3 o3 f4 o4 ow pr su, .agg [slI f5 o5 .u8 ws, slI f6 o6 .i64 ss], p8 p] M K := by
  refine SemC_pure T.h64 (by simp only [PP, P1, P2, P3, P4, P5, P6, P7, P8, P9, P10, P11, P12, P13, P14, L1, P15, N1, N2, N3, N4, N5, N6, N7, I1, I2, I3, I4, I5, I6, I7, reduceIte, reduceCtorEq]) ?_
  simp only [af64, PP, P1, P2, P3, P4, P5, P6, P7, P8, P9, P10, P11, P12, P13, P14, L1, P15, N1, N2, N3, N4, N5, N6, N7, I1, I2, I3, I4, I5, I6, I7, reduceIte, reduceCtorEq]
  have hn : ow.length < 1000000000000 := hn
  refine SemW_re (GStep.nil 7 1 rfl rfl rfl) ?_
  refine loop3 (fun (k g v : Nat) => k ≤ ow.length)
    (fun k g v => [.junk, .junk, p8 p, .ptr 0 0 0, .ptr 1 0 0, .junk, .junk, .ref 2 g 1 0 k, p64 k, .junk, .junk, .junk, .junk, .junk, .junk, .junk, .junk, .junk, .junk, .junk, .junk, .junk, .junk, .junk, .junk, .junk, .junk, .junk, .junk, .junk, .junk, .junk, .junk, .junk, .junk, .junk, .junk, .junk, .junk, .junk, .junk, .junk, .junk])
    (fun k g v => [.cells 0 0 [slI f1 o1 .u8 ow, slI f2 o2 .i64 pr, slR f3 o3 f4 o4 .i64 su], .cells 0 0 [slI f5 o5 .u8 ws, slI f6 o6 .i64 ss], .cells g v ((tabA k (ownF ow ws ss p)).map (PV.int .i64))])
    (fun k _ _ => ow.length - k) 0 0 0 (by omega) (by simp only [PP, P1, P2, P3, P4, P5, P6, P7, P8, P9, P10, P11, P12, P13, P14, L1, P15, N1, N2, N3, N4, N5, N6, N7, I1, I2, I3, I4, I5, I6, I7, reduceIte, reduceCtorEq, PWeak_nil, PWeak_junk, PWeak_same, Int.cast_ofNat_Int]) (by simp only [PP, P1, P2, P3, P4, P5, P6, P7, P8, P9, P10, P11, P12, P13, P14, L1, P15, N1, N2, N3, N4, N5, N6, N7, I1, I2, I3, I4, I5, I6, I7, reduceIte, reduceCtorEq]; rfl) ?_
  intro k g v hle ih
  refine SemW_go (by kernel_rfl) ?_
  simp only [PP, P1, P2, P3, P4, P5, P6, P7, P8, P9, P10, P11, P12, P13, P14, L1, P15, N1, N2, N3, N4, N5, N6, N7, I1, I2, I3, I4, I5, I6, I7, reduceIte, reduceCtorEq, hs]
  refine QIf.intro (fun c => ?_) (fun c => ?_)
  · have hk' : k < ow.length := by omega
    have k0 : (0 : Int) ≤ k := by omega
    have kn : (k : Int) < ow.length := by omega
    have hwk := wrap_succ (k := k) (by show _ < 1000000000000; omega)
    obtain ⟨o, g1⟩ := some_of (xs := ow) (k := k) hk'
    obtain ⟨w, g2⟩ := some_of (xs := ws) (k := k) (by omega)
    obtain ⟨s, g3⟩ := some_of (xs := ss) (k := k) (by omega)
    have ef : ownF ow ws ss p k = if o = p ∧ w = p then s else -1 := by unfold ownF; rw [getD_some g1, getD_some g2, getD_some g3]
    have hps : psub ((tabA k (ownF ow ws ss p)).map (PV.int .i64)) 0 k = (tabA k (ownF ow ws ss p)).map (PV.int .i64) := psub_all _ _ (by simp [tabA_len])
    have c8 : (k + 1) * 8 ≤ 140737488355328 := by omega
    have c1 : k + 1 ≤ 9223372036854775807 := by omega
    have hex : k ≤ (tabA k (ownF ow ws ss p)).length := by rw [tabA_len]; omega
    have step : ∀ y : Int, ownF ow ws ss p k = y → (tabA k (ownF ow ws ss p)).map (PV.int .i64) ++ [p64 y] = (tabA (k + 1) (ownF ow ws ss p)).map (PV.int .i64) := fun y hy => by
      rw [tabA_succ, hy, List.map_append]; rfl
    simp only [PP, P1, P2, P3, P4, P5, P6, P7, P8, P9, P10, P11, P12, P13, P14, L1, P15, N1, N2, N3, N4, N5, N6, N7, I1, I2, I3, I4, I5, I6, I7, reduceIte, reduceCtorEq, c, k0, kn, g1]
    refine QIf.intro (fun d => ?_) (fun d => ?_)
    · simp only [PP, P1, P2, P3, P4, P5, P6, P7, P8, P9, P10, P11, P12, P13, P14, L1, P15, N1, N2, N3, N4, N5, N6, N7, I1, I2, I3, I4, I5, I6, I7, reduceIte, reduceCtorEq, d, k0, kn, g2, hw]
      refine QIf.intro (fun e => ?_) (fun e => ?_)
      · rw [if_pos ⟨d, e⟩] at ef
        simp only [PP, P1, P2, P3, P4, P5, P6, P7, P8, P9, P10, P11, P12, P13, P14, L1, P15, N1, N2, N3, N4, N5, N6, N7, I1, I2, I3, I4, I5, I6, I7, reduceIte, reduceCtorEq, e, k0, kn, g3, hs, hps, c8, c1, hwk, hex]
        exact SemW_to (ih (k + 1) (g + 1) 0 (by omega) (by omega)) (by simp only [PWeak_nil, PWeak_junk, PWeak_same, Int.cast_ofNat_Int, List.length_append, List.length_cons, List.length_nil, Nat.zero_add]) (by rw [step s ef])
      · rw [if_neg (fun h => e h.2)] at ef
        simp only [PP, P1, P2, P3, P4, P5, P6, P7, P8, P9, P10, P11, P12, P13, P14, L1, P15, N1, N2, N3, N4, N5, N6, N7, I1, I2, I3, I4, I5, I6, I7, reduceIte, reduceCtorEq, e, hps, c8, c1, hwk, hex]
        exact SemW_to (ih (k + 1) (g + 1) 0 (by omega) (by omega)) (by simp only [PWeak_nil, PWeak_junk, PWeak_same, Int.cast_ofNat_Int, List.length_append, List.length_cons, List.length_nil, Nat.zero_add]) (by rw [step _ ef])
    · rw [if_neg (fun h => d h.1)] at ef
      simp only [PP, P1, P2, P3, P4, P5, P6, P7, P8, P9, P10, P11, P12, P13, P14, L1, P15, N1, N2, N3, N4, N5, N6, N7, I1, I2, I3, I4, I5, I6, I7, reduceIte, reduceCtorEq, d, hps, c8, c1, hwk, hex]
      exact SemW_to (ih (k + 1) (g + 1) 0 (by omega) (by omega)) (by simp only [PWeak_nil, PWeak_junk, PWeak_same, Int.cast_ofNat_Int, List.length_append, List.length_cons, List.length_nil, Nat.zero_add]) (by rw [step _ ef])
  · have hkn : k = ow.length := by omega
    subst hkn
    simp only [PP, P1, P2, P3, P4, P5, P6, P7, P8, P9, P10, P11, P12, P13, P14, L1, P15, N1, N2, N3, N4, N5, N6, N7, I1, I2, I3, I4, I5, I6, I7, reduceIte, reduceCtorEq, c]
    rw [frzO_cells (by simp [tabA_len]) (underL_ints _ _ _), Nat.mul_one, psub_all _ _ (by simp [tabA_len])]
    simp only [PP, P1, P2, P3, P4, P5, P6, P7, P8, P9, P10, P11, P12, P13, P14, L1, P15, N1, N2, N3, N4, N5, N6, N7, I1, I2, I3, I4, I5, I6, I7, reduceIte, reduceCtorEq]
    simpa only [slI, tabA_len] using hk
end
end Go.Am.Ar
set_option linter.unusedVariables false
set_option linter.unusedSimpArgs false
set_option maxRecDepth 10000
namespace Go.Am.Ar
open Go.Am renaming pchk → P1, pold → P2, PKNo → P3, ppack → P4, PObj.under → P5, pput → P6, ptset → P7, ptget → P8, pev → P9, ofAV → P10, ofAV1 → P11, ppad → P12, pfill → P13, prepl → P14, AO.effect → P15
open List renaming replicate → L1
open Nat renaming reduceAdd → N1, reduceSub → N2, reduceMul → N3, reduceLT → N4, reduceLeDiff → N5, reduceEqDiff → N6, reduceBEq → N7
open Int renaming reduceToNat → I1, reduceLT → I2, reduceLE → I3, reduceEq → I4, reduceAdd → I5, reduceSub → I6, reduceNeg → I7
abbrev solE (ow : List Int) (su : List (List Int)) (ws ss : List Int) (p : Int) (a b : Nat) : Prop := b ∈ Sf (tabA ow.length (movF ow su p (tabA ow.length (ownF ow ws ss p)))) a
structure FormAt (ow : List Int) (su : List (List Int)) (ws ss : List Int) (v : Nat) : Prop where
  k : ¬ 1 < ws.getD v 0
  own : ws.getD v 0 = ow.getD v 0 → ss.getD v 0 ∈ su.getD v []
  opp : ¬ ws.getD v 0 = ow.getD v 0 → ss.getD v 0 = -1
structure CorrP (ow pr : List Int) (su : List (List Int)) (ws ss : List Int) : Prop where
  c : checkM ow pr su = 0
  lw : ws.length = ow.length
  ls : ss.length = ow.length
  form : ∀ v, v < ow.length → FormAt ow su ws ss v
  win : ∀ p : Int, p = 0 ∨ p = 1 → ∀ v, v < ow.length → ws.getD v 0 = p → ¬ Lost (solE ow su ws ss p) (zP pr) p v
theorem mov_in {ow pr st : List Int} {su : List (List Int)} {p : Int} (V : Valid ow pr su) (B : Bnd ow pr su) : RowsIn (tabA ow.length (movF ow su p st)) := by
  have n1 := V.n1
  refine ⟨by rw [tabA_len]; omega, fun row hrow => ?_⟩
  obtain ⟨v, hv, rfl⟩ := tabA_mem hrow
  have hvs : v < su.length := by rw [V.s]; exact hv
  have e : su.getD v [] = su[v] := by simp [List.getD, hvs]
  have hr : ∀ x ∈ su.getD v [], 0 ≤ x ∧ x < ow.length := fun x hx => su_range V hv hx
  rw [tabA_len]
  unfold movF
  split
  · rename_i h
    refine ⟨by simp, fun x hx => ?_⟩
    rw [List.mem_singleton] at hx; subst hx; exact hr _ h.2
  · exact ⟨by rw [e]; exact B.r _ (List.getElem_mem hvs), hr⟩
theorem Valid.pri0 {ow pr : List Int} {su : List (List Int)} (V : Valid ow pr su) : ∀ x ∈ pr, 0 ≤ x ∧ x ≤ 16 := fun x hx => by
  obtain ⟨i, hi⟩ := List.getElem?_of_mem hx
  have hl := getSome_lt hi
  have := V.row i (by rw [V.s, ← V.p]; exact hl)
  rw [getD_some hi] at this
  exact ⟨this.1, this.2.1⟩
section
variable {tab : FuncId → Option AF} (T : HasA tab)
include T
set_option maxHeartbeats 1000000 in
theorem correct_p {M : Mem} {K : PV → Mem → Prop} {f1 o1 f2 o2 f3 o3 f4 o4 f5 o5 f6 o6 : Bool} {ow pr ws ss : List Int} {su : List (List Int)} (B : Bnd ow pr su)
    (hk : ∀ b : Bool, (b = true ↔ CorrP ow pr su ws ss) → K (.bool b) M) :
    SemC tab 35 [gmP f1 o1 f2 o2 f3 o3 f4 o4 ow pr su, .agg [slI f5 o5 .u8 ws, slI f6 o6 .i64 ss]] M K := by
  have yes : CorrP ow pr su ws ss → K (.bool true) M := fun h => hk true ⟨fun _ => h, fun _ => rfl⟩
  have no : ¬ CorrP ow pr su ws ss → K (.bool false) M := fun h => hk false ⟨fun q => (by cases q), fun q => absurd q h⟩
  refine SemC_pure T.h35 (by simp only [PP, P1, P2, P3, P4, P5, P6, P7, P8, P9, P10, P11, P12, P13, P14, L1, P15, N1, N2, N3, N4, N5, N6, N7, I1, I2, I3, I4, I5, I6, I7, reduceIte, reduceCtorEq]) ?_
  simp only [af35, PP, P1, P2, P3, P4, P5, P6, P7, P8, P9, P10, P11, P12, P13, P14, L1, P15, N1, N2, N3, N4, N5, N6, N7, I1, I2, I3, I4, I5, I6, I7, reduceIte, reduceCtorEq]
  refine refCheck_p T B ?_
  simp only [PP, P1, P2, P3, P4, P5, P6, P7, P8, P9, P10, P11, P12, P13, P14, L1, P15, N1, N2, N3, N4, N5, N6, N7, I1, I2, I3, I4, I5, I6, I7, reduceIte, reduceCtorEq]
  refine QIf.intro (fun c1 => ?_) (fun c1 => ?_)
  rotate_left
  · simp only [PP, P1, P2, P3, P4, P5, P6, P7, P8, P9, P10, P11, P12, P13, P14, L1, P15, N1, N2, N3, N4, N5, N6, N7, I1, I2, I3, I4, I5, I6, I7, reduceIte, reduceCtorEq, c1]
    exact no fun h => c1 h.c
  have V := valid_of c1
  have n0 := V.n0
  have n1 := V.n1
  have hs := V.s
  have hp := V.p
  simp only [PP, P1, P2, P3, P4, P5, P6, P7, P8, P9, P10, P11, P12, P13, P14, L1, P15, N1, N2, N3, N4, N5, N6, N7, I1, I2, I3, I4, I5, I6, I7, reduceIte, reduceCtorEq, c1]
  refine QIf.intro (fun c2 => ?_) (fun c2 => ?_)
  rotate_left
  · simp only [PP, P1, P2, P3, P4, P5, P6, P7, P8, P9, P10, P11, P12, P13, P14, L1, P15, N1, N2, N3, N4, N5, N6, N7, I1, I2, I3, I4, I5, I6, I7, reduceIte, reduceCtorEq, c2]
    exact no fun h => c2 (by have := h.lw; omega)
  simp only [PP, P1, P2, P3, P4, P5, P6, P7, P8, P9, P10, P11, P12, P13, P14, L1, P15, N1, N2, N3, N4, N5, N6, N7, I1, I2, I3, I4, I5, I6, I7, reduceIte, reduceCtorEq, c2]
  refine QIf.intro (fun c3 => ?_) (fun c3 => ?_)
  rotate_left
  · simp only [PP, P1, P2, P3, P4, P5, P6, P7, P8, P9, P10, P11, P12, P13, P14, L1, P15, N1, N2, N3, N4, N5, N6, N7, I1, I2, I3, I4, I5, I6, I7, reduceIte, reduceCtorEq, c3]
    exact no fun h => c3 (by have := h.ls; omega)
  have lw : ws.length = ow.length := by omega
  have ls : ss.length = ow.length := by omega
  simp only [PP, P1, P2, P3, P4, P5, P6, P7, P8, P9, P10, P11, P12, P13, P14, L1, P15, N1, N2, N3, N4, N5, N6, N7, I1, I2, I3, I4, I5, I6, I7, reduceIte, reduceCtorEq, c3]
  refine loop1 (fun (k : Nat) => k ≤ ow.length ∧ ∀ v, v < k → FormAt ow su ws ss v)
    (fun k => [.junk, .junk, .ptr 0 0 0, .ptr 1 0 0, .junk, p64 ow.length, p64 k, .junk, .junk, .junk, .junk, .junk, .junk, .junk, .junk, .junk, .junk, .junk, .junk, .junk, .junk, .junk, .junk, .junk, .junk, .junk, .junk, .junk, .junk, .junk, .junk, .junk, .junk, .junk, .junk, .junk, .junk, .junk, .junk, .junk, .junk, .junk, .junk, .junk, .junk, .junk, .junk, .junk, .junk, .junk, .junk, .junk, .junk, .junk, .junk, .junk, .junk, .junk, .junk, .junk, .junk, .junk, .junk, .junk, .junk, .junk, .junk, .junk, .junk, .junk, .junk, .junk, .junk, .junk, .junk, .junk, .junk, .junk, .junk, .junk, .junk, .junk, .junk, .junk, .junk, .junk, .junk, .junk, .junk, .junk, .junk, .junk, .junk, .junk, .junk, .junk, .junk, .junk, .junk, .junk, .junk, .junk, .junk, .junk, .junk, .junk, .junk, .junk, .junk, .junk, .junk, .junk, .junk, .junk, .junk, .junk, .junk, .junk, .junk, .junk, .junk])
    (fun k => [.cells 0 0 [slI f1 o1 .u8 ow, slI f2 o2 .i64 pr, slR f3 o3 f4 o4 .i64 su], .cells 0 0 [slI f5 o5 .u8 ws, slI f6 o6 .i64 ss]])
    (fun k => ow.length - k) 0 ⟨by omega, by intro v h; omega⟩ (by simp only [PWeak_nil, PWeak_junk, PWeak_same, Int.cast_ofNat_Int, List.length_append, List.length_cons, List.length_nil, Nat.zero_add]) rfl ?_
  intro k ⟨hle, hf⟩ ih
  refine SemW_go (by kernel_rfl) ?_
  simp only [PP, P1, P2, P3, P4, P5, P6, P7, P8, P9, P10, P11, P12, P13, P14, L1, P15, N1, N2, N3, N4, N5, N6, N7, I1, I2, I3, I4, I5, I6, I7, reduceIte, reduceCtorEq]
  refine QIf.intro (fun c => ?_) (fun c => ?_)
  · have hk' : k < ow.length := by omega
    have k0 : (0 : Int) ≤ k := by omega
    have kn : (k : Int) < ow.length := by omega
    have hwk := wrap_succ (k := k) (by show _ < 1000000000000; omega)
    obtain ⟨o, g1⟩ := some_of (xs := ow) (k := k) hk'
    obtain ⟨w, g2⟩ := some_of (xs := ws) (k := k) (by omega)
    obtain ⟨s, g3⟩ := some_of (xs := ss) (k := k) (by omega)
    obtain ⟨r, g4⟩ := some_of (xs := su) (k := k) (by omega)
    have e1 : ow.getD k 0 = o := getD_some g1
    have e2 : ws.getD k 0 = w := getD_some g2
    have e3 : ss.getD k 0 = s := getD_some g3
    have e4 : su.getD k [] = r := by simp [List.getD, g4]
    have bad : ¬ FormAt ow su ws ss k → ¬ CorrP ow pr su ws ss := fun h q => h (q.form k hk')
    have good : FormAt ow su ws ss k → k + 1 ≤ ow.length ∧ ∀ v, v < k + 1 → FormAt ow su ws ss v := fun h => ⟨hk', fun v hv => by
      by_cases e : v = k
      · subst e; exact h
      · exact hf v (by omega)⟩
    simp only [PP, P1, P2, P3, P4, P5, P6, P7, P8, P9, P10, P11, P12, P13, P14, L1, P15, N1, N2, N3, N4, N5, N6, N7, I1, I2, I3, I4, I5, I6, I7, reduceIte, reduceCtorEq, c, k0, kn, g2, lw]
    refine QIf.intro (fun d => ?_) (fun d => ?_)
    · simp only [PP, P1, P2, P3, P4, P5, P6, P7, P8, P9, P10, P11, P12, P13, P14, L1, P15, N1, N2, N3, N4, N5, N6, N7, I1, I2, I3, I4, I5, I6, I7, reduceIte, reduceCtorEq, d]
      exact no (bad fun h => h.k (by rw [e2]; exact d))
    simp only [PP, P1, P2, P3, P4, P5, P6, P7, P8, P9, P10, P11, P12, P13, P14, L1, P15, N1, N2, N3, N4, N5, N6, N7, I1, I2, I3, I4, I5, I6, I7, reduceIte, reduceCtorEq, d, k0, kn, g1, g2, lw]
    refine QIf.intro (fun d2 => ?_) (fun d2 => ?_)
    · simp only [PP, P1, P2, P3, P4, P5, P6, P7, P8, P9, P10, P11, P12, P13, P14, L1, P15, N1, N2, N3, N4, N5, N6, N7, I1, I2, I3, I4, I5, I6, I7, reduceIte, reduceCtorEq, d2, k0, kn, g1, g2, g3, g4, hs, ls, lw]
      refine hasInt_p T (B.r r (List.mem_of_getElem? g4)) ?_
      by_cases q : s ∈ r
      · simp only [PP, P1, P2, P3, P4, P5, P6, P7, P8, P9, P10, P11, P12, P13, P14, L1, P15, N1, N2, N3, N4, N5, N6, N7, I1, I2, I3, I4, I5, I6, I7, reduceIte, reduceCtorEq, d2, q, k0, kn, g1, g2, lw, hwk]
        exact SemW_weak (ih (k + 1) (good ⟨by rw [e2]; exact d, fun _ => by rw [e3, e4]; exact q, fun h => absurd (by rw [e1, e2]; exact d2) h⟩) (by omega)) (by simp only [PWeak_nil, PWeak_junk, PWeak_same, Int.cast_ofNat_Int, List.length_append, List.length_cons, List.length_nil, Nat.zero_add])
      · simp only [PP, P1, P2, P3, P4, P5, P6, P7, P8, P9, P10, P11, P12, P13, P14, L1, P15, N1, N2, N3, N4, N5, N6, N7, I1, I2, I3, I4, I5, I6, I7, reduceIte, reduceCtorEq, q]
        exact no (bad fun h => q (by have := h.own (by rw [e1, e2]; exact d2); rwa [e3, e4] at this))
    · simp only [PP, P1, P2, P3, P4, P5, P6, P7, P8, P9, P10, P11, P12, P13, P14, L1, P15, N1, N2, N3, N4, N5, N6, N7, I1, I2, I3, I4, I5, I6, I7, reduceIte, reduceCtorEq, d2, k0, kn, g1, g2, g3, ls, lw]
      refine QIf.intro (fun q => ?_) (fun q => ?_)
      · simp only [PP, P1, P2, P3, P4, P5, P6, P7, P8, P9, P10, P11, P12, P13, P14, L1, P15, N1, N2, N3, N4, N5, N6, N7, I1, I2, I3, I4, I5, I6, I7, reduceIte, reduceCtorEq, q, hwk]
        exact SemW_weak (ih (k + 1) (good ⟨by rw [e2]; exact d, fun h => absurd (by rw [← e1, ← e2]; exact h) d2, fun _ => by rw [e3]; exact q⟩) (by omega)) (by simp only [PWeak_nil, PWeak_junk, PWeak_same, Int.cast_ofNat_Int, List.length_append, List.length_cons, List.length_nil, Nat.zero_add])
      · simp only [PP, P1, P2, P3, P4, P5, P6, P7, P8, P9, P10, P11, P12, P13, P14, L1, P15, N1, N2, N3, N4, N5, N6, N7, I1, I2, I3, I4, I5, I6, I7, reduceIte, reduceCtorEq, q]
        exact no (bad fun h => q (by have := h.opp (by rw [e1, e2]; exact d2); rwa [e3] at this))
  have hkn : k = ow.length := by omega
  subst hkn
  simp only [PP, P1, P2, P3, P4, P5, P6, P7, P8, P9, P10, P11, P12, P13, P14, L1, P15, N1, N2, N3, N4, N5, N6, N7, I1, I2, I3, I4, I5, I6, I7, reduceIte, reduceCtorEq, c]
  refine loop1 (fun (q : Nat) => q ≤ 2 ∧ ∀ p : Int, 0 ≤ p → p < q → ∀ v, v < ow.length → ws.getD v 0 = p → ¬ Lost (solE ow su ws ss p) (zP pr) p v)
    (fun q => [.junk, .junk, .ptr 0 0 0, .ptr 1 0 0, .junk, p64 ow.length, .junk, p8 q, .junk, .junk, .junk, .junk, .junk, .junk, .junk, .junk, .junk, .junk, .junk, .junk, .junk, .junk, .junk, .junk, .junk, .junk, .junk, .junk, .junk, .junk, .junk, .junk, .junk, .junk, .junk, .junk, .junk, .junk, .junk, .junk, .junk, .junk, .junk, .junk, .junk, .junk, .junk, .junk, .junk, .junk, .junk, .junk, .junk, .junk, .junk, .junk, .junk, .junk, .junk, .junk, .junk, .junk, .junk, .junk, .junk, .junk, .junk, .junk, .junk, .junk, .junk, .junk, .junk, .junk, .junk, .junk, .junk, .junk, .junk, .junk, .junk, .junk, .junk, .junk, .junk, .junk, .junk, .junk, .junk, .junk, .junk, .junk, .junk, .junk, .junk, .junk, .junk, .junk, .junk, .junk, .junk, .junk, .junk, .junk, .junk, .junk, .junk, .junk, .junk, .junk, .junk, .junk, .junk, .junk, .junk, .junk, .junk, .junk, .junk, .junk, .junk])
    (fun q => [.cells 0 0 [slI f1 o1 .u8 ow, slI f2 o2 .i64 pr, slR f3 o3 f4 o4 .i64 su], .cells 0 0 [slI f5 o5 .u8 ws, slI f6 o6 .i64 ss]])
    (fun q => 2 - q) 0 ⟨by omega, by intro v h1 h2; omega⟩ (by simp only [PWeak_nil, PWeak_junk, PWeak_same, Int.cast_ofNat_Int, List.length_append, List.length_cons, List.length_nil, Nat.zero_add]) rfl ?_
  intro q ⟨hle2, hq⟩ ih2
  refine SemW_go (by kernel_rfl) ?_
  simp only [PP, P1, P2, P3, P4, P5, P6, P7, P8, P9, P10, P11, P12, P13, P14, L1, P15, N1, N2, N3, N4, N5, N6, N7, I1, I2, I3, I4, I5, I6, I7, reduceIte, reduceCtorEq]
  refine QIf.intro (fun d => ?_) (fun d => ?_)
  · have hq2 : q < 2 := by omega
    have hwq : IntKind.u8.wrap ((q : Int) + 1) = ((q + 1 : Nat) : Int) := by
      have : q = 0 ∨ q = 1 := by omega
      rcases this with rfl | rfl <;> rfl
    simp only [PP, P1, P2, P3, P4, P5, P6, P7, P8, P9, P10, P11, P12, P13, P14, L1, P15, N1, N2, N3, N4, N5, N6, N7, I1, I2, I3, I4, I5, I6, I7, reduceIte, reduceCtorEq, d]
    refine own_p T (by show _ < 1000000000000; omega) lw ls ?_
    simp only [PP, P1, P2, P3, P4, P5, P6, P7, P8, P9, P10, P11, P12, P13, P14, L1, P15, N1, N2, N3, N4, N5, N6, N7, I1, I2, I3, I4, I5, I6, I7, reduceIte, reduceCtorEq]
    refine moves_p T B hs (tabA_len _ _) ?_
    simp only [PP, P1, P2, P3, P4, P5, P6, P7, P8, P9, P10, P11, P12, P13, P14, L1, P15, N1, N2, N3, N4, N5, N6, N7, I1, I2, I3, I4, I5, I6, I7, reduceIte, reduceCtorEq]
    refine loses_p T (mov_in V B) (tabA_len _ _) hp (by omega) (by omega) (fun x hx => (V.pri0 x hx).1) (fun l hl hlost => ?_)
    simp only [PP, P1, P2, P3, P4, P5, P6, P7, P8, P9, P10, P11, P12, P13, P14, L1, P15, N1, N2, N3, N4, N5, N6, N7, I1, I2, I3, I4, I5, I6, I7, reduceIte, reduceCtorEq]
    refine loop1 (fun (v : Nat) => v ≤ ow.length ∧ ∀ u, u < v → ws.getD u 0 = q → ¬ bm l u)
      (fun v => [.junk, .junk, .ptr 0 0 0, .ptr 1 0 0, .junk, p64 ow.length, .junk, p8 q, slB false true l, p64 v, .junk, .junk, .junk, .junk, .junk, .junk, .junk, .junk, .junk, .junk, .junk, .junk, .junk, .junk, .junk, .junk, .junk, .junk, .junk, .junk, .junk, .junk, .junk, .junk, .junk, .junk, .junk, .junk, .junk, .junk, .junk, .junk, .junk, .junk, .junk, .junk, .junk, .junk, .junk, .junk, .junk, .junk, .junk, .junk, .junk, .junk, .junk, .junk, .junk, .junk, .junk, .junk, .junk, .junk, .junk, .junk, .junk, .junk, .junk, .junk, .junk, .junk, .junk, .junk, .junk, .junk, .junk, .junk, .junk, .junk, .junk, .junk, .junk, .junk, .junk, .junk, .junk, .junk, .junk, .junk, .junk, .junk, .junk, .junk, .junk, .junk, .junk, .junk, .junk, .junk, .junk, .junk, .junk, .junk, .junk, .junk, .junk, .junk, .junk, .junk, .junk, .junk, .junk, .junk, .junk, .junk, .junk, .junk, .junk, .junk, .junk])
      (fun v => [.cells 0 0 [slI f1 o1 .u8 ow, slI f2 o2 .i64 pr, slR f3 o3 f4 o4 .i64 su], .cells 0 0 [slI f5 o5 .u8 ws, slI f6 o6 .i64 ss]])
      (fun v => ow.length - v) 0 ⟨by omega, by intro v h1; omega⟩ (by simp only [PWeak_nil, PWeak_junk, PWeak_same, Int.cast_ofNat_Int, List.length_append, List.length_cons, List.length_nil, Nat.zero_add]) rfl ?_
    intro v ⟨hle3, hv⟩ ih3
    refine SemW_go (by kernel_rfl) ?_
    simp only [PP, P1, P2, P3, P4, P5, P6, P7, P8, P9, P10, P11, P12, P13, P14, L1, P15, N1, N2, N3, N4, N5, N6, N7, I1, I2, I3, I4, I5, I6, I7, reduceIte, reduceCtorEq]
    refine QIf.intro (fun x => ?_) (fun x => ?_)
    · have hv' : v < ow.length := by omega
      have v0 : (0 : Int) ≤ v := by omega
      have vn : (v : Int) < ow.length := by omega
      have hwk := wrap_succ (k := v) (by show _ < 1000000000000; omega)
      obtain ⟨w, g2⟩ := some_of (xs := ws) (k := v) (by omega)
      obtain ⟨y, g3⟩ := some_of (xs := l) (k := v) (by omega)
      have e2 : ws.getD v 0 = w := getD_some g2
      have next : (w = (q : Int) → y = false) → v + 1 ≤ ow.length ∧ ∀ u, u < v + 1 → ws.getD u 0 = q → ¬ bm l u := fun h => ⟨hv', fun u hu hwu => by
        by_cases e : u = v
        · subst e; rw [bm_of g3, h (by rw [← e2]; exact hwu)]; intro q; cases q
        · exact hv u (by omega) hwu⟩
      simp only [PP, P1, P2, P3, P4, P5, P6, P7, P8, P9, P10, P11, P12, P13, P14, L1, P15, N1, N2, N3, N4, N5, N6, N7, I1, I2, I3, I4, I5, I6, I7, reduceIte, reduceCtorEq, x, v0, vn, g2, lw]
      refine QIf.intro (fun e => ?_) (fun e => ?_)
      · cases y with
        | true =>
          simp only [PP, P1, P2, P3, P4, P5, P6, P7, P8, P9, P10, P11, P12, P13, P14, L1, P15, N1, N2, N3, N4, N5, N6, N7, I1, I2, I3, I4, I5, I6, I7, reduceIte, reduceCtorEq, e, v0, vn, g3, hl]
          exact no fun h => h.win q (by omega) v hv' (by rw [e2]; exact e) ((hlost v hv').1 ((bm_of g3).2 rfl))
        | false =>
          simp only [PP, P1, P2, P3, P4, P5, P6, P7, P8, P9, P10, P11, P12, P13, P14, L1, P15, N1, N2, N3, N4, N5, N6, N7, I1, I2, I3, I4, I5, I6, I7, reduceIte, reduceCtorEq, e, v0, vn, g3, hl, hwk]
          exact SemW_weak (ih3 (v + 1) (next fun _ => rfl) (by omega)) (by simp only [PWeak_nil, PWeak_junk, PWeak_same, Int.cast_ofNat_Int, List.length_append, List.length_cons, List.length_nil, Nat.zero_add])
      · simp only [PP, P1, P2, P3, P4, P5, P6, P7, P8, P9, P10, P11, P12, P13, P14, L1, P15, N1, N2, N3, N4, N5, N6, N7, I1, I2, I3, I4, I5, I6, I7, reduceIte, reduceCtorEq, e, hwk]
        exact SemW_weak (ih3 (v + 1) (next fun h => absurd h e) (by omega)) (by simp only [PWeak_nil, PWeak_junk, PWeak_same, Int.cast_ofNat_Int, List.length_append, List.length_cons, List.length_nil, Nat.zero_add])
    · have hvn : v = ow.length := by omega
      subst hvn
      simp only [PP, P1, P2, P3, P4, P5, P6, P7, P8, P9, P10, P11, P12, P13, P14, L1, P15, N1, N2, N3, N4, N5, N6, N7, I1, I2, I3, I4, I5, I6, I7, reduceIte, reduceCtorEq, x, hwq]
      refine SemW_weak (ih2 (q + 1) ⟨by omega, fun p h1 h2 v hv' hw => ?_⟩ (by omega)) (by simp only [PWeak_nil, PWeak_junk, PWeak_same, Int.cast_ofNat_Int, List.length_append, List.length_cons, List.length_nil, Nat.zero_add])
      by_cases e : p = q
      · subst e; rw [← hlost v hv']; exact hv v hv' hw
      · exact hq p h1 (by omega) v hv' hw
  · have : q = 2 := by omega
    subst this
    simp only [PP, P1, P2, P3, P4, P5, P6, P7, P8, P9, P10, P11, P12, P13, P14, L1, P15, N1, N2, N3, N4, N5, N6, N7, I1, I2, I3, I4, I5, I6, I7, reduceIte, reduceCtorEq, d]
    exact yes ⟨c1, lw, ls, hf, fun p hp => hq p (by omega) (by omega)⟩
end
end Go.Am.Ar
set_option linter.unusedVariables false
set_option linter.unusedSimpArgs false
set_option maxRecDepth 10000
namespace Go.Am.Ar
open Go.Am renaming pchk → P1, pold → P2, PKNo → P3, ppack → P4, PObj.under → P5, pput → P6, ptset → P7, ptget → P8, pev → P9, ofAV → P10, ofAV1 → P11, ppad → P12, pfill → P13, prepl → P14, AO.effect → P15
open List renaming replicate → L1
open Nat renaming reduceAdd → N1, reduceSub → N2, reduceMul → N3, reduceLT → N4, reduceLeDiff → N5, reduceEqDiff → N6, reduceBEq → N7
open Int renaming reduceToNat → I1, reduceLT → I2, reduceLE → I3, reduceEq → I4, reduceAdd → I5, reduceSub → I6, reduceNeg → I7
theorem SolIn.congr {O : Nat → Int} {S : Nat → List Nat} {R : Nat → Int} {D : Nat → Prop} {p : Int} {W : Nat → Prop} {s s' : Nat → Nat} (h : SolIn O S R D p W s) (hs : ∀ v, W v → O v = p → s' v = s v) : SolIn O S R D p W s' :=
  ⟨h.sub, fun v hv ho => by rw [hs v hv ho]; exact h.own v hv ho, h.opp, fun c k hk hper hW hS hc => h.cyc c k hk hper hW hS fun i ho => by rw [hc i ho, hs _ (hW i) ho]⟩
structure SolL (ow pr : List Int) (su : List (List Int)) (ws ss : List Int) : Prop where
  lw : ws.length = ow.length
  ls : ss.length = ow.length
  sol : IsSol ow.length (zO ow) (Sf su) (zP pr) (fun v => ws.getD v 0) (stN ss)
  own : ∀ v, v < ow.length → ws.getD v 0 = ow.getD v 0 → 0 ≤ ss.getD v 0
  opp : ∀ v, v < ow.length → ¬ ws.getD v 0 = ow.getD v 0 → ss.getD v 0 = -1
section
variable {tab : FuncId → Option AF} (T : HasA tab)
include T
end
end Go.Am.Ar
set_option linter.unusedVariables false
namespace Go.Am.Ar
end Go.Am.Ar
set_option linter.unusedVariables false
set_option linter.unusedSimpArgs false
set_option maxRecDepth 10000
namespace Go.Am.Ar
open Go.Am renaming pchk → P1, pold → P2, PKNo → P3, ppack → P4, PObj.under → P5, pput → P6, ptset → P7, ptget → P8, pev → P9, ofAV → P10, ofAV1 → P11, ppad → P12, pfill → P13, prepl → P14, AO.effect → P15
open List renaming replicate → L1
open Nat renaming reduceAdd → N1, reduceSub → N2, reduceMul → N3, reduceLT → N4, reduceLeDiff → N5, reduceEqDiff → N6, reduceBEq → N7
open Int renaming reduceToNat → I1, reduceLT → I2, reduceLE → I3, reduceEq → I4, reduceAdd → I5, reduceSub → I6, reduceNeg → I7
theorem SemC_args {tab : FuncId → Option AF} {g : FuncId} {args args2 : List PV} {M : Mem} {K : PV → Mem → Prop} (h : ∀ w l, RepL w args l → RepL w args2 l) (hc : SemC tab g args2 M K) : SemC tab g args M K :=
  fun w hh args' h0 s ha => hc w hh args' h0 s (h w args' ha)
theorem valid_O {ow pr : List Int} {su : List (List Int)} (V : Valid ow pr su) (ho : ∀ x ∈ ow, 0 ≤ x) : ∀ v, v < ow.length → zO ow v = 0 ∨ zO ow v = 1 := fun v hv => by
  have h2 := (V.row v (by rw [V.s]; exact hv)).2.2.1
  have h3 : 0 ≤ ow.getD v 0 := by rw [List.getD, List.getElem?_eq_getElem hv]; exact ho _ (List.getElem_mem hv)
  show ow.getD v 0 = 0 ∨ ow.getD v 0 = 1
  omega
theorem valid_S {ow pr : List Int} {su : List (List Int)} (V : Valid ow pr su) : ∀ v, v < ow.length → Sf su v ≠ [] ∧ ∀ u ∈ Sf su v, u < ow.length := fun v hv => ⟨(Sf_ok V hv).1, (Sf_ok V hv).2.1⟩
theorem SolL.unique {ow pr : List Int} {su : List (List Int)} {ws ss : List Int} {w' : Nat → Int} {s' : Nat → Nat} (V : Valid ow pr su) (ho : ∀ x ∈ ow, 0 ≤ x) (L : SolL ow pr su ws ss) (h : IsSol ow.length (zO ow) (Sf su) (zP pr) w' s') : ∀ v, v < ow.length → ws.getD v 0 = w' v :=
  IsSol.unique (valid_O V ho) (fun v hv => (valid_S V v hv).2) L.sol h
theorem getD_ext {a b : List Int} (hl : a.length = b.length) (h : ∀ v, v < a.length → a.getD v 0 = b.getD v 0) : a = b := by
  apply List.ext_getElem hl
  intro v h1 h2
  have := h v h1
  rw [List.getD, List.getD, List.getElem?_eq_getElem h1, List.getElem?_eq_getElem h2] at this
  exact this
section
variable {tab : FuncId → Option AF} (T : HasA tab)
include T
end
end Go.Am.Ar
set_option linter.unusedVariables false
set_option linter.unusedSimpArgs false
set_option maxRecDepth 10000
namespace Go.Am.Ar
open Go.Am renaming pchk → P1, pold → P2, PKNo → P3, ppack → P4, PObj.under → P5, pput → P6, ptset → P7, ptget → P8, pev → P9, ofAV → P10, ofAV1 → P11, ppad → P12, pfill → P13, prepl → P14, AO.effect → P15
open List renaming replicate → L1
open Nat renaming reduceAdd → N1, reduceSub → N2, reduceMul → N3, reduceLT → N4, reduceLeDiff → N5, reduceEqDiff → N6, reduceBEq → N7
open Int renaming reduceToNat → I1, reduceLT → I2, reduceLE → I3, reduceEq → I4, reduceAdd → I5, reduceSub → I6, reduceNeg → I7
theorem SolL.eq {ow pr : List Int} {su : List (List Int)} {ws ss ws' ss' : List Int} (V : Valid ow pr su) (ho : ∀ x ∈ ow, 0 ≤ x) (L : SolL ow pr su ws ss) (L' : SolL ow pr su ws' ss') : ws = ws' :=
  getD_ext (by rw [L.lw, L'.lw]) fun v hv => L.unique V ho L'.sol v (by rw [← L.lw]; exact hv)
section
variable {ow pr ws ss : List Int} {su : List (List Int)} {p : Int} (V : Valid ow pr su) (L : SolL ow pr su ws ss) (hp : p = 0 ∨ p = 1)
include V L hp
end
section
variable {tab : FuncId → Option AF} (T : HasA tab)
include T
end
end Go.Am.Ar

