/- Contracts: the attractor of the program, and what goes with it. -/
import Derived.Test.YtjknfmndhbafoaaArenaAttractorsG1
import Derived.Test.YtjknfmndhbafoaaPmR
import Derived.Test.YtjknfmndhbafoaaArenaAttractorsG0
import Derived.Test.YtjknfmndhbafoaaPmC
set_option linter.unusedVariables false
set_option linter.unusedSimpArgs false
set_option maxRecDepth 10000
namespace Go.Am.Ar
open Go.Am renaming pchk → P1, pold → P2, PKNo → P3, ppack → P4, PObj.under → P5, pput → P6, ptset → P7, ptget → P8, pev → P9, ofAV → P10, ofAV1 → P11, ppad → P12, pfill → P13, prepl → P14, AO.effect → P15
open List renaming replicate → L1
open Nat renaming reduceAdd → N1, reduceSub → N2, reduceMul → N3, reduceLT → N4, reduceLeDiff → N5, reduceEqDiff → N6, reduceBEq → N7
open Int renaming reduceToNat → I1, reduceLT → I2, reduceLE → I3, reduceEq → I4, reduceAdd → I5, reduceSub → I6, reduceNeg → I7

theorem tabL_set {n : Nat} {f : Nat → Int} {u : Nat} (x : Int) (h : u < n) : (tabL n f).set u x = tabL n (upd f u x) := tabL_of (by rw [List.length_set, tabL_len]) fun v hv => by
  unfold upd
  by_cases e : v = u
  · subst e; rw [if_pos rfl, set_at (by rw [tabL_len]; exact h)]
  · rw [if_neg e, set_low e, tabL_get hv]
theorem need_get {len side o : Int} (h1 : 0 ≤ side) (h2 : side ≤ 1) (h3 : 0 ≤ o) (h4 : o ≤ 1) : ([p64 len, p64 len].set side.toNat (p64 1))[o.toNat]? = some (p64 (if o = side then 1 else len)) := by
  have e1 : side = 0 ∨ side = 1 := by omega
  have e2 : o = 0 ∨ o = 1 := by omega
  rcases e1 with rfl | rfl <;> rcases e2 with rfl | rfl <;> rfl

theorem lp_is {lp : PLoop} {B : AC} (h1 : lp.state = .ready) (h2 : lp.pending = none) (hB : lp.body = B) : (⟨.ready, none, lp.tmps, lp.params, lp.assign, B⟩ : PLoop) = lp := by
  cases lp; simp_all
theorem under_rows (m n : Nat) (f : Nat → List Int) : underL m (tabA n fun u => slI false true .i64 (f u)) = true := (underL_iff m _).2 fun v hv => by
  obtain ⟨u, _, rfl⟩ := tabA_mem hv
  exact under_slI _ _ _ _ _ _ _
/-- What is open of a position at first. -/
def open0 (ow : List Int) (su : List (List Int)) (side : Int) (v : Nat) : Int := if ow.getD v 0 = side then 1 else ((su.getD v []).length : Int)
theorem row_ok {ow pr : List Int} {su : List (List Int)} (V : Valid ow pr su) {v : Nat} (hv : v < ow.length) : su.getD v [] ≠ [] ∧ (su.getD v []).Pairwise (· < ·) ∧ ∀ u ∈ su.getD v [], 0 ≤ u ∧ u < ow.length := by
  have hs := V.s
  have hi : v < su.length := by omega
  obtain ⟨_, _, _, h1, q⟩ := V.row v hi
  have e : su.getD v [] = su[v] := by simp [List.getD, hi]
  obtain ⟨q1, q2⟩ := posM_rise q
  rw [e]
  exact ⟨fun h => by rw [h] at h1; simp at h1, q1, fun u hu => by have := q2 u hu; omega⟩
theorem Sf_mem {ow pr : List Int} {su : List (List Int)} (V : Valid ow pr su) {v x : Nat} (hv : v < ow.length) : x ∈ Sf su v ↔ (x : Int) ∈ su.getD v [] := by
  constructor
  · intro h
    obtain ⟨w, hw, rfl⟩ := List.mem_map.1 h
    have := (row_ok V hv).2.2 w hw
    rwa [Int.toNat_of_nonneg this.1]
  · exact fun h => List.mem_map.2 ⟨_, h, rfl⟩
theorem Sf_ok {ow pr : List Int} {su : List (List Int)} (V : Valid ow pr su) {v : Nat} (hv : v < ow.length) : Sf su v ≠ [] ∧ (∀ u ∈ Sf su v, u < ow.length) ∧ (Sf su v).Nodup := by
  obtain ⟨h1, h2, h3⟩ := row_ok V hv
  refine ⟨fun h => h1 (List.map_eq_nil_iff.1 h), fun u hu => ?_, ?_⟩
  · obtain ⟨w, hw, rfl⟩ := List.mem_map.1 hu
    have := h3 w hw; omega
  · unfold Sf
    refine List.pairwise_map.2 (List.Pairwise.imp_of_mem ?_ h2)
    intro a b ha hb hab e
    have := h3 a ha; have := h3 b hb; omega
theorem not_before {l : List Nat} (hd : l.Nodup) {k u : Nat} (h : l[k]? = some u) : u ∉ l.take k := by
  intro hm
  obtain ⟨j, hj, e⟩ := List.mem_iff_getElem.1 hm
  obtain ⟨hk, e2⟩ := List.getElem?_eq_some_iff.1 h
  have hj2 : j < k := by simp at hj; omega
  rw [List.getElem_take] at e
  exact List.pairwise_iff_getElem.1 hd j k (by omega) hk hj2 (by rw [e, e2])
theorem predN_nodup (su : List (List Int)) (k u : Nat) : (predN su k u).Nodup := List.Pairwise.filter _ List.nodup_range
theorem keep_back {keep : List Int} (h : ∀ x ∈ keep, 0 ≤ x) : keep = (keep.map Int.toNat).map (fun v => ((v : Nat) : Int)) := by
  rw [List.map_map]
  conv => lhs; rw [← List.map_id keep]
  exact List.map_congr_left fun x hx => by have := h x hx; simp only [id, Function.comp]; omega
section
variable {tab : FuncId → Option AF} (T : HasA tab)
include T

theorem attract_p {M : Mem} {K : PV → Mem → Prop} {f1 p1 f2 p2 f3 p3 f4 p4 f5 p5 : Bool} {ow pr keep : List Int} {side : Int} {su : List (List Int)} (B : Bnd ow pr su) (hb : keep.length < big) (hs0 : 0 ≤ side) (ho : ∀ x ∈ ow, 0 ≤ x) (hq : K (attrM ow pr su side keep) M) :
    SemC tab 13 [gmP f1 p1 f2 p2 f3 p3 f4 p4 ow pr su, p8 side, slI f5 p5 .i64 keep] M K := by
  refine SemC_wk ?_
  refine SemC_pure T.h13 (by simp only [PP, P1, P2, P3, P4, P5, P6, P7, P8, P9, P10, P11, P12, P13, P14, L1, P15, N1, N2, N3, N4, N5, N6, N7, I1, I2, I3, I4, I5, I6, I7, reduceIte, reduceCtorEq]) ?_
  simp only [af13, PP, P1, P2, P3, P4, P5, P6, P7, P8, P9, P10, P11, P12, P13, P14, L1, P15, N1, N2, N3, N4, N5, N6, N7, I1, I2, I3, I4, I5, I6, I7, reduceIte, reduceCtorEq, attrM] at hq ⊢
  refine acheck_p T B hb ?_
  simp only [PP, P1, P2, P3, P4, P5, P6, P7, P8, P9, P10, P11, P12, P13, P14, L1, P15, N1, N2, N3, N4, N5, N6, N7, I1, I2, I3, I4, I5, I6, I7, reduceIte, reduceCtorEq]
  refine QIf.intro (fun c1 => ?_) (fun c1 => ?_)
  rotate_left
  · simp only [PP, P1, P2, P3, P4, P5, P6, P7, P8, P9, P10, P11, P12, P13, P14, L1, P15, N1, N2, N3, N4, N5, N6, N7, I1, I2, I3, I4, I5, I6, I7, reduceIte, reduceCtorEq, c1] at hq ⊢
    exact ⟨_, wk_attr _, hq⟩
  simp only [PP, P1, P2, P3, P4, P5, P6, P7, P8, P9, P10, P11, P12, P13, P14, L1, P15, N1, N2, N3, N4, N5, N6, N7, I1, I2, I3, I4, I5, I6, I7, reduceIte, reduceCtorEq, c1] at hq ⊢
  obtain ⟨V, hside, hpm⟩ := wrong_zero c1
  have hs := V.s
  have n1 := V.n1
  have b0 : (0 : Int) ≤ ow.length := by omega
  have b1 : (ow.length : Int) * 8 ≤ 140737488355328 := by omega
  have b2 : (ow.length : Int) ≤ 9223372036854775807 := by omega
  simp only [PP, P1, P2, P3, P4, P5, P6, P7, P8, P9, P10, P11, P12, P13, P14, L1, P15, N1, N2, N3, N4, N5, N6, N7, I1, I2, I3, I4, I5, I6, I7, reduceIte, reduceCtorEq, b0, b1, b2, Int.le_refl]
  refine loop7 (fun (v vr vs vo : Nat) (a1 a2 a3 : List Int) => v ≤ ow.length ∧ a1.length = ow.length ∧ a2.length = ow.length ∧ a3.length = ow.length ∧ ∀ u, u < v → a1[u]? = some (-1) ∧ a2[u]? = some (-1) ∧ a3[u]? = some (open0 ow su side u))
    (fun v vr vs vo a1 a2 a3 => [.junk, p8 side, slI f5 p5 .i64 keep, .ptr 0 0 0, .junk, .junk, .ptr 1 0 0, .ref 3 0 1 0 ow.length, .junk, .junk, .junk, .ptr 5 0 0, .junk, .junk, .junk, .junk, .junk, .junk, .junk, .junk, .junk, .junk, .junk, .junk, .junk, .junk, .junk, .junk, .junk, .junk, .junk, .junk, .junk, .junk, .junk, .junk, .junk, .junk, .junk, p64 ow.length, p64 v, .junk, .junk, .junk, .junk, .junk, .junk, .junk, .junk, .junk, .junk, .junk, .junk, .junk, .junk, .junk, .junk, .junk, .junk, .junk, .junk, .junk, .junk, .junk, .junk, .junk, .junk, .junk, .junk, .junk, .junk, .junk, .junk, .junk, .junk, .junk, .junk, .junk, .junk, .junk, .junk, .junk, .junk, .junk, .junk, .junk, .junk, .junk, .junk, .junk, .junk, .junk, .junk, .junk, .junk, .junk, .junk, .junk, .junk, .junk, .junk, .junk, .junk, .junk, .junk, .junk, .junk, .junk, .junk, .junk, .junk, .junk, .junk, .junk, .junk, .junk, .junk, .junk, .junk, .junk, .junk, .junk, .junk, .junk, .junk, .junk, .junk, .junk, .junk, .junk, .junk, .junk, .junk, .junk, .junk, .junk, .junk, .junk, .junk, .junk, .junk, .junk, .junk, .junk, .junk, .junk, .junk, .junk, .junk, .junk, .junk, .junk, .junk, .junk, .junk, .junk, .junk, .junk, .junk, .junk, .junk, .junk, .junk])
    (fun v vr vs vo a1 a2 a3 => [.cells 0 0 [slI f1 p1 .u8 ow, slI f2 p2 .i64 pr, slR f3 p3 f4 p4 .i64 su], .cells 0 1 [.ref 2 0 1 0 ow.length], .cells 0 vr (a1.map (PV.int .i64)), .cells 0 vs (a2.map (PV.int .i64)), .cells 0 vo (a3.map (PV.int .i64)), .cells 0 1 [.ref 4 0 1 0 ow.length]])
    (fun v _ _ _ _ _ _ => ow.length - v) 0 0 0 0 (List.replicate ow.length 0) (List.replicate ow.length 0) (List.replicate ow.length 0) ⟨by omega, by simp, by simp, by simp, by intro v h; omega⟩ (by simp only [PWeak_nil, PWeak_junk, PWeak_same, Int.cast_ofNat_Int, List.length_append, List.length_cons, List.length_nil, Nat.zero_add]) (by simp only [List.map_replicate]) ?_
  intro v vr vs vo a1 a2 a3 ⟨hle, l1, l2, l3, ha⟩ ih
  refine SemW_go (by kernel_rfl) ?_
  simp only [PP, P1, P2, P3, P4, P5, P6, P7, P8, P9, P10, P11, P12, P13, P14, L1, P15, N1, N2, N3, N4, N5, N6, N7, I1, I2, I3, I4, I5, I6, I7, reduceIte, reduceCtorEq]
  refine QIf.intro (fun c => ?_) (fun c => ?_)
  · have hv : v < ow.length := by omega
    have v0 : (0 : Int) ≤ v := by omega
    have hwv := wrap_succ (k := v) (by show _ < 1000000000000; omega)
    have i1 : v + 1 ≤ ow.length := hv
    have cs : (v : Int) < su.length := by omega
    obtain ⟨row, g1⟩ := some_of (xs := su) (k := v) (by omega)
    obtain ⟨o, g2⟩ := some_of (xs := ow) (k := v) (by omega)
    have o0 : 0 ≤ o := ho o (List.mem_of_getElem? g2)
    have o1 : o ≤ 1 := by
      obtain ⟨_, _, q, _⟩ := V.row v (by omega)
      rwa [getD_some g2] at q
    have g3 := need_get (len := row.length) hs0 hside o0 o1
    have e0 : open0 ow su side v = if o = side then 1 else (row.length : Int) := by
      unfold open0; rw [getD_some g2, show su.getD v [] = row by simp [List.getD, g1]]
    have s2 : side < 2 := by omega
    have o2 : o < 2 := by omega
    have s3 : side.toNat + 1 ≤ 2 := by omega
    simp only [PP, P1, P2, P3, P4, P5, P6, P7, P8, P9, P10, P11, P12, P13, P14, L1, P15, N1, N2, N3, N4, N5, N6, N7, I1, I2, I3, I4, I5, I6, I7, reduceIte, reduceCtorEq, c, v0, l1, l2, l3, i1, cs, g1, g2, hs0, s2, s3, o0, o2, g3, hwv]
    refine SemW_re (GStep.drop (b := [.junk, p8 side, slI f5 p5 .i64 keep, .ptr 0 0 0, .junk, .junk, .ptr 1 0 0, .ref 3 0 1 0 ow.length, .junk, .junk, .junk, .ptr 5 0 0, .junk, .junk, .junk, .junk, .junk, .junk, .junk, .junk, .junk, .junk, .junk, .junk, .junk, .junk, .junk, .junk, .junk, .junk, .junk, .junk, .junk, .junk, .junk, .junk, .junk, .junk, .junk, p64 ow.length, p64 ((v + 1 : Nat) : Int), .junk, .junk, .junk, .junk, .junk, .junk, .junk, .junk, .junk, .junk, .junk, .junk, .junk, .junk, .junk, .junk, .junk, .junk, .junk, .junk, .junk, .junk, .junk, .junk, .junk, .junk, .junk, .junk, .junk, .junk, .junk, .junk, .junk, .junk, .junk, .junk, .junk, .junk, .junk, .junk, .junk, .junk, .junk, .junk, .junk, .junk, .junk, .junk, .junk, .junk, .junk, .junk, .junk, .junk, .junk, .junk, .junk, .junk, .junk, .junk, .junk, .junk, .junk, .junk, .junk, .junk, .junk, .junk, .junk, .junk, .junk, .junk, .junk, .junk, .junk, .junk, .junk, .junk, .junk, .junk, .junk, .junk, .junk, .junk, .junk, .junk, .junk, .junk, .junk, .junk, .junk, .junk, .junk, .junk, .junk, .junk, .junk, .junk, .junk, .junk, .junk, .junk, .junk, .junk, .junk, .junk, .junk, .junk, .junk, .junk, .junk, .junk, .junk, .junk, .junk, .junk, .junk, .junk, .junk, .junk, .junk, .junk]) 6 (Nat.zero_le _) (by simp) (by simp only [PWeak_nil, PWeak_junk, PWeak_same, Int.cast_ofNat_Int, List.length_append, List.length_cons, List.length_nil, Nat.zero_add]) (by simp only [PP, P1, P2, P3, P4, P5, P6, P7, P8, P9, P10, P11, P12, P13, P14, L1, P15, N1, N2, N3, N4, N5, N6, N7, I1, I2, I3, I4, I5, I6, I7, reduceIte, reduceCtorEq]) (by simp only [← List.map_set, PP, P1, P2, P3, P4, P5, P6, P7, P8, P9, P10, P11, P12, P13, P14, L1, P15, N1, N2, N3, N4, N5, N6, N7, I1, I2, I3, I4, I5, I6, I7, reduceIte, reduceCtorEq]) rfl) ?_
    refine SemW_to (ih (v + 1) (vr + 1) (vs + 1) (vo + 1) (a1.set v (-1)) (a2.set v (-1)) (a3.set v (open0 ow su side v)) ⟨by omega, by simp [l1], by simp [l2], by simp [l3], fun u hu => ?_⟩ (by omega)) (by simp only [PWeak_nil, PWeak_junk, PWeak_same, Int.cast_ofNat_Int, List.length_append, List.length_cons, List.length_nil, Nat.zero_add]) (by simp only [← List.map_set, e0, PP, P1, P2, P3, P4, P5, P6, P7, P8, P9, P10, P11, P12, P13, P14, L1, P15, N1, N2, N3, N4, N5, N6, N7, I1, I2, I3, I4, I5, I6, I7, reduceIte, reduceCtorEq])
    by_cases e : u = v
    · subst e; exact ⟨set_at (by omega), set_at (by omega), set_at (by omega)⟩
    · rw [set_low e, set_low e, set_low e]; exact ha u (by omega)
  · have hvn : v = ow.length := by omega
    subst hvn
    have ha1 := tabL_of (R := fun _ => -1) l1 (fun u hu => (ha u hu).1)
    have ha2 := tabL_of (R := fun _ => -1) l2 (fun u hu => (ha u hu).2.1)
    have ha3 := tabL_of l3 (fun u hu => (ha u hu).2.2)
    subst ha1 ha2 ha3
    simp only [PP, P1, P2, P3, P4, P5, P6, P7, P8, P9, P10, P11, P12, P13, P14, L1, P15, N1, N2, N3, N4, N5, N6, N7, I1, I2, I3, I4, I5, I6, I7, reduceIte, reduceCtorEq, c]
    refine SemW_re (GStep.nilbox 6 0 1 rfl rfl rfl) ?_
    simp only [List.length_cons, List.length_nil, List.set_cons_zero, List.set_cons_succ, List.cons_append, List.nil_append, Nat.reduceAdd]
    obtain ⟨hrise, hrange⟩ := posM_rise hpm
    refine loop4 (fun (k vr vb g : Nat) => k ≤ keep.length)
      (fun k vr vb g => [.junk, p8 side, .junk, .ptr 0 0 0, .junk, .junk, .ptr 1 0 0, .ref 3 0 1 0 ow.length, .junk, .junk, .junk, .ptr 5 0 0, .junk, .junk, .ptr 6 0 0, .ptr 7 0 0, .junk, .junk, .junk, .junk, .junk, .junk, .junk, .junk, .junk, .junk, .junk, .junk, .junk, .junk, .junk, .junk, .junk, .junk, .junk, .junk, .junk, .junk, .junk, .junk, .junk, .junk, .junk, .junk, .junk, .junk, .junk, .junk, .junk, .junk, .junk, .junk, .junk, .junk, .junk, .junk, .junk, .junk, .junk, .junk, .junk, .junk, .junk, .junk, .junk, .junk, .junk, .junk, .junk, .junk, .junk, .junk, .junk, .junk, .junk, .junk, slI f5 p5 .i64 keep, p64 keep.length, p64 k, .junk, .junk, .junk, .junk, .junk, .junk, .junk, .junk, .junk, .junk, .junk, .junk, .junk, .junk, .junk, .junk, .junk, .junk, .junk, .junk, .junk, .junk, .junk, .junk, .junk, .junk, .junk, .junk, .junk, .junk, .junk, .junk, .junk, .junk, .junk, .junk, .junk, .junk, .junk, .junk, .junk, .junk, .junk, .junk, .junk, .junk, .junk, .junk, .junk, .junk, .junk, .junk, .junk, .junk, .junk, .junk, .junk, .junk, .junk, .junk, .junk, .junk, .junk, .junk, .junk, .junk, .junk, .junk, .junk, .junk, .junk, .junk, .junk, .junk, .junk, .junk, .junk, .junk, .junk, .junk, .junk, .junk, .junk, .junk])
      (fun k vr vb g => [.cells 0 0 [slI f1 p1 .u8 ow, slI f2 p2 .i64 pr, slR f3 p3 f4 p4 .i64 su], .cells 0 1 [.ref 2 0 1 0 ow.length], .cells 0 vr ((tabL ow.length fun v => if (v : Int) ∈ keep.take k then 0 else -1).map (PV.int .i64)), .cells 0 vs ((tabL ow.length fun _ => -1).map (PV.int .i64)), .cells 0 vo ((tabL ow.length (open0 ow su side)).map (PV.int .i64)), .cells 0 1 [.ref 4 0 1 0 ow.length], .cells 0 vb [.ref 8 g 1 0 (keep.take k).length], .cells 0 1 [.func (.func 36) [] [.ptr 1 0 0, .ptr 6 0 0]], .cells g 0 ((keep.take k).map (PV.int .i64))])
      (fun k _ _ _ => keep.length - k) 0 vr 0 0 (by omega) (by simp only [PWeak_nil, PWeak_junk, PWeak_same, Int.cast_ofNat_Int, List.length_append, List.length_cons, List.length_nil, Nat.zero_add]) (by simp only [List.take_zero, List.not_mem_nil, if_false, List.map_nil, List.length_nil]) ?_
    intro k vr vb g hkle ih
    refine SemW_go (by kernel_rfl) ?_
    simp only [PP, P1, P2, P3, P4, P5, P6, P7, P8, P9, P10, P11, P12, P13, P14, L1, P15, N1, N2, N3, N4, N5, N6, N7, I1, I2, I3, I4, I5, I6, I7, reduceIte, reduceCtorEq]
    refine QIf.intro (fun d => ?_) (fun d => ?_)
    · have hk : k < keep.length := by omega
      have k0 : (0 : Int) ≤ k := by omega
      have hkb : keep.length < 1000000000000 := hb
      have hwk := wrap_succ (k := k) (by show _ < 1000000000000; omega)
      obtain ⟨x, e3⟩ := some_of hk
      obtain ⟨x0, x1⟩ := hrange x (List.mem_of_getElem? e3)
      have x0 : 0 ≤ x := by omega
      have xn : x.toNat + 1 ≤ ow.length := by omega
      have hlk : (keep.take k).length = k := by simp; omega
      have b3 : (k + 1) * 8 ≤ 140737488355328 := by omega
      have b4 : k + 1 ≤ 9223372036854775807 := by omega
      simp only [PP, P1, P2, P3, P4, P5, P6, P7, P8, P9, P10, P11, P12, P13, P14, L1, P15, N1, N2, N3, N4, N5, N6, N7, I1, I2, I3, I4, I5, I6, I7, reduceIte, reduceCtorEq, d, k0, e3]
      refine SemC_fn T.h36 ?_
      simp only [af36, PP, P1, P2, P3, P4, P5, P6, P7, P8, P9, P10, P11, P12, P13, P14, L1, P15, N1, N2, N3, N4, N5, N6, N7, I1, I2, I3, I4, I5, I6, I7, reduceIte, reduceCtorEq, x0, x1, xn, tabL_len, hlk, b3, b4, hwk]
      have hps : psub (List.map (PV.int .i64) (keep.take k)) 0 k = List.map (PV.int .i64) (keep.take k) := psub_all _ _ (by rw [List.length_map, hlk])
      have hset : ((tabL ow.length fun v => if (v : Int) ∈ keep.take k then 0 else -1).map (PV.int .i64)).set x.toNat (PV.int .i64 0) = (tabL ow.length fun v => if (v : Int) ∈ keep.take (k + 1) then 0 else -1).map (PV.int .i64) := by
        rw [← List.map_set]
        congr 1
        refine tabL_of (by rw [List.length_set, tabL_len]) fun v hv => ?_
        rw [take_some e3]
        by_cases e : v = x.toNat
        · subst e; rw [set_at (by rw [tabL_len]; omega), if_pos (List.mem_append_right _ (by simp; omega))]
        · rw [set_low e, tabL_get hv]
          have hiff : (v : Int) ∈ keep.take k ++ [x] ↔ (v : Int) ∈ keep.take k := by
            rw [List.mem_append, List.mem_singleton]
            exact ⟨fun h => h.elim id fun q => absurd (by omega) e, .inl⟩
          simp only [hiff]
      rw [hps, hset]
      have hlk2 : (keep.take (k + 1)).length = k + 1 := by simp; omega
      refine SemW_to (ih (k + 1) (vr + 1) (vb + 1) (g + 1) (by omega) (by omega)) (by simp only [PWeak_nil, PWeak_junk, PWeak_same, Int.cast_ofNat_Int, List.length_append, List.length_cons, List.length_nil, Nat.zero_add]) (by
        simp only [hlk2]
        simp only [take_some e3, List.map_append, List.map_cons, List.map_nil])
    · have hkl : keep.take k = keep := List.take_of_length_le (by omega)
      rw [hkl]
      simp only [PP, P1, P2, P3, P4, P5, P6, P7, P8, P9, P10, P11, P12, P13, P14, L1, P15, N1, N2, N3, N4, N5, N6, N7, I1, I2, I3, I4, I5, I6, I7, reduceIte, reduceCtorEq, d]
      refine predecessors_p T V B (by simp only [cutOk, PP, P1, P2, P3, P4, P5, P6, P7, P8, P9, P10, P11, P12, P13, P14, L1, P15, N1, N2, N3, N4, N5, N6, N7, I1, I2, I3, I4, I5, I6, I7, reduceIte, reduceCtorEq]) fun vp => ?_
      simp only [PP, P1, P2, P3, P4, P5, P6, P7, P8, P9, P10, P11, P12, P13, P14, L1, P15, N1, N2, N3, N4, N5, N6, N7, I1, I2, I3, I4, I5, I6, I7, reduceIte, reduceCtorEq]
      have hinit : ∀ y, BI ow.length (fun v => Pf ow side v = true) (Sf su) (rkOf ow su side keep) 0 y [] ⟨fun v => if (v : Int) ∈ keep then 0 else -1, open0 ow su side, keep.map Int.toNat⟩ := by
        have hR : IsRank ow.length (fun v => Pf ow side v = true) (Sf su) (fun v => Zf keep v = true) (rkOf ow su side keep) := rk_isRank fun v hv => ⟨(Sf_ok V hv).1, (Sf_ok V hv).2.1⟩
        have hmk : ∀ v, v ∈ keep.map Int.toNat ↔ (v : Int) ∈ keep := fun v => by
          constructor
          · intro h
            obtain ⟨w, hw, rfl⟩ := List.mem_map.1 h
            rwa [Int.toNat_of_nonneg (by have := hrange w hw; omega)]
          · exact fun h => List.mem_map.2 ⟨_, h, rfl⟩
        have hz : ∀ v, v < ow.length → (rkOf ow su side keep v = 0 ↔ (v : Int) ∈ keep) := fun v hv => by rw [hR.z v hv]; unfold Zf; exact decide_eq_true_iff
        have hq0 : ∀ v ∈ keep.map Int.toNat, v < ow.length ∧ rkOf ow su side keep v = 0 := fun v hv => by
          have h1 := (hmk v).1 hv
          have h2 := hrange _ h1
          have h3 : v < ow.length := by omega
          exact ⟨h3, (hz v h3).2 h1⟩
        intro y
        refine ⟨fun v hv => ?_, fun v hv hq => if_neg fun h => hq ((hmk v).2 h), ?_, fun v hv h => (hmk v).2 ((hz v hv).1 h), ?_, fun v hv a ha => ?_, fun u hu hq hp => ?_, fun u hu hq hp => ?_⟩
        · obtain ⟨h1, h2⟩ := hq0 v hv
          exact ⟨h1, by rw [h2]; exact if_pos ((hmk v).1 hv), by omega⟩
        · refine List.pairwise_map.2 (List.Pairwise.imp_of_mem ?_ hrise)
          intro a b ha hb hab e
          have := hrange a ha; have := hrange b hb; omega
        · refine List.Pairwise.imp_of_mem (R := fun _ _ => True) ?_ (List.pairwise_of_forall fun _ _ => trivial)
          intro a b ha hb _
          rw [(hq0 a ha).2, (hq0 b hb).2]; exact Int.le_refl _
        · rw [(hq0 v hv).2, (hq0 a (List.mem_of_getElem? ha)).2]; omega
        · refine ⟨if_pos (by simpa [Pf] using hp), by simp, by simp⟩
        · have e : open0 ow su side u = ((Sf su u).length : Int) := by
            unfold open0 Sf; rw [List.length_map, if_neg (by simpa [Pf] using hp)]
          have e2 : ((Sf su u).filter fun w => decide (w ∉ (keep.map Int.toNat).take 0 ∧ ¬ (w = y ∧ u ∈ ([] : List Nat)))) = Sf su u := List.filter_eq_self.2 fun w _ => by simp
          have e3 := List.length_pos_iff.2 (Sf_ok V hu).1
          refine ⟨by rw [e2]; exact e, ?_⟩
          show 0 < open0 ow su side u
          omega
      have hS : ∀ v, v < ow.length → (∀ u ∈ Sf su v, u < ow.length) ∧ (Sf su v).Nodup := fun v hv => (Sf_ok V hv).2
      have hS2 : ∀ v, v < ow.length → Sf su v ≠ [] ∧ ∀ u ∈ Sf su v, u < ow.length := fun v hv => ⟨(Sf_ok V hv).1, (Sf_ok V hv).2.1⟩
      have hR : IsRank ow.length (fun v => Pf ow side v = true) (Sf su) (fun v => Zf keep v = true) (rkOf ow su side keep) := rk_isRank hS2
      have hkm : keep = (keep.map Int.toNat).map (fun v => ((v : Nat) : Int)) := keep_back fun x hx => by have := hrange x hx; omega
      refine loop7 (fun (i : Nat) (s : BSt) (vr vo vb g v19 : Nat) => i ≤ s.q.length ∧ ∀ y, BI ow.length (fun v => Pf ow side v = true) (Sf su) (rkOf ow su side keep) i y [] s)
        (fun i s vr vo vb g v19 => [.junk, p8 side, .junk, .ptr 0 0 0, .junk, .junk, .ptr 1 0 0, .ref 3 0 1 0 ow.length, .junk, .junk, .junk, .ptr 5 0 0, .junk, .junk, .ptr 6 0 0, .ptr 7 0 0, .junk, .junk, .func (.func 55) [] [.ptr 11 0 0], .ptr 12 0 0, .junk, .junk, .junk, .junk, .junk, .junk, .junk, .junk, .junk, .junk, .junk, .junk, .junk, .junk, .junk, .junk, .junk, .junk, .junk, .junk, .junk, .junk, .junk, .junk, .junk, .junk, .junk, .junk, .junk, .junk, .junk, .junk, .junk, .junk, .junk, .junk, .junk, .junk, .junk, .junk, .junk, .junk, .junk, .junk, .junk, .junk, .junk, .junk, .junk, .junk, .junk, .junk, .junk, .junk, .junk, .junk, .junk, .junk, .junk, .junk, .junk, .junk, .junk, .junk, .junk, .junk, .junk, .junk, .junk, .junk, .junk, .junk, .junk, .junk, .junk, .junk, .junk, .junk, .junk, .junk, .junk, .junk, .junk, .junk, .junk, .junk, .junk, .junk, .junk, .junk, .junk, .junk, .junk, .junk, .junk, .junk, .junk, .junk, .junk, .junk, .junk, .junk, .junk, .junk, .junk, .junk, .junk, .junk, .junk, .junk, .junk, .junk, .junk, .junk, .junk, .junk, .junk, .junk, .junk, .junk, .junk, .junk, .junk, .junk, .junk, .junk, .junk, .junk, .junk, .junk, .junk, .junk, .junk, .junk, .junk, .junk, .junk, .junk, .junk, .junk, .junk, .junk, .junk])
        (fun i s vr vo vb g v19 => [.cells 0 0 [slI f1 p1 .u8 ow, slI f2 p2 .i64 pr, slR f3 p3 f4 p4 .i64 su], .cells 0 1 [.ref 2 0 1 0 ow.length], .cells 0 vr ((tabL ow.length s.c).map (PV.int .i64)), .cells 0 vs ((tabL ow.length fun _ => -1).map (PV.int .i64)), .cells 0 vo ((tabL ow.length s.op).map (PV.int .i64)), .cells 0 1 [.ref 4 0 1 0 ow.length], .cells 0 vb [.ref 8 g 1 0 s.q.length], .cells 0 1 [.func (.func 36) [] [.ptr 1 0 0, .ptr 6 0 0]], .cells g 0 ((s.q.map fun v => ((v : Nat) : Int)).map (PV.int .i64)), .cells 0 0 [slI f1 p1 .u8 ow, slI f2 p2 .i64 pr, slR f3 p3 f4 p4 .i64 su], .cells 0 vp (tabA ow.length fun u => slI false true .i64 (predI su ow.length u)), .cells 0 1 [.ref 10 0 1 0 ow.length], .cells 0 v19 [p64 i]])
        (fun i s _ _ _ _ _ => ow.length - i) 0 ⟨fun v => if (v : Int) ∈ keep then 0 else -1, open0 ow su side, keep.map Int.toNat⟩ vr vo vb g 1 ⟨by omega, hinit⟩ (by simp only [PWeak_nil, PWeak_junk, PWeak_same, Int.cast_ofNat_Int, List.length_append, List.length_cons, List.length_nil, Nat.zero_add]) (by simp only [List.length_map, ← hkm, Int.cast_ofNat_Int]) ?_
      intro i s vr vo vb g v19 ⟨hil, I⟩ ih
      refine SemW_loop (by kernel_rfl) ?_
      refine SemW_seq ?_
      refine SemW_of ?_
      simp only [PP, P1, P2, P3, P4, P5, P6, P7, P8, P9, P10, P11, P12, P13, P14, L1, P15, N1, N2, N3, N4, N5, N6, N7, I1, I2, I3, I4, I5, I6, I7, reduceIte, reduceCtorEq]
      refine QIf.intro (fun e1 => ?_) (fun e1 => ?_)
      · have hi : i < s.q.length := by omega
        have i0 : (0 : Int) ≤ i := by omega
        obtain ⟨x, gx⟩ := some_of hi
        obtain ⟨xn, hcx, hx0⟩ := (I 0).a1 x (List.mem_of_getElem? gx)
        have xn' : (x : Int) < ow.length := by omega
        have x0 : (0 : Int) ≤ x := by omega
        have gt := tabA_get (f := fun u => slI false true .i64 (predI su ow.length u)) xn
        simp only [PP, P1, P2, P3, P4, P5, P6, P7, P8, P9, P10, P11, P12, P13, P14, L1, P15, N1, N2, N3, N4, N5, N6, N7, I1, I2, I3, I4, I5, I6, I7, reduceIte, reduceCtorEq, e1]
        refine SemW_seq ?_
        refine SemW_of ?_
        simp only [PP, P1, P2, P3, P4, P5, P6, P7, P8, P9, P10, P11, P12, P13, P14, L1, P15, N1, N2, N3, N4, N5, N6, N7, I1, I2, I3, I4, I5, I6, I7, reduceIte, reduceCtorEq, e1, i0, gx]
        refine SemC_fn T.h55 ?_
        simp only [af55, PP, P1, P2, P3, P4, P5, P6, P7, P8, P9, P10, P11, P12, P13, P14, L1, P15, N1, N2, N3, N4, N5, N6, N7, I1, I2, I3, I4, I5, I6, I7, reduceIte, reduceCtorEq, x0, xn', gt]
        refine SemC_fn T.h56 ?_
        simp only [af56, PP, P1, P2, P3, P4, P5, P6, P7, P8, P9, P10, P11, P12, P13, P14, L1, P15, N1, N2, N3, N4, N5, N6, N7, I1, I2, I3, I4, I5, I6, I7, reduceIte, reduceCtorEq]
        refine SemW_rangeN rfl fun lp q1 q2 q3 q4 q5 q6 => ?_
        simp only [PP, P1, P2, P3, P4, P5, P6, P7, P8, P9, P10, P11, P12, P13, P14, L1, P15, N1, N2, N3, N4, N5, N6, N7, I1, I2, I3, I4, I5, I6, I7, reduceIte, reduceCtorEq]
        have hbp : (predI su ow.length x).length < big := by
          have := predI_len su ow.length x
          show _ < 1000000000000
          omega
        refine values_p T (f := false) (o := true) (fun k N => ∃ s' vr vo vb g ver, N = [.cells 0 0 [slI f1 p1 .u8 ow, slI f2 p2 .i64 pr, slR f3 p3 f4 p4 .i64 su], .cells 0 1 [.ref 2 0 1 0 ow.length], .cells 0 vr ((tabL ow.length (BSt.c s')).map (PV.int .i64)), .cells 0 vs ((tabL ow.length fun _ => -1).map (PV.int .i64)), .cells 0 vo ((tabL ow.length s'.op).map (PV.int .i64)), .cells 0 1 [.ref 4 0 1 0 ow.length], .cells 0 vb [.ref 8 g 1 0 s'.q.length], .cells 0 1 [.func (.func 36) [] [.ptr 1 0 0, .ptr 6 0 0]], .cells g 0 ((s'.q.map fun v => ((v : Nat) : Int)).map (PV.int .i64)), .cells 0 0 [slI f1 p1 .u8 ow, slI f2 p2 .i64 pr, slR f3 p3 f4 p4 .i64 su], .cells 0 vp (tabA ow.length fun u => slI false true .i64 (predI su ow.length u)), .cells 0 1 [.ref 10 0 1 0 ow.length], .cells 0 v19 [p64 i], .cells 0 0 [slI false true .i64 (predI su ow.length x)], .loop ver lp] ∧ BI ow.length (fun v => Pf ow side v = true) (Sf su) (rkOf ow su side keep) i x ((predN su ow.length x).take k) s' ∧ s'.q[i]? = some x) hbp ⟨s, vr, vo, vb, g, 0, rfl, I x, gx⟩ ?_ ?_ ?_
        · rintro k N ⟨s', vr, vo, vb, g, ver, rfl, I', gx'⟩
          exact ⟨rfl, _, _, rfl⟩
        · rintro k N uI ⟨s', vr, vo, vb, g, ver, rfl, I', gx'⟩ hu K' hK'
          obtain ⟨u, gu, rfl⟩ : ∃ u, (predN su ow.length x)[k]? = some u ∧ ((u : Nat) : Int) = uI := by
            unfold predI at hu
            rw [List.getElem?_map] at hu
            cases h : (predN su ow.length x)[k]? with
            | none => rw [h] at hu; cases hu
            | some u => rw [h] at hu; cases hu; exact ⟨u, rfl, rfl⟩
          refine SemY_run (ver := ver) (r := lp) rfl (by rw [q4]; rfl) ?_
          rw [q3, q4, q5]
          refine SemW_of ?_
          simp only [psetAll, PP, P1, P2, P3, P4, P5, P6, P7, P8, P9, P10, P11, P12, P13, P14, L1, P15, N1, N2, N3, N4, N5, N6, N7, I1, I2, I3, I4, I5, I6, I7, reduceIte, reduceCtorEq]
          refine ⟨ver, lp, rfl, q1, ?_⟩
          rw [q6]
          refine SemW_of ?_
          have hup : u < ow.length ∧ (x : Int) ∈ su.getD u [] := by
            have hm := List.mem_filter.1 (List.mem_of_getElem? gu)
            exact ⟨List.mem_range.1 hm.1, of_decide_eq_true hm.2⟩
          obtain ⟨hun, hxsu⟩ := hup
          have hxS : x ∈ Sf su u := List.mem_map.2 ⟨(x : Int), hxsu, rfl⟩
          have hud : u ∉ (predN su ow.length x).take k := not_before (predN_nodup _ _ _) gu
          have Inew := I'.step hR hS gx' hun hxS hud
          rw [← take_some gu] at Inew
          have hlp : ∀ B, lp.body = B → (⟨.ready, none, lp.tmps, lp.params, lp.assign, B⟩ : PLoop) = lp := fun B hB => lp_is q1 q2 hB
          have u0 : (0 : Int) ≤ u := by omega
          have un : (u : Int) < ow.length := by omega
          have un' : u + 1 ≤ ow.length := hun
          have gc := tabL_get (R := s'.c) hun
          have go := tabL_get (R := s'.op) hun
          simp only [PP, P1, P2, P3, P4, P5, P6, P7, P8, P9, P10, P11, P12, P13, P14, L1, P15, N1, N2, N3, N4, N5, N6, N7, I1, I2, I3, I4, I5, I6, I7, reduceIte, reduceCtorEq, u0, un, gc, tabL_len]
          refine QIf.intro (fun d1 => ?_) (fun d1 => ?_)
          · simp only [PP, P1, P2, P3, P4, P5, P6, P7, P8, P9, P10, P11, P12, P13, P14, L1, P15, N1, N2, N3, N4, N5, N6, N7, I1, I2, I3, I4, I5, I6, I7, reduceIte, reduceCtorEq, d1]
            refine ⟨_, _, rfl, ?_⟩
            rw [if_pos rfl]
            refine hK' _ ⟨s', vr, vo, vb, g, ver + 1 + 1, ?_, ?_, gx'⟩
            · simp only [PP, P1, P2, P3, P4, P5, P6, P7, P8, P9, P10, P11, P12, P13, P14, L1, P15, N1, N2, N3, N4, N5, N6, N7, I1, I2, I3, I4, I5, I6, I7, reduceIte, reduceCtorEq, hlp _ q6]
            · have e : stepU x s' u = s' := by unfold stepU; rw [if_pos d1]
              rwa [e] at Inew
          · have hop : 1 ≤ s'.op u ∧ s'.op u ≤ 1000000000000 := by
              have huq : u ∉ s'.q := fun h => d1 (by have := I'.a1 u h; omega)
              by_cases hp : Pf ow side u = true
              · have := (I'.cP u hun huq hp).1; omega
              · obtain ⟨h1, h2⟩ := I'.cO u hun huq hp
                have h3 := List.length_filter_le (fun w => decide (w ∉ s'.q.take i ∧ ¬ (w = x ∧ u ∈ (predN su ow.length x).take k))) (Sf su u)
                have h4 : (Sf su u).length ≤ ow.length := nodup_lenN _ _ (Sf_ok V hun).2.2 (Sf_ok V hun).2.1
                omega
            have w1 : IntKind.i64.wrap (s'.op u - 1) = s'.op u - 1 := wrap64 (by omega) (by omega)
            have gx2 := gx'
            obtain ⟨_, hcx', _⟩ := I'.a1 x (List.mem_of_getElem? gx')
            have gcx := tabL_get (R := s'.c) xn
            have go2 := tabL_get (R := upd s'.op u (s'.op u - 1)) hun
            have gu2 : upd s'.op u (s'.op u - 1) u = s'.op u - 1 := by unfold upd; rw [if_pos rfl]
            simp only [PP, P1, P2, P3, P4, P5, P6, P7, P8, P9, P10, P11, P12, P13, P14, L1, P15, N1, N2, N3, N4, N5, N6, N7, I1, I2, I3, I4, I5, I6, I7, reduceIte, reduceCtorEq, d1, u0, un, un', go, tabL_len, w1, ← List.map_set, tabL_set _ hun, go2, gu2]
            refine QIf.intro (fun d2 => ?_) (fun d2 => ?_)
            · simp only [PP, P1, P2, P3, P4, P5, P6, P7, P8, P9, P10, P11, P12, P13, P14, L1, P15, N1, N2, N3, N4, N5, N6, N7, I1, I2, I3, I4, I5, I6, I7, reduceIte, reduceCtorEq, d2]
              have il : (i : Int) < s'.q.length := by have := (List.getElem?_eq_some_iff.1 gx').1; omega
              have w2 : IntKind.i64.wrap (s'.c x + 1) = s'.c x + 1 := by
                have := rk_range (P := Pf ow side) (S := Sf su) (Z := Zf keep) ow.length x
                rw [hcx']
                exact wrap64 (by unfold rkOf; omega) (by unfold rkOf; omega)
              have hql : s'.q.length ≤ ow.length := nodup_lenN ow.length s'.q I'.nd (fun v hv => (I'.a1 v hv).1)
              have b3 : (s'.q.length + 1) * 8 ≤ 140737488355328 := by omega
              have b4 : s'.q.length + 1 ≤ 9223372036854775807 := by omega
              simp only [PP, P1, P2, P3, P4, P5, P6, P7, P8, P9, P10, P11, P12, P13, P14, L1, P15, N1, N2, N3, N4, N5, N6, N7, I1, I2, I3, I4, I5, I6, I7, reduceIte, reduceCtorEq, i0, il, gx', x0, xn', gcx, tabL_len, w2]
              refine SemC_fn T.h36 ?_
              simp only [af36, PP, P1, P2, P3, P4, P5, P6, P7, P8, P9, P10, P11, P12, P13, P14, L1, P15, N1, N2, N3, N4, N5, N6, N7, I1, I2, I3, I4, I5, I6, I7, reduceIte, reduceCtorEq, u0, un, un', tabL_len, b3, b4]
              have hps : psub (List.map (PV.int .i64) (s'.q.map fun v => ((v : Nat) : Int))) 0 s'.q.length = List.map (PV.int .i64) (s'.q.map fun v => ((v : Nat) : Int)) := psub_all _ _ (by simp)
              rw [hps, ← List.map_set, tabL_set _ hun]
              refine ⟨_, _, rfl, ?_⟩
              rw [if_pos rfl]
              have gx3 : (s'.q ++ [u])[i]? = some x := by rw [List.getElem?_append_left (by omega)]; exact gx'
              refine hK' _ ⟨⟨upd s'.c u (s'.c x + 1), upd s'.op u 0, s'.q ++ [u]⟩, vr + 1, vo + 1, vb + 1, g + 1, ver + 1 + 1, ?_, ?_, gx3⟩
              · simp only [PP, P1, P2, P3, P4, P5, P6, P7, P8, P9, P10, P11, P12, P13, P14, L1, P15, N1, N2, N3, N4, N5, N6, N7, I1, I2, I3, I4, I5, I6, I7, reduceIte, reduceCtorEq, hlp _ q6]
              · have e : stepU x s' u = ⟨upd s'.c u (s'.c x + 1), upd s'.op u 0, s'.q ++ [u]⟩ := by unfold stepU; rw [if_neg d1, if_pos d2, d2]
                rwa [e] at Inew
            · simp only [PP, P1, P2, P3, P4, P5, P6, P7, P8, P9, P10, P11, P12, P13, P14, L1, P15, N1, N2, N3, N4, N5, N6, N7, I1, I2, I3, I4, I5, I6, I7, reduceIte, reduceCtorEq, d2]
              refine ⟨_, _, rfl, ?_⟩
              rw [if_pos rfl]
              refine hK' _ ⟨⟨s'.c, upd s'.op u (s'.op u - 1), s'.q⟩, vr, vo + 1, vb, g, ver + 1 + 1, ?_, ?_, gx'⟩
              · simp only [PP, P1, P2, P3, P4, P5, P6, P7, P8, P9, P10, P11, P12, P13, P14, L1, P15, N1, N2, N3, N4, N5, N6, N7, I1, I2, I3, I4, I5, I6, I7, reduceIte, reduceCtorEq, hlp _ q6]
              · have e : stepU x s' u = ⟨s'.c, upd s'.op u (s'.op u - 1), s'.q⟩ := by unfold stepU; rw [if_neg d1, if_neg d2]
                rwa [e] at Inew
        · rintro N ⟨s', vr, vo, vb, g, ver, rfl, I', gx'⟩
          refine ⟨ver, lp, rfl, by rw [q1]; exact (by intro h; cases h), ?_⟩
          rw [q2]
          simp only [PP, P1, P2, P3, P4, P5, P6, P7, P8, P9, P10, P11, P12, P13, P14, L1, P15, N1, N2, N3, N4, N5, N6, N7, I1, I2, I3, I4, I5, I6, I7, reduceIte, reduceCtorEq]
          refine SemW_seq ?_
          refine SemW_seq ?_
          refine SemW_of ?_
          simp only [PP, P1, P2, P3, P4, P5, P6, P7, P8, P9, P10, P11, P12, P13, P14, L1, P15, N1, N2, N3, N4, N5, N6, N7, I1, I2, I3, I4, I5, I6, I7, reduceIte, reduceCtorEq]
          refine SemW_re (GStep.drop (b := [.junk, p8 side, .junk, .ptr 0 0 0, .junk, .junk, .ptr 1 0 0, .ref 3 0 1 0 ow.length, .junk, .junk, .junk, .ptr 5 0 0, .junk, .junk, .ptr 6 0 0, .ptr 7 0 0, .junk, .junk, .func (.func 55) [] [.ptr 11 0 0], .junk, .junk, .junk, .junk, .junk, .junk, .junk, .junk, .junk, .junk, .junk, .junk, .junk, .junk, .junk, .junk, .junk, .junk, .junk, .junk, .junk, .junk, .junk, .junk, .junk, .junk, .junk, .junk, .junk, .junk, .junk, .junk, .junk, .junk, .junk, .junk, .junk, .junk, .junk, .junk, .junk, .junk, .junk, .junk, .junk, .junk, .junk, .junk, .junk, .junk, .junk, .junk, .junk, .junk, .junk, .junk, .junk, .junk, .junk, .junk, .junk, .junk, .junk, .junk, .junk, .junk, .junk, .junk, .junk, .junk, .junk, .junk, .junk, .junk, .junk, .junk, .junk, .junk, .junk, .junk, .junk, .junk, .junk, .junk, .junk, .junk, .junk, .junk, .junk, .junk, .junk, .junk, .junk, .junk, .junk, .junk, .junk, .junk, .junk, .junk, .junk, .junk, .junk, .junk, .junk, .junk, .junk, .junk, .junk, p64 i, .junk, .junk, .junk, .junk, .junk, .junk, .junk, .junk, .junk, .junk, .junk, .junk, .junk, .junk, .junk, .junk, .junk, .junk, .junk, .junk, .junk, .junk, .junk, .junk, .junk, .junk, .junk, .junk, .junk, .junk, .junk, .junk, .junk, .junk]) 12 (Nat.zero_le _) (by simp) (by simp only [PWeak_nil, PWeak_junk, PWeak_same, Int.cast_ofNat_Int, List.length_append, List.length_cons, List.length_nil, Nat.zero_add]) (by simp only [PP, P1, P2, P3, P4, P5, P6, P7, P8, P9, P10, P11, P12, P13, P14, L1, P15, N1, N2, N3, N4, N5, N6, N7, I1, I2, I3, I4, I5, I6, I7, reduceIte, reduceCtorEq]) ?_ rfl) ?_
          · simp only [PP, P1, P2, P3, P4, P5, P6, P7, P8, P9, P10, P11, P12, P13, P14, L1, P15, N1, N2, N3, N4, N5, N6, N7, I1, I2, I3, I4, I5, I6, I7, reduceIte, reduceCtorEq]
            exact under_rows _ _ _
          · refine SemW_of ?_
            simp only [PP, P1, P2, P3, P4, P5, P6, P7, P8, P9, P10, P11, P12, P13, P14, L1, P15, N1, N2, N3, N4, N5, N6, N7, I1, I2, I3, I4, I5, I6, I7, reduceIte, reduceCtorEq]
            refine SemW_of ?_
            simp only [PP, P1, P2, P3, P4, P5, P6, P7, P8, P9, P10, P11, P12, P13, P14, L1, P15, N1, N2, N3, N4, N5, N6, N7, I1, I2, I3, I4, I5, I6, I7, reduceIte, reduceCtorEq]
            have hin : i < ow.length := by
              have := nodup_lenN ow.length s.q (I 0).nd (fun v hv => ((I 0).a1 v hv).1)
              omega
            have hwi := wrap_succ (k := i) (by show _ < 1000000000000; omega)
            simp only [hwi]
            refine SemW_to (ih (i + 1) s' vr vo vb g 2 ⟨by have := (List.getElem?_eq_some_iff.1 gx').1; omega, fun y => I'.next gx' (fun u hu => ?_) y⟩ (by omega)) (by simp only [PWeak_nil, PWeak_junk, PWeak_same, Int.cast_ofNat_Int, List.length_append, List.length_cons, List.length_nil, Nat.zero_add]) rfl
            rw [List.take_of_length_le (by unfold predI; rw [List.length_map]; exact Nat.le_refl _), Sf_mem V hu]
            unfold predN
            rw [List.mem_filter, List.mem_range]
            exact ⟨fun h => of_decide_eq_true h.2, fun h => ⟨hu, decide_eq_true h⟩⟩
      · simp only [PP, P1, P2, P3, P4, P5, P6, P7, P8, P9, P10, P11, P12, P13, P14, L1, P15, N1, N2, N3, N4, N5, N6, N7, I1, I2, I3, I4, I5, I6, I7, reduceIte, reduceCtorEq, e1]
        have hcR : tabL ow.length s.c = tabL ow.length (rkOf ow su side keep) := tabL_of (tabL_len _ _) fun v hv => by rw [tabL_get hv, (I 0).fin hR hS (by omega) v hv]
        rw [hcR]
        have hRr : ∀ v, -1 ≤ rkOf ow su side keep v ∧ rkOf ow su side keep v ≤ ow.length := fun v => rk_range _ _
        have hRp : ∀ v, v < ow.length → Pf ow side v = true → 0 < rkOf ow su side keep v → ∃ u ∈ Sf su v, rkOf ow su side keep u = rkOf ow su side keep v - 1 := hR.p
        clear hcR hinit ih I hR
        generalize rkOf ow su side keep = R at hq hRr hRp ⊢
        generalize (PObj.cells 0 vo ((tabL ow.length s.op).map (PV.int .i64))) = j4
        generalize (PObj.cells 0 vb [.ref 8 g 1 0 s.q.length]) = j6
        generalize (PObj.cells g 0 ((s.q.map fun v => ((v : Nat) : Int)).map (PV.int .i64))) = j8
        generalize (PObj.cells 0 vp (tabA ow.length fun u => slI false true .i64 (predI su ow.length u))) = j10
        refine SemW_re (GStep.drop (b := [.junk, p8 side, .junk, .ptr 0 0 0, .junk, .junk, .ptr 1 0 0, .ref 3 0 1 0 ow.length, .junk, .junk, .junk, .junk, .junk, .junk, .junk, .junk, .junk, .junk, .junk, .junk, .junk, .junk, .junk, .junk, .junk, .junk, .junk, .junk, .junk, .junk, .junk, .junk, .junk, .junk, .junk, .junk, .junk, .junk, .junk, .junk, .junk, .junk, .junk, .junk, .junk, .junk, .junk, .junk, .junk, .junk, .junk, .junk, .junk, .junk, .junk, .junk, .junk, .junk, .junk, .junk, .junk, .junk, .junk, .junk, .junk, .junk, .junk, .junk, .junk, .junk, .junk, .junk, .junk, .junk, .junk, .junk, .junk, .junk, .junk, .junk, .junk, .junk, .junk, .junk, .junk, .junk, .junk, .junk, .junk, .junk, .junk, .junk, .junk, .junk, .junk, .junk, .junk, .junk, .junk, .junk, .junk, .junk, .junk, .junk, .junk, .junk, .junk, .junk, .junk, .junk, .junk, .junk, .junk, .junk, .junk, .junk, .junk, .junk, .junk, .junk, .junk, .junk, .junk, .junk, .junk, .junk, .junk, .junk, .junk, .junk, slR f3 p3 f4 p4 .i64 su, p64 su.length, p64 0, .junk, .junk, .junk, .junk, .junk, .junk, .junk, .junk, .junk, .junk, .junk, .junk, .junk, .junk, .junk, .junk, .junk, .junk, .junk, .junk, .junk, .junk, .junk, .junk, .junk, .junk, .junk, .junk, .junk, .junk]) 4 (Nat.zero_le _) (by simp) (by simp only [PWeak_nil, PWeak_junk, PWeak_same, Int.cast_ofNat_Int, List.length_append, List.length_cons, List.length_nil, Nat.zero_add]) (by simp only [PP, P1, P2, P3, P4, P5, P6, P7, P8, P9, P10, P11, P12, P13, P14, L1, P15, N1, N2, N3, N4, N5, N6, N7, I1, I2, I3, I4, I5, I6, I7, reduceIte, reduceCtorEq]) (by simp only [PP, P1, P2, P3, P4, P5, P6, P7, P8, P9, P10, P11, P12, P13, P14, L1, P15, N1, N2, N3, N4, N5, N6, N7, I1, I2, I3, I4, I5, I6, I7, reduceIte, reduceCtorEq]) rfl) ?_
        simp only [List.take_succ_cons, List.take_zero]
        refine loop3 (fun (v vs : Nat) (a2 : List Int) => v ≤ su.length ∧ a2.length = ow.length ∧ (∀ u, u < v → a2[u]? = some (stratOf ow su side R u)) ∧ ∀ u, v ≤ u → u < ow.length → a2[u]? = some (-1))
          (fun v vs a2 => [.junk, p8 side, .junk, .ptr 0 0 0, .junk, .junk, .ptr 1 0 0, .ref 3 0 1 0 ow.length, .junk, .junk, .junk, .junk, .junk, .junk, .junk, .junk, .junk, .junk, .junk, .junk, .junk, .junk, .junk, .junk, .junk, .junk, .junk, .junk, .junk, .junk, .junk, .junk, .junk, .junk, .junk, .junk, .junk, .junk, .junk, .junk, .junk, .junk, .junk, .junk, .junk, .junk, .junk, .junk, .junk, .junk, .junk, .junk, .junk, .junk, .junk, .junk, .junk, .junk, .junk, .junk, .junk, .junk, .junk, .junk, .junk, .junk, .junk, .junk, .junk, .junk, .junk, .junk, .junk, .junk, .junk, .junk, .junk, .junk, .junk, .junk, .junk, .junk, .junk, .junk, .junk, .junk, .junk, .junk, .junk, .junk, .junk, .junk, .junk, .junk, .junk, .junk, .junk, .junk, .junk, .junk, .junk, .junk, .junk, .junk, .junk, .junk, .junk, .junk, .junk, .junk, .junk, .junk, .junk, .junk, .junk, .junk, .junk, .junk, .junk, .junk, .junk, .junk, .junk, .junk, .junk, .junk, .junk, .junk, .junk, .junk, slR f3 p3 f4 p4 .i64 su, p64 su.length, p64 v, .junk, .junk, .junk, .junk, .junk, .junk, .junk, .junk, .junk, .junk, .junk, .junk, .junk, .junk, .junk, .junk, .junk, .junk, .junk, .junk, .junk, .junk, .junk, .junk, .junk, .junk, .junk, .junk, .junk, .junk])
          (fun v vs a2 => [.cells 0 0 [slI f1 p1 .u8 ow, slI f2 p2 .i64 pr, slR f3 p3 f4 p4 .i64 su], .cells 0 1 [.ref 2 0 1 0 ow.length], .cells 0 vr ((tabL ow.length R).map (PV.int .i64)), .cells 0 vs (a2.map (PV.int .i64))])
          (fun v _ _ => su.length - v) 0 vs (tabL ow.length fun _ => -1) ⟨by omega, tabL_len _ _, by intro v h; omega, fun v _ h => tabL_get h⟩ (by simp only [PWeak_nil, PWeak_junk, PWeak_same, Int.cast_ofNat_Int, List.length_append, List.length_cons, List.length_nil, Nat.zero_add]) rfl ?_
        intro v vs a2 ⟨hle, l2, h1, h2⟩ ih
        refine SemW_go (by kernel_rfl) ?_
        simp only [PP, P1, P2, P3, P4, P5, P6, P7, P8, P9, P10, P11, P12, P13, P14, L1, P15, N1, N2, N3, N4, N5, N6, N7, I1, I2, I3, I4, I5, I6, I7, reduceIte, reduceCtorEq]
        refine QIf.intro (fun d => ?_) (fun d => ?_)
        · have hv : v < ow.length := by omega
          have v0 : (0 : Int) ≤ v := by omega
          have vn : (v : Int) < ow.length := by omega
          have vn' : v + 1 ≤ ow.length := hv
          have hwv := wrap_succ (k := v) (by show _ < 1000000000000; omega)
          have g0 := tabL_get (R := R) hv
          obtain ⟨row, g1⟩ := some_of (xs := su) (k := v) (by omega)
          obtain ⟨o, g2⟩ := some_of (xs := ow) (k := v) (by omega)
          have hrb := B.r row (List.mem_of_getElem? g1)
          have e2 : ow.getD v 0 = o := getD_some g2
          have e1 : su.getD v [] = row := by simp [List.getD, g1]
          have es : stratOf ow su side R v = if 0 < R v ∧ o = side then firstS R (R v - 1) row else -1 := by unfold stratOf; rw [e1, e2]
          have up : ∀ (b : List Int) (s : Int), b.length = ow.length → b[v]? = some s → s = stratOf ow su side R v → (∀ u, u ≠ v → b[u]? = a2[u]?) → (v + 1 ≤ su.length ∧ b.length = ow.length ∧ (∀ u, u < v + 1 → b[u]? = some (stratOf ow su side R u)) ∧ ∀ u, v + 1 ≤ u → u < ow.length → b[u]? = some (-1)) := by
            intro b s hb1 hb2 hbs hb3
            refine ⟨by omega, hb1, fun u hu => ?_, fun u hu hu2 => ?_⟩
            · by_cases e : u = v
              · subst e; rw [hb2, hbs]
              · rw [hb3 u e]; exact h1 u (by omega)
            · rw [hb3 u (by omega)]; exact h2 u (by omega) hu2
          simp only [PP, P1, P2, P3, P4, P5, P6, P7, P8, P9, P10, P11, P12, P13, P14, L1, P15, N1, N2, N3, N4, N5, N6, N7, I1, I2, I3, I4, I5, I6, I7, reduceIte, reduceCtorEq, d, v0, vn, g0, g1, tabL_len]
          refine QIf.intro (fun d1 => ?_) (fun d1 => ?_)
          · simp only [PP, P1, P2, P3, P4, P5, P6, P7, P8, P9, P10, P11, P12, P13, P14, L1, P15, N1, N2, N3, N4, N5, N6, N7, I1, I2, I3, I4, I5, I6, I7, reduceIte, reduceCtorEq, d1, v0, vn, g2]
            refine QIf.intro (fun d2 => ?_) (fun d2 => ?_)
            · have w1 : IntKind.i64.wrap (R v - 1) = R v - 1 := by have := hRr v; exact wrap64 (by omega) (by omega)
              have hrow : ∀ u ∈ row, 0 ≤ u ∧ u < ow.length := by
                have hi2 : v < su.length := by omega
                obtain ⟨_, _, _, _, q⟩ := V.row v hi2
                rw [List.getElem?_eq_getElem hi2] at g1
                cases g1
                intro u hu
                have := (posM_rise q).2 u hu
                omega
              have hex : ∃ u ∈ row, R u.toNat = R v - 1 := by
                obtain ⟨u, hu, e⟩ := hRp v hv (by unfold Pf; rw [e2]; simpa using d2) d1
                unfold Sf at hu
                rw [e1] at hu
                obtain ⟨w, hw, rfl⟩ := List.mem_map.1 hu
                exact ⟨w, hw, e⟩
              obtain ⟨i, w, r1, r2, r3⟩ := idx_first (j := 0) hex
              rw [Nat.zero_add] at r1
              have i0 : (0 : Int) ≤ i := by omega
              have il : (i : Int) < row.length := by have := (List.getElem?_eq_some_iff.1 r2).1; omega
              simp only [PP, P1, P2, P3, P4, P5, P6, P7, P8, P9, P10, P11, P12, P13, P14, L1, P15, N1, N2, N3, N4, N5, N6, N7, I1, I2, I3, I4, I5, I6, I7, reduceIte, reduceCtorEq, d2]
              refine indexFunc_p T (fun u => decide (R u.toNat = R v - 1)) hrb (fun u hu K' hK' => ?_) ?_
              · refine SemC_fn T.h39 ?_
                simp only [af39, PP, P1, P2, P3, P4, P5, P6, P7, P8, P9, P10, P11, P12, P13, P14, L1, P15, N1, N2, N3, N4, N5, N6, N7, I1, I2, I3, I4, I5, I6, I7, reduceIte, reduceCtorEq, v0, vn, g0, tabL_len, (hrow u hu).1, (hrow u hu).2, tabL_get (n := ow.length) (R := R) (v := u.toNat) (by have := hrow u hu; omega), w1]
                exact hK'
              · simp only [PP, P1, P2, P3, P4, P5, P6, P7, P8, P9, P10, P11, P12, P13, P14, L1, P15, N1, N2, N3, N4, N5, N6, N7, I1, I2, I3, I4, I5, I6, I7, reduceIte, reduceCtorEq, r1, i0, il, r2, v0, vn, vn', l2, hwv]
                refine SemW_re (GStep.drop (b := [.junk, p8 side, .junk, .ptr 0 0 0, .junk, .junk, .ptr 1 0 0, .ref 3 0 1 0 ow.length, .junk, .junk, .junk, .junk, .junk, .junk, .junk, .junk, .junk, .junk, .junk, .junk, .junk, .junk, .junk, .junk, .junk, .junk, .junk, .junk, .junk, .junk, .junk, .junk, .junk, .junk, .junk, .junk, .junk, .junk, .junk, .junk, .junk, .junk, .junk, .junk, .junk, .junk, .junk, .junk, .junk, .junk, .junk, .junk, .junk, .junk, .junk, .junk, .junk, .junk, .junk, .junk, .junk, .junk, .junk, .junk, .junk, .junk, .junk, .junk, .junk, .junk, .junk, .junk, .junk, .junk, .junk, .junk, .junk, .junk, .junk, .junk, .junk, .junk, .junk, .junk, .junk, .junk, .junk, .junk, .junk, .junk, .junk, .junk, .junk, .junk, .junk, .junk, .junk, .junk, .junk, .junk, .junk, .junk, .junk, .junk, .junk, .junk, .junk, .junk, .junk, .junk, .junk, .junk, .junk, .junk, .junk, .junk, .junk, .junk, .junk, .junk, .junk, .junk, .junk, .junk, .junk, .junk, .junk, .junk, .junk, .junk, slR f3 p3 f4 p4 .i64 su, p64 su.length, p64 ((v + 1 : Nat) : Int), .junk, .junk, .junk, .junk, .junk, .junk, .junk, .junk, .junk, .junk, .junk, .junk, .junk, .junk, .junk, .junk, .junk, .junk, .junk, .junk, .junk, .junk, .junk, .junk, .junk, .junk, .junk, .junk, .junk, .junk]) 4 (Nat.zero_le _) (by simp) (by simp only [PWeak_nil, PWeak_junk, PWeak_same, Int.cast_ofNat_Int, List.length_append, List.length_cons, List.length_nil, Nat.zero_add]) (by simp only [PP, P1, P2, P3, P4, P5, P6, P7, P8, P9, P10, P11, P12, P13, P14, L1, P15, N1, N2, N3, N4, N5, N6, N7, I1, I2, I3, I4, I5, I6, I7, reduceIte, reduceCtorEq]) (by simp only [← List.map_set, PP, P1, P2, P3, P4, P5, P6, P7, P8, P9, P10, P11, P12, P13, P14, L1, P15, N1, N2, N3, N4, N5, N6, N7, I1, I2, I3, I4, I5, I6, I7, reduceIte, reduceCtorEq]) rfl) ?_
                refine SemW_to (ih (v + 1) (vs + 1) (a2.set v w) (up _ w (by simp [l2]) (set_at (by omega)) (by rw [es, if_pos ⟨d1, d2⟩, r3]) fun u hu => set_low hu) (by omega)) (by simp only [PWeak_nil, PWeak_junk, PWeak_same, Int.cast_ofNat_Int, List.length_append, List.length_cons, List.length_nil, Nat.zero_add]) (by simp only [← List.map_set, PP, P1, P2, P3, P4, P5, P6, P7, P8, P9, P10, P11, P12, P13, P14, L1, P15, N1, N2, N3, N4, N5, N6, N7, I1, I2, I3, I4, I5, I6, I7, reduceIte, reduceCtorEq])
            · simp only [PP, P1, P2, P3, P4, P5, P6, P7, P8, P9, P10, P11, P12, P13, P14, L1, P15, N1, N2, N3, N4, N5, N6, N7, I1, I2, I3, I4, I5, I6, I7, reduceIte, reduceCtorEq, d2, hwv]
              refine SemW_re (GStep.drop (b := [.junk, p8 side, .junk, .ptr 0 0 0, .junk, .junk, .ptr 1 0 0, .ref 3 0 1 0 ow.length, .junk, .junk, .junk, .junk, .junk, .junk, .junk, .junk, .junk, .junk, .junk, .junk, .junk, .junk, .junk, .junk, .junk, .junk, .junk, .junk, .junk, .junk, .junk, .junk, .junk, .junk, .junk, .junk, .junk, .junk, .junk, .junk, .junk, .junk, .junk, .junk, .junk, .junk, .junk, .junk, .junk, .junk, .junk, .junk, .junk, .junk, .junk, .junk, .junk, .junk, .junk, .junk, .junk, .junk, .junk, .junk, .junk, .junk, .junk, .junk, .junk, .junk, .junk, .junk, .junk, .junk, .junk, .junk, .junk, .junk, .junk, .junk, .junk, .junk, .junk, .junk, .junk, .junk, .junk, .junk, .junk, .junk, .junk, .junk, .junk, .junk, .junk, .junk, .junk, .junk, .junk, .junk, .junk, .junk, .junk, .junk, .junk, .junk, .junk, .junk, .junk, .junk, .junk, .junk, .junk, .junk, .junk, .junk, .junk, .junk, .junk, .junk, .junk, .junk, .junk, .junk, .junk, .junk, .junk, .junk, .junk, .junk, slR f3 p3 f4 p4 .i64 su, p64 su.length, p64 ((v + 1 : Nat) : Int), .junk, .junk, .junk, .junk, .junk, .junk, .junk, .junk, .junk, .junk, .junk, .junk, .junk, .junk, .junk, .junk, .junk, .junk, .junk, .junk, .junk, .junk, .junk, .junk, .junk, .junk, .junk, .junk, .junk, .junk]) 4 (Nat.zero_le _) (by simp) (by simp only [PWeak_nil, PWeak_junk, PWeak_same, Int.cast_ofNat_Int, List.length_append, List.length_cons, List.length_nil, Nat.zero_add]) (by simp only [PP, P1, P2, P3, P4, P5, P6, P7, P8, P9, P10, P11, P12, P13, P14, L1, P15, N1, N2, N3, N4, N5, N6, N7, I1, I2, I3, I4, I5, I6, I7, reduceIte, reduceCtorEq]) (by simp only [← List.map_set, PP, P1, P2, P3, P4, P5, P6, P7, P8, P9, P10, P11, P12, P13, P14, L1, P15, N1, N2, N3, N4, N5, N6, N7, I1, I2, I3, I4, I5, I6, I7, reduceIte, reduceCtorEq]) rfl) ?_
              exact SemW_to (ih (v + 1) vs a2 (up a2 (-1) l2 (h2 v (Nat.le_refl _) hv) (by rw [es, if_neg (fun h => d2 h.2)]) fun _ _ => rfl) (by omega)) (by simp only [PWeak_nil, PWeak_junk, PWeak_same, Int.cast_ofNat_Int, List.length_append, List.length_cons, List.length_nil, Nat.zero_add]) (by simp only [PP, P1, P2, P3, P4, P5, P6, P7, P8, P9, P10, P11, P12, P13, P14, L1, P15, N1, N2, N3, N4, N5, N6, N7, I1, I2, I3, I4, I5, I6, I7, reduceIte, reduceCtorEq])
          · simp only [PP, P1, P2, P3, P4, P5, P6, P7, P8, P9, P10, P11, P12, P13, P14, L1, P15, N1, N2, N3, N4, N5, N6, N7, I1, I2, I3, I4, I5, I6, I7, reduceIte, reduceCtorEq, d1, hwv]
            refine SemW_re (GStep.drop (b := [.junk, p8 side, .junk, .ptr 0 0 0, .junk, .junk, .ptr 1 0 0, .ref 3 0 1 0 ow.length, .junk, .junk, .junk, .junk, .junk, .junk, .junk, .junk, .junk, .junk, .junk, .junk, .junk, .junk, .junk, .junk, .junk, .junk, .junk, .junk, .junk, .junk, .junk, .junk, .junk, .junk, .junk, .junk, .junk, .junk, .junk, .junk, .junk, .junk, .junk, .junk, .junk, .junk, .junk, .junk, .junk, .junk, .junk, .junk, .junk, .junk, .junk, .junk, .junk, .junk, .junk, .junk, .junk, .junk, .junk, .junk, .junk, .junk, .junk, .junk, .junk, .junk, .junk, .junk, .junk, .junk, .junk, .junk, .junk, .junk, .junk, .junk, .junk, .junk, .junk, .junk, .junk, .junk, .junk, .junk, .junk, .junk, .junk, .junk, .junk, .junk, .junk, .junk, .junk, .junk, .junk, .junk, .junk, .junk, .junk, .junk, .junk, .junk, .junk, .junk, .junk, .junk, .junk, .junk, .junk, .junk, .junk, .junk, .junk, .junk, .junk, .junk, .junk, .junk, .junk, .junk, .junk, .junk, .junk, .junk, .junk, .junk, slR f3 p3 f4 p4 .i64 su, p64 su.length, p64 ((v + 1 : Nat) : Int), .junk, .junk, .junk, .junk, .junk, .junk, .junk, .junk, .junk, .junk, .junk, .junk, .junk, .junk, .junk, .junk, .junk, .junk, .junk, .junk, .junk, .junk, .junk, .junk, .junk, .junk, .junk, .junk, .junk, .junk]) 4 (Nat.zero_le _) (by simp) (by simp only [PWeak_nil, PWeak_junk, PWeak_same, Int.cast_ofNat_Int, List.length_append, List.length_cons, List.length_nil, Nat.zero_add]) (by simp only [PP, P1, P2, P3, P4, P5, P6, P7, P8, P9, P10, P11, P12, P13, P14, L1, P15, N1, N2, N3, N4, N5, N6, N7, I1, I2, I3, I4, I5, I6, I7, reduceIte, reduceCtorEq]) (by simp only [← List.map_set, PP, P1, P2, P3, P4, P5, P6, P7, P8, P9, P10, P11, P12, P13, P14, L1, P15, N1, N2, N3, N4, N5, N6, N7, I1, I2, I3, I4, I5, I6, I7, reduceIte, reduceCtorEq]) rfl) ?_
            exact SemW_to (ih (v + 1) vs a2 (up a2 (-1) l2 (h2 v (Nat.le_refl _) hv) (by rw [es, if_neg (fun h => d1 h.1)]) fun _ _ => rfl) (by omega)) (by simp only [PWeak_nil, PWeak_junk, PWeak_same, Int.cast_ofNat_Int, List.length_append, List.length_cons, List.length_nil, Nat.zero_add]) (by simp only [PP, P1, P2, P3, P4, P5, P6, P7, P8, P9, P10, P11, P12, P13, P14, L1, P15, N1, N2, N3, N4, N5, N6, N7, I1, I2, I3, I4, I5, I6, I7, reduceIte, reduceCtorEq])
        · have hvn : v = ow.length := by omega
          subst hvn
          have ha2 := tabL_of l2 h1
          subst ha2
          simp only [PP, P1, P2, P3, P4, P5, P6, P7, P8, P9, P10, P11, P12, P13, P14, L1, P15, N1, N2, N3, N4, N5, N6, N7, I1, I2, I3, I4, I5, I6, I7, reduceIte, reduceCtorEq, d, frz_tab]
          exact ⟨_, PvWk.refl _, hq⟩
end
end Go.Am.Ar

set_option linter.unusedVariables false
namespace Go.Am.Ar
abbrev Wd := List (BitVec 64)
/-- A word of the set. -/
def wAt (a : Wd) (i : Nat) : BitVec 64 := a.getD i 0#64
theorem wAt_ge {a : Wd} {i : Nat} (h : a.length ≤ i) : wAt a i = 0#64 := by
  unfold wAt; rw [List.getD, List.getElem?_eq_none h]; rfl
theorem wAt_some {a : Wd} {i : Nat} {x : BitVec 64} (h : a[i]? = some x) : wAt a i = x := by
  unfold wAt; rw [List.getD, h]; rfl
def trimN (a : Wd) : Nat → Nat
  | 0 => 0
  | n + 1 => if wAt a n = 0#64 then trimN a n else n + 1
theorem trimN_le (a : Wd) : ∀ n, trimN a n ≤ n
  | 0 => Nat.le_refl _
  | n + 1 => by
    unfold trimN
    split
    · exact Nat.le_succ_of_le (trimN_le a n)
    · exact Nat.le_refl _
theorem trimN_zero (a : Wd) : ∀ n i, trimN a n ≤ i → i < n → wAt a i = 0#64
  | 0, i, _, h => by omega
  | n + 1, i, h1, h2 => by
    unfold trimN at h1
    split at h1
    · rename_i h
      by_cases e : i = n
      · subst e; exact h
      · exact trimN_zero a n i h1 (by omega)
    · omega
theorem trimN_top (a : Wd) : ∀ n, trimN a n = 0 ∨ wAt a (trimN a n - 1) ≠ 0#64
  | 0 => .inl rfl
  | n + 1 => by
    unfold trimN
    split
    · exact trimN_top a n
    · rename_i h; exact .inr h
def trim (a : Wd) : Wd := a.take (trimN a a.length)
theorem trim_len (a : Wd) : (trim a).length ≤ a.length := by unfold trim; rw [List.length_take]; omega
theorem trim_at (a : Wd) (i : Nat) : wAt (trim a) i = wAt a i := by
  have hle := trimN_le a a.length
  rcases Nat.lt_or_ge i (trimN a a.length) with h | h
  · unfold wAt trim
    rw [List.getD, List.getD, List.getElem?_take, if_pos h]
  · rw [wAt_ge (by unfold trim; rw [List.length_take]; omega)]
    rcases Nat.lt_or_ge i a.length with q | q
    · exact (trimN_zero a _ i h q).symm
    · exact (wAt_ge q).symm
/-- Two sets, word by word. -/
def cmbL (op : BitVec 64 → BitVec 64 → BitVec 64) (a b : Wd) (n : Nat) : Wd := (List.range n).map fun i => op (wAt a i) (wAt b i)
def cmb (op : BitVec 64 → BitVec 64 → BitVec 64) (a b : Wd) : Wd := trim (cmbL op a b (min (max a.length b.length) 64))
theorem cmbL_len (op : BitVec 64 → BitVec 64 → BitVec 64) (a b : Wd) (n : Nat) : (cmbL op a b n).length = n := by simp [cmbL]
theorem cmbL_succ (op : BitVec 64 → BitVec 64 → BitVec 64) (a b : Wd) (n : Nat) : cmbL op a b (n + 1) = cmbL op a b n ++ [op (wAt a n) (wAt b n)] := by simp [cmbL, List.range_succ]
theorem cmb_len (op : BitVec 64 → BitVec 64 → BitVec 64) (a b : Wd) : (cmb op a b).length ≤ 64 := by
  have := trim_len (cmbL op a b (min (max a.length b.length) 64))
  rw [cmbL_len] at this
  unfold cmb
  omega
theorem cmb_at {op : BitVec 64 → BitVec 64 → BitVec 64} (h0 : op 0#64 0#64 = 0#64) {a b : Wd} (ha : a.length ≤ 64) (hb : b.length ≤ 64) (i : Nat) : wAt (cmb op a b) i = op (wAt a i) (wAt b i) := by
  unfold cmb
  rw [trim_at]
  rcases Nat.lt_or_ge i (min (max a.length b.length) 64) with h | h
  · refine wAt_some ?_
    simp only [cmbL, List.getElem?_map, List.getElem?_range h, Option.map_some]
  · rw [wAt_ge (by rw [cmbL_len]; exact h), wAt_ge (a := a) (by omega), wAt_ge (a := b) (by omega), h0]
/-- Membership. -/
def bit (a : Wd) (k : Nat) : Bool := (wAt a (k / 64)).getLsbD (k % 64)
theorem bit_cmb_or {a b : Wd} (ha : a.length ≤ 64) (hb : b.length ≤ 64) (k : Nat) : bit (cmb (· ||| ·) a b) k = (bit a k || bit b k) := by
  unfold bit; rw [cmb_at (by simp) ha hb]; simp
theorem bit_cmb_and {a b : Wd} (ha : a.length ≤ 64) (hb : b.length ≤ 64) (k : Nat) : bit (cmb (· &&& ·) a b) k = (bit a k && bit b k) := by
  unfold bit; rw [cmb_at (by simp) ha hb]; simp
theorem bit_cmb_not {a b : Wd} (ha : a.length ≤ 64) (hb : b.length ≤ 64) (k : Nat) : bit (cmb (fun x y => x &&& ~~~ y) a b) k = (bit a k && !bit b k) := by
  have hk : k % 64 < 64 := Nat.mod_lt _ (by omega)
  unfold bit; rw [cmb_at (by simp) ha hb]; simp [hk]
theorem cmb_nil {op : BitVec 64 → BitVec 64 → BitVec 64} (a b : Wd) : (cmb op a b).length = 0 ↔ ∀ k, bit (cmb op a b) k = false := by
  constructor
  · intro h k
    unfold bit
    rw [wAt_ge (by omega)]; simp
  · intro h
    have hl : (cmb op a b).length = trimN (cmbL op a b (min (max a.length b.length) 64)) (min (max a.length b.length) 64) := by
      have := trimN_le (cmbL op a b (min (max a.length b.length) 64)) (min (max a.length b.length) 64)
      unfold cmb trim
      rw [List.length_take, cmbL_len]
      omega
    rcases trimN_top (cmbL op a b (min (max a.length b.length) 64)) (min (max a.length b.length) 64) with e | e
    · rw [hl, e]
    · exfalso
      rw [← trim_at] at e
      apply e
      apply BitVec.eq_of_getLsbD_eq
      intro j hj
      have := h (64 * (trimN (cmbL op a b (min (max a.length b.length) 64)) (min (max a.length b.length) 64) - 1) + j)
      unfold bit at this
      rw [show (64 * (trimN (cmbL op a b (min (max a.length b.length) 64)) (min (max a.length b.length) 64) - 1) + j) / 64 = trimN (cmbL op a b (min (max a.length b.length) 64)) (min (max a.length b.length) 64) - 1 by omega, show (64 * (trimN (cmbL op a b (min (max a.length b.length) 64)) (min (max a.length b.length) 64) - 1) + j) % 64 = j by omega] at this
      unfold cmb at this
      rw [this]; simp
/-- The set of one number. -/
def sing (k : Nat) : Wd := List.replicate (k / 64) 0#64 ++ [BitVec.twoPow 64 (k % 64)]
theorem sing_len (k : Nat) : (sing k).length = k / 64 + 1 := by simp [sing]
theorem bit_sing (k j : Nat) : bit (sing k) j = decide (j = k) := by
  have hj : j % 64 < 64 := Nat.mod_lt _ (by omega)
  unfold bit
  rcases Nat.lt_trichotomy (j / 64) (k / 64) with h | h | h
  · rw [wAt_some (x := 0#64) (by unfold sing; rw [List.getElem?_append_left (by simpa using h)]; simp [h])]
    have : j ≠ k := by rintro rfl; omega
    simp [this]
  · rw [wAt_some (x := BitVec.twoPow 64 (k % 64)) (by unfold sing; rw [List.getElem?_append_right (by simp; omega)]; simp [h])]
    rw [BitVec.getLsbD_twoPow]
    by_cases e : j = k
    · subst e; simp [hj]
    · have : k % 64 ≠ j % 64 := by omega
      simp [e, this]
  · rw [wAt_ge (by rw [sing_len]; omega)]
    have : j ≠ k := by rintro rfl; omega
    simp [this]
def withK (a : Wd) (k : Nat) : Wd := cmb (· ||| ·) a (sing k)
def ofL (l : List Nat) : Wd := l.foldl withK []
theorem ofL_go : ∀ (l : List Nat) (a : Wd), a.length ≤ 64 → (∀ x ∈ l, x < 4096) → (l.foldl withK a).length ≤ 64 ∧ ∀ k, bit (l.foldl withK a) k = (bit a k || decide (k ∈ l))
  | [], a, ha, _ => ⟨ha, by simp⟩
  | x :: l, a, ha, h => by
    have hx := h x (by simp)
    have hs : (sing x).length ≤ 64 := by rw [sing_len]; omega
    obtain ⟨h1, h2⟩ := ofL_go l (withK a x) (cmb_len _ _ _) (fun y hy => h y (by simp [hy]))
    refine ⟨h1, fun k => ?_⟩
    rw [List.foldl_cons, h2, withK, bit_cmb_or ha hs, bit_sing]
    simp [Bool.or_assoc]
theorem ofL_len {l : List Nat} (h : ∀ x ∈ l, x < 4096) : (ofL l).length ≤ 64 := (ofL_go l [] (by simp) h).1
theorem bit_ofL {l : List Nat} (h : ∀ x ∈ l, x < 4096) (k : Nat) : bit (ofL l) k = decide (k ∈ l) := by
  have := (ofL_go l [] (by simp) h).2 k
  unfold ofL
  rw [this]
  simp [bit, wAt]
theorem inter_iff {a b : List Nat} (ha : ∀ x ∈ a, x < 4096) (hb : ∀ x ∈ b, x < 4096) : 0 < (cmb (fun x y => x &&& y) (ofL a) (ofL b)).length ↔ ∃ x, x ∈ a ∧ x ∈ b := by
  have h1 := cmb_nil (op := fun x y => x &&& y) (ofL a) (ofL b)
  have h2 : ∀ k, bit (cmb (fun x y => x &&& y) (ofL a) (ofL b)) k = (decide (k ∈ a) && decide (k ∈ b)) := fun k => by
    rw [bit_cmb_and (ofL_len ha) (ofL_len hb), bit_ofL ha, bit_ofL hb]
  constructor
  · intro h
    refine Classical.byContradiction fun hn => ?_
    have : (cmb (fun x y => x &&& y) (ofL a) (ofL b)).length = 0 := h1.2 fun k => by
      rw [h2]
      by_cases q1 : k ∈ a
      · by_cases q2 : k ∈ b
        · exact absurd ⟨k, q1, q2⟩ hn
        · simp [q2]
      · simp [q1]
    omega
  · rintro ⟨x, q1, q2⟩
    refine Nat.pos_of_ne_zero fun h => ?_
    have := h1.1 h x
    rw [h2] at this
    simp [q1, q2] at this
theorem subset_iff {a b : List Nat} (ha : ∀ x ∈ a, x < 4096) (hb : ∀ x ∈ b, x < 4096) : (cmb (fun x y => x &&& ~~~ y) (ofL a) (ofL b)).length = 0 ↔ ∀ x ∈ a, x ∈ b := by
  have h1 := cmb_nil (op := fun x y => x &&& ~~~ y) (ofL a) (ofL b)
  have h2 : ∀ k, bit (cmb (fun x y => x &&& ~~~ y) (ofL a) (ofL b)) k = (decide (k ∈ a) && !decide (k ∈ b)) := fun k => by
    rw [bit_cmb_not (ofL_len ha) (ofL_len hb), bit_ofL ha, bit_ofL hb]
  rw [h1]
  constructor
  · intro h x hx
    have := h x
    rw [h2] at this
    simpa [hx] using this
  · intro h k
    rw [h2]
    by_cases q : k ∈ a
    · simp [q, h k q]
    · simp [q]
/-- Words as numbers. -/
abbrev wI (a : Wd) : List Int := a.map fun b => ((b.toNat : Nat) : Int)
theorem u64_small {n : Nat} (h : n < 18446744073709551616) : IntKind.u64.wrap (n : Int) = (n : Int) := by
  simp only [IntKind.wrap, IntKind.signed, IntKind.bits]
  simp
  omega
theorem bv_int (b : BitVec 64) : BitVec.ofInt 64 ((b.toNat : Nat) : Int) = b := by
  rw [BitVec.ofInt_natCast]; simp
theorem pbin_and64 (a b : BitVec 64) : pbin .and (.int .u64 ((a.toNat : Nat) : Int)) (.int .u64 ((b.toNat : Nat) : Int)) = some (.int .u64 (((a &&& b).toNat : Nat) : Int)) := by
  have h := u64_small (a &&& b).isLt
  simp only [pbin, toAV0, abin, isShift, binInt, IntKind.bits, bv_int, Bool.false_eq_true, if_false, if_true]
  show some (PV.int .u64 (IntKind.u64.wrap (((a &&& b).toNat : Nat) : Int))) = _
  rw [h]
theorem pbin_or64 (a b : BitVec 64) : pbin .or (.int .u64 ((a.toNat : Nat) : Int)) (.int .u64 ((b.toNat : Nat) : Int)) = some (.int .u64 (((a ||| b).toNat : Nat) : Int)) := by
  have h := u64_small (a ||| b).isLt
  simp only [pbin, toAV0, abin, isShift, binInt, IntKind.bits, bv_int, Bool.false_eq_true, if_false, if_true]
  show some (PV.int .u64 (IntKind.u64.wrap (((a ||| b).toNat : Nat) : Int))) = _
  rw [h]
theorem pbin_andNot64 (a b : BitVec 64) : pbin .andNot (.int .u64 ((a.toNat : Nat) : Int)) (.int .u64 ((b.toNat : Nat) : Int)) = some (.int .u64 (((a &&& ~~~ b).toNat : Nat) : Int)) := by
  have h := u64_small (a &&& ~~~ b).isLt
  simp only [pbin, toAV0, abin, isShift, binInt, IntKind.bits, bv_int, Bool.false_eq_true, if_false, if_true]
  show some (PV.int .u64 (IntKind.u64.wrap (((a &&& ~~~ b).toNat : Nat) : Int))) = _
  rw [h]
theorem pbin_shl64 {k : Nat} (h : k < 64) : pbin .shl (.int .u64 1) (.int .i64 (k : Int)) = some (.int .u64 (((BitVec.twoPow 64 k).toNat : Nat) : Int)) := by
  have h2 : (BitVec.twoPow 64 k).toNat = 2 ^ k := by
    rw [BitVec.toNat_twoPow, Nat.mod_eq_of_lt (Nat.pow_lt_pow_right (by omega) h)]
  have h3 := u64_small (n := 2 ^ k) (Nat.pow_lt_pow_right (n := 64) (by omega) h)
  have h4 : min ((k : Int).toNat) 64 = k := by omega
  simp only [pbin, toAV0, abin, isShift, binShift, IntKind.bits, h4, h2]
  rw [if_pos trivial, if_neg (by omega), show (1 : Int) * 2 ^ k = ((2 ^ k : Nat) : Int) by simp, h3]
  rfl
end Go.Am.Ar

set_option linter.unusedVariables false
set_option linter.unusedSimpArgs false
set_option maxRecDepth 10000
namespace Go.Am.Ar
open Go.Am renaming pchk → P1, pold → P2, PKNo → P3, ppack → P4, PObj.under → P5, pput → P6, ptset → P7, ptget → P8, pev → P9, ofAV → P10, ofAV1 → P11, ppad → P12, pfill → P13, prepl → P14, AO.effect → P15
open List renaming replicate → L1
open Nat renaming reduceAdd → N1, reduceSub → N2, reduceMul → N3, reduceLT → N4, reduceLeDiff → N5, reduceEqDiff → N6, reduceBEq → N7
open Int renaming reduceToNat → I1, reduceLT → I2, reduceLE → I3, reduceEq → I4, reduceAdd → I5, reduceSub → I6, reduceNeg → I7
abbrev p64u (b : BitVec 64) : PV := .int .u64 ((b.toNat : Nat) : Int)
/-- A set's value. -/
abbrev slW (f o : Bool) (a : Wd) : PV := .sl f o 1 a.length ((wI a).map (PV.int .u64))
theorem wI_get {a : Wd} {i : Nat} (h : i < a.length) : (wI a)[i]? = some (((wAt a i).toNat : Nat) : Int) := by
  rw [List.getElem?_map, List.getElem?_eq_getElem h, wAt_some (List.getElem?_eq_getElem h)]; rfl
theorem pquo64 {x y : Int} (h : y ≠ 0) : pbin .quo (.int .i64 x) (.int .i64 y) = some (.int .i64 (IntKind.i64.wrap (x.tdiv y))) := by
  simp [pbin, toAV0, abin, ofAV1, h, isShift, binInt]
theorem pmin2 {k : IntKind} {x y : Int} : pminV (.int k x) [.int k y] = some (.int k (min x y)) := by
  simp [pminV, toAV0, toAVs, foldO, amin2, ofAV1]
  split <;> omega
theorem wrap_pred {j : Nat} (h : j < 4000000000000) : IntKind.i64.wrap (((j + 1 : Nat) : Int) - 1) = (j : Int) := by
  rw [wrap64 (by omega) (by omega)]; omega
theorem frzW {g ver m : Nat} {W : Wd} (h : m ≤ W.length) : frzO (some (.cells g ver ((wI W).map (PV.int .u64)))) g 1 0 m = some (slW false true (W.take m)) := by
  rw [frzO_cells (by simp; omega) (underL_ints _ _ _)]
  have h1 : psub ((wI W).map (PV.int .u64)) 0 (m * 1) = (wI (W.take m)).map (PV.int .u64) := by simp [psub, List.map_take]
  have h2 : (W.take m).length = m := by rw [List.length_take]; omega
  rw [h1]
  unfold slW
  rw [h2]
theorem rep_set {α : Type} (z x : α) : ∀ n : Nat, (z :: List.replicate n z).set n x = List.replicate n z ++ [x]
  | 0 => rfl
  | n + 1 => by
    rw [List.set_cons_succ, List.replicate_succ, rep_set z x n]; rfl
section
variable {tab : FuncId → Option AF} (T : HasA tab)
include T

theorem bsAt_p {M : Mem} {K : PV → Mem → Prop} {f o : Bool} {a : Wd} {i : Nat} (hk : K (p64u (wAt a i)) M) :
    SemC tab 70 [slW f o a, p64 i] M K := by
  refine SemC_pure T.h70 (by simp only [PP, P1, P2, P3, P4, P5, P6, P7, P8, P9, P10, P11, P12, P13, P14, L1, P15, N1, N2, N3, N4, N5, N6, N7, I1, I2, I3, I4, I5, I6, I7, reduceIte, reduceCtorEq]) ?_
  simp only [af70, PP, P1, P2, P3, P4, P5, P6, P7, P8, P9, P10, P11, P12, P13, P14, L1, P15, N1, N2, N3, N4, N5, N6, N7, I1, I2, I3, I4, I5, I6, I7, reduceIte, reduceCtorEq]
  refine QIf.intro (fun c => ?_) (fun c => ?_)
  · have hi : i < a.length := by omega
    have i0 : (0 : Int) ≤ i := by omega
    have g := wI_get hi
    rw [List.getElem?_map] at g
    simp only [PP, P1, P2, P3, P4, P5, P6, P7, P8, P9, P10, P11, P12, P13, P14, L1, P15, N1, N2, N3, N4, N5, N6, N7, I1, I2, I3, I4, I5, I6, I7, reduceIte, reduceCtorEq, c, g, i0]
    exact hk
  · rw [wAt_ge (by omega)] at hk
    simp only [PP, P1, P2, P3, P4, P5, P6, P7, P8, P9, P10, P11, P12, P13, P14, L1, P15, N1, N2, N3, N4, N5, N6, N7, I1, I2, I3, I4, I5, I6, I7, reduceIte, reduceCtorEq, c]
    exact hk

theorem clipW_p {M : Mem} {K : PV → Mem → Prop} {id g off n ver : Nat} {cs : List PV} (hM : M[id]? = some (.cells g ver cs)) (hk : K (.ref id g 1 off n) M) :
    SemC tab 71 [.ref id g 1 off n] M K := by
  refine SemC_fn T.h71 ?_
  have e : ((n : Int) - 0).toNat = n := by omega
  have n0 : (0 : Int) ≤ n := by omega
  simp only [af71, PP, P1, P2, P3, P4, P5, P6, P7, P8, P9, P10, P11, P12, P13, P14, L1, P15, N1, N2, N3, N4, N5, N6, N7, I1, I2, I3, I4, I5, I6, I7, reduceIte, reduceCtorEq, hM, e, n0, Int.le_refl]
  exact hk

theorem combine_p {M : Mem} {K : PV → Mem → Prop} {f1 o1 f2 o2 : Bool} {a b : Wd} {g : FuncId} (op : BitVec 64 → BitVec 64 → BitVec 64) (ha : a.length < big) (hb : b.length < big)
    (hop : ∀ (M : Mem) (K : PV → Mem → Prop) (x y : BitVec 64), K (p64u (op x y)) M → SemC tab g [p64u x, p64u y] M K) (hk : K (slW false true (cmb op a b)) M) :
    SemC tab 65 [slW f1 o1 a, slW f2 o2 b, .func (.func g) [] []] M K := by
  refine SemC_pure T.h65 (by simp only [PP, P1, P2, P3, P4, P5, P6, P7, P8, P9, P10, P11, P12, P13, P14, L1, P15, N1, N2, N3, N4, N5, N6, N7, I1, I2, I3, I4, I5, I6, I7, reduceIte, reduceCtorEq]) ?_
  simp only [af65, PP, P1, P2, P3, P4, P5, P6, P7, P8, P9, P10, P11, P12, P13, P14, L1, P15, N1, N2, N3, N4, N5, N6, N7, I1, I2, I3, I4, I5, I6, I7, reduceIte, reduceCtorEq]
  have hn : min (max (a.length : Int) b.length) 64 = ((min (max a.length b.length) 64 : Nat) : Int) := by omega
  have hk' : K (slW false true (trim (cmbL op a b (min (max a.length b.length) 64)))) M := hk
  generalize hnn : min (max a.length b.length) 64 = n at hn hk'
  have hn64 : n ≤ 64 := by omega
  simp only [PP, P1, P2, P3, P4, P5, P6, P7, P8, P9, P10, P11, P12, P13, P14, L1, P15, N1, N2, N3, N4, N5, N6, N7, I1, I2, I3, I4, I5, I6, I7, reduceIte, reduceCtorEq, pmin2, hn]
  refine SemW_re (GStep.nil 8 1 rfl rfl rfl) ?_
  simp only [ptset, List.cons_append, List.nil_append, List.length_cons, List.length_nil, Nat.reduceAdd]
  refine loop2 (fun (i g2 : Nat) => i ≤ n)
    (fun i g2 => [slW f1 o1 a, slW f2 o2 b, .func (.func g) [] [], .junk, .junk, .junk, .junk, .func (.func 70) [] [], .ref 0 g2 1 0 i, .junk, .junk, .junk, .junk, .junk, .junk, p64 n, p64 i, .junk, .junk, .junk, .junk, .junk, .junk, .junk, .junk, .junk, .junk, .junk, .junk, .junk, .junk, .junk, .junk, .junk, .junk, .junk, .junk, .junk, .junk, .junk, .junk, .junk, .junk, .junk, .junk, .junk, .junk, .junk, .junk, .junk, .junk, .junk])
    (fun i g2 => [.cells g2 0 ((wI (cmbL op a b i)).map (PV.int .u64))])
    (fun i _ => n - i) 0 0 (by omega) (by simp only [PWeak_nil, PWeak_junk, PWeak_same, Int.cast_ofNat_Int, List.length_append, List.length_cons, List.length_nil, Nat.zero_add]) rfl ?_
  intro i g2 hi ih
  refine SemW_go (by kernel_rfl) ?_
  simp only [PP, P1, P2, P3, P4, P5, P6, P7, P8, P9, P10, P11, P12, P13, P14, L1, P15, N1, N2, N3, N4, N5, N6, N7, I1, I2, I3, I4, I5, I6, I7, reduceIte, reduceCtorEq]
  refine QIf.intro (fun c => ?_) (fun c => ?_)
  · have hin : i < n := by omega
    have hw := wrap_succ (k := i) (by show _ < 1000000000000; omega)
    have b1 : (i + 1) * 8 ≤ 140737488355328 := by omega
    have b2 : i ≤ 9223372036854775806 := by omega
    have b3 : i ≤ (cmbL op a b i).length := by rw [cmbL_len]; omega
    have hps : psub (List.map (PV.int .u64) (wI (cmbL op a b i))) 0 i = List.map (PV.int .u64) (wI (cmbL op a b i)) := psub_all _ _ (by rw [List.length_map, List.length_map, cmbL_len])
    simp only [PP, P1, P2, P3, P4, P5, P6, P7, P8, P9, P10, P11, P12, P13, P14, L1, P15, N1, N2, N3, N4, N5, N6, N7, I1, I2, I3, I4, I5, I6, I7, reduceIte, reduceCtorEq, c]
    refine bsAt_p T ?_
    simp only [PP, P1, P2, P3, P4, P5, P6, P7, P8, P9, P10, P11, P12, P13, P14, L1, P15, N1, N2, N3, N4, N5, N6, N7, I1, I2, I3, I4, I5, I6, I7, reduceIte, reduceCtorEq]
    refine bsAt_p T ?_
    simp only [PP, P1, P2, P3, P4, P5, P6, P7, P8, P9, P10, P11, P12, P13, P14, L1, P15, N1, N2, N3, N4, N5, N6, N7, I1, I2, I3, I4, I5, I6, I7, reduceIte, reduceCtorEq]
    refine hop _ _ _ _ ?_
    simp only [PP, P1, P2, P3, P4, P5, P6, P7, P8, P9, P10, P11, P12, P13, P14, L1, P15, N1, N2, N3, N4, N5, N6, N7, I1, I2, I3, I4, I5, I6, I7, reduceIte, reduceCtorEq, b1, b2, b3, hps, hw]
    exact SemW_to (ih (i + 1) (g2 + 1) (by omega) (by omega)) (by simp only [PWeak_nil, PWeak_junk, PWeak_same, Int.cast_ofNat_Int, List.length_append, List.length_cons, List.length_nil, Nat.zero_add]) (by rw [cmbL_succ]; simp)
  · have hin : i = n := by omega
    subst hin
    simp only [PP, P1, P2, P3, P4, P5, P6, P7, P8, P9, P10, P11, P12, P13, P14, L1, P15, N1, N2, N3, N4, N5, N6, N7, I1, I2, I3, I4, I5, I6, I7, reduceIte, reduceCtorEq, c]
    have hwl := cmbL_len op a b i
    generalize cmbL op a b i = W at hk' hwl ⊢
    refine loop1 (fun (m : Nat) => m ≤ i ∧ trimN W m = trimN W W.length)
      (fun m => [.junk, .junk, .junk, .junk, .junk, .junk, .junk, .junk, .ref 0 g2 1 0 m, .junk, .junk, .junk, .junk, .junk, .junk, .junk, .junk, .junk, .junk, .junk, .junk, .junk, .junk, .junk, .junk, .junk, .junk, .junk, .junk, .junk, .junk, .junk, .junk, .junk, .junk, .junk, .junk, .junk, .junk, .junk, .junk, .junk, .junk, .junk, .junk, .junk, .junk, .junk, .junk, .junk, .junk, .junk]) (fun m => [.cells g2 0 ((wI W).map (PV.int .u64))]) (fun m => m) i ⟨by omega, by rw [hwl]⟩ (by simp only [PWeak_nil, PWeak_junk, PWeak_same, Int.cast_ofNat_Int, List.length_append, List.length_cons, List.length_nil, Nat.zero_add]) rfl ?_
    intro m ⟨hm, htr⟩ ih2
    have hfin : trimN W m = m → K (slW false true (W.take m)) M := fun e => by
      have hk2 : K (slW false true (W.take (trimN W W.length))) M := hk'
      rw [← htr, e] at hk2; exact hk2
    refine SemW_go (by kernel_rfl) ?_
    simp only [PP, P1, P2, P3, P4, P5, P6, P7, P8, P9, P10, P11, P12, P13, P14, L1, P15, N1, N2, N3, N4, N5, N6, N7, I1, I2, I3, I4, I5, I6, I7, reduceIte, reduceCtorEq]
    refine QIf.intro (fun d => ?_) (fun d => ?_)
    · obtain ⟨j, rfl⟩ : ∃ j, m = j + 1 := ⟨m - 1, by omega⟩
      have hw := wrap_pred (j := j) (by omega)
      have j0 : (0 : Int) ≤ j := by omega
      have j1 : (j : Int) < ((j + 1 : Nat) : Int) := by omega
      have gj := wI_get (a := W) (i := j) (by omega)
      rw [List.getElem?_map] at gj
      have e2 : ((j : Int) - 0).toNat = j := by omega
      have j2 : (j : Int) ≤ ((j + 1 : Nat) : Int) := by omega
      simp only [PP, P1, P2, P3, P4, P5, P6, P7, P8, P9, P10, P11, P12, P13, P14, L1, P15, N1, N2, N3, N4, N5, N6, N7, I1, I2, I3, I4, I5, I6, I7, reduceIte, reduceCtorEq, hw, j0, j1, gj, d]
      have et : trimN W (j + 1) = if wAt W j = 0#64 then trimN W j else j + 1 := rfl
      rw [et] at htr hfin
      refine QIf.intro (fun e => ?_) (fun e => ?_)
      · have hz : wAt W j = 0#64 := BitVec.eq_of_toNat_eq (by simpa using e)
        rw [if_pos hz] at htr
        simp only [PP, P1, P2, P3, P4, P5, P6, P7, P8, P9, P10, P11, P12, P13, P14, L1, P15, N1, N2, N3, N4, N5, N6, N7, I1, I2, I3, I4, I5, I6, I7, reduceIte, reduceCtorEq, e, hw, j0, j2, e2]
        exact SemW_weak (ih2 j ⟨by omega, htr⟩ (by omega)) (by simp only [PWeak_nil, PWeak_junk, PWeak_same, Int.cast_ofNat_Int, List.length_append, List.length_cons, List.length_nil, Nat.zero_add])
      · have hz : ¬ wAt W j = 0#64 := fun h => e (by rw [h]; rfl)
        rw [if_neg hz] at hfin
        have hk3 := hfin rfl
        simp only [PP, P1, P2, P3, P4, P5, P6, P7, P8, P9, P10, P11, P12, P13, P14, L1, P15, N1, N2, N3, N4, N5, N6, N7, I1, I2, I3, I4, I5, I6, I7, reduceIte, reduceCtorEq, e]
        refine clipW_p T rfl ?_
        simp only [PP, P1, P2, P3, P4, P5, P6, P7, P8, P9, P10, P11, P12, P13, P14, L1, P15, N1, N2, N3, N4, N5, N6, N7, I1, I2, I3, I4, I5, I6, I7, reduceIte, reduceCtorEq, frzW (W := W) (m := j + 1) (by omega)]
        exact hk3
    · have : m = 0 := by omega
      subst this
      have hk3 := hfin rfl
      simp only [PP, P1, P2, P3, P4, P5, P6, P7, P8, P9, P10, P11, P12, P13, P14, L1, P15, N1, N2, N3, N4, N5, N6, N7, I1, I2, I3, I4, I5, I6, I7, reduceIte, reduceCtorEq, d]
      refine clipW_p T rfl ?_
      simp only [PP, P1, P2, P3, P4, P5, P6, P7, P8, P9, P10, P11, P12, P13, P14, L1, P15, N1, N2, N3, N4, N5, N6, N7, I1, I2, I3, I4, I5, I6, I7, reduceIte, reduceCtorEq, frzW (W := W) (m := 0) (by omega)]
      exact hk3

theorem orW_p {M : Mem} {K : PV → Mem → Prop} {x y : BitVec 64} (hk : K (p64u (x ||| y)) M) : SemC tab 69 [p64u x, p64u y] M K := by
  refine SemC_pure T.h69 (by simp only [PP, P1, P2, P3, P4, P5, P6, P7, P8, P9, P10, P11, P12, P13, P14, L1, P15, N1, N2, N3, N4, N5, N6, N7, I1, I2, I3, I4, I5, I6, I7, reduceIte, reduceCtorEq]) ?_
  simp only [af69, PP, P1, P2, P3, P4, P5, P6, P7, P8, P9, P10, P11, P12, P13, P14, L1, P15, N1, N2, N3, N4, N5, N6, N7, I1, I2, I3, I4, I5, I6, I7, reduceIte, reduceCtorEq, pbin_or64]
  exact hk
theorem andW_p {M : Mem} {K : PV → Mem → Prop} {x y : BitVec 64} (hk : K (p64u (x &&& y)) M) : SemC tab 66 [p64u x, p64u y] M K := by
  refine SemC_pure T.h66 (by simp only [PP, P1, P2, P3, P4, P5, P6, P7, P8, P9, P10, P11, P12, P13, P14, L1, P15, N1, N2, N3, N4, N5, N6, N7, I1, I2, I3, I4, I5, I6, I7, reduceIte, reduceCtorEq]) ?_
  simp only [af66, PP, P1, P2, P3, P4, P5, P6, P7, P8, P9, P10, P11, P12, P13, P14, L1, P15, N1, N2, N3, N4, N5, N6, N7, I1, I2, I3, I4, I5, I6, I7, reduceIte, reduceCtorEq, pbin_and64]
  exact hk
theorem notW_p {M : Mem} {K : PV → Mem → Prop} {x y : BitVec 64} (hk : K (p64u (x &&& ~~~ y)) M) : SemC tab 67 [p64u x, p64u y] M K := by
  refine SemC_pure T.h67 (by simp only [PP, P1, P2, P3, P4, P5, P6, P7, P8, P9, P10, P11, P12, P13, P14, L1, P15, N1, N2, N3, N4, N5, N6, N7, I1, I2, I3, I4, I5, I6, I7, reduceIte, reduceCtorEq]) ?_
  simp only [af67, PP, P1, P2, P3, P4, P5, P6, P7, P8, P9, P10, P11, P12, P13, P14, L1, P15, N1, N2, N3, N4, N5, N6, N7, I1, I2, I3, I4, I5, I6, I7, reduceIte, reduceCtorEq, pbin_andNot64]
  exact hk
theorem union_p {M : Mem} {K : PV → Mem → Prop} {f1 o1 f2 o2 : Bool} {a b : Wd} (ha : a.length < big) (hb : b.length < big) (hk : K (slW false true (cmb (fun x y => x ||| y) a b)) M) :
    SemC tab 63 [slW f1 o1 a, slW f2 o2 b] M K := by
  refine SemC_pure T.h63 (by simp only [PP, P1, P2, P3, P4, P5, P6, P7, P8, P9, P10, P11, P12, P13, P14, L1, P15, N1, N2, N3, N4, N5, N6, N7, I1, I2, I3, I4, I5, I6, I7, reduceIte, reduceCtorEq]) ?_
  simp only [af63, PP, P1, P2, P3, P4, P5, P6, P7, P8, P9, P10, P11, P12, P13, P14, L1, P15, N1, N2, N3, N4, N5, N6, N7, I1, I2, I3, I4, I5, I6, I7, reduceIte, reduceCtorEq]
  refine combine_p T (fun x y => x ||| y) ha hb (fun M K x y h => orW_p T h) ?_
  simp only [PP, P1, P2, P3, P4, P5, P6, P7, P8, P9, P10, P11, P12, P13, P14, L1, P15, N1, N2, N3, N4, N5, N6, N7, I1, I2, I3, I4, I5, I6, I7, reduceIte, reduceCtorEq]
  exact hk
theorem intersect_p {M : Mem} {K : PV → Mem → Prop} {f1 o1 f2 o2 : Bool} {a b : Wd} (ha : a.length < big) (hb : b.length < big) (hk : K (slW false true (cmb (fun x y => x &&& y) a b)) M) :
    SemC tab 58 [slW f1 o1 a, slW f2 o2 b] M K := by
  refine SemC_pure T.h58 (by simp only [PP, P1, P2, P3, P4, P5, P6, P7, P8, P9, P10, P11, P12, P13, P14, L1, P15, N1, N2, N3, N4, N5, N6, N7, I1, I2, I3, I4, I5, I6, I7, reduceIte, reduceCtorEq]) ?_
  simp only [af58, PP, P1, P2, P3, P4, P5, P6, P7, P8, P9, P10, P11, P12, P13, P14, L1, P15, N1, N2, N3, N4, N5, N6, N7, I1, I2, I3, I4, I5, I6, I7, reduceIte, reduceCtorEq]
  refine combine_p T (fun x y => x &&& y) ha hb (fun M K x y h => andW_p T h) ?_
  simp only [PP, P1, P2, P3, P4, P5, P6, P7, P8, P9, P10, P11, P12, P13, P14, L1, P15, N1, N2, N3, N4, N5, N6, N7, I1, I2, I3, I4, I5, I6, I7, reduceIte, reduceCtorEq]
  exact hk
theorem minus_p {M : Mem} {K : PV → Mem → Prop} {f1 o1 f2 o2 : Bool} {a b : Wd} (ha : a.length < big) (hb : b.length < big) (hk : K (slW false true (cmb (fun x y => x &&& ~~~ y) a b)) M) :
    SemC tab 59 [slW f1 o1 a, slW f2 o2 b] M K := by
  refine SemC_pure T.h59 (by simp only [PP, P1, P2, P3, P4, P5, P6, P7, P8, P9, P10, P11, P12, P13, P14, L1, P15, N1, N2, N3, N4, N5, N6, N7, I1, I2, I3, I4, I5, I6, I7, reduceIte, reduceCtorEq]) ?_
  simp only [af59, PP, P1, P2, P3, P4, P5, P6, P7, P8, P9, P10, P11, P12, P13, P14, L1, P15, N1, N2, N3, N4, N5, N6, N7, I1, I2, I3, I4, I5, I6, I7, reduceIte, reduceCtorEq]
  refine combine_p T (fun x y => x &&& ~~~ y) ha hb (fun M K x y h => notW_p T h) ?_
  simp only [PP, P1, P2, P3, P4, P5, P6, P7, P8, P9, P10, P11, P12, P13, P14, L1, P15, N1, N2, N3, N4, N5, N6, N7, I1, I2, I3, I4, I5, I6, I7, reduceIte, reduceCtorEq]
  exact hk

theorem single_p {M : Mem} {K : PV → Mem → Prop} {k : Nat} (h : k < 4096) (hk : K (slW false true (sing k)) M) : SemC tab 64 [p64 k] M K := by
  refine SemC_pure T.h64 (by simp only [PP, P1, P2, P3, P4, P5, P6, P7, P8, P9, P10, P11, P12, P13, P14, L1, P15, N1, N2, N3, N4, N5, N6, N7, I1, I2, I3, I4, I5, I6, I7, reduceIte, reduceCtorEq]) ?_
  have k0 : ¬ (k : Int) < 0 := by omega
  have k1 : ¬ (4095 : Int) < k := by omega
  have h64 : (64 : Int) ≠ 0 := by omega
  have e1 : IntKind.i64.wrap ((k : Int).tdiv 64) = ((k / 64 : Nat) : Int) := by
    rw [Int.tdiv_eq_ediv_of_nonneg (by omega), wrap64 (by omega) (by omega)]; omega
  have e2 : (k : Int).tmod 64 = ((k % 64 : Nat) : Int) := by rw [Int.tmod_eq_emod_of_nonneg (by omega)]; omega
  have e3 := wrap_succ (k := k / 64) (by show _ < 1000000000000; omega)
  have b0 : (0 : Int) ≤ ((k / 64 + 1 : Nat) : Int) := by omega
  have b1 : ((k / 64 + 1 : Nat) : Int) * 8 ≤ 140737488355328 := by omega
  have b2 : ((k / 64 + 1 : Nat) : Int) ≤ 9223372036854775807 := by omega
  have b3 : (0 : Int) ≤ ((k / 64 : Nat) : Int) := by omega
  have b4 : ((k / 64 : Nat) : Int) < ((k / 64 + 1 : Nat) : Int) := by omega
  have b5 : k / 64 + 1 ≤ k / 64 + 1 := Nat.le_refl _
  have hsh := pbin_shl64 (k := k % 64) (Nat.mod_lt _ (by omega))
  simp only [af64, PP, P1, P2, P3, P4, P5, P6, P7, P8, P9, P10, P11, P12, P13, P14, L1, P15, N1, N2, N3, N4, N5, N6, N7, I1, I2, I3, I4, I5, I6, I7, reduceIte, reduceCtorEq, k0, k1, prem h64, pquo64 h64, e1, e2, e3, b0, b1, b2, b3, b4, hsh, Int.le_refl]
  have hc : List.replicate (k / 64) (PV.int .u64 0) ++ [PV.int .u64 (((BitVec.twoPow 64 (k % 64)).toNat : Nat) : Int)] = (wI (sing k)).map (PV.int .u64) := by
    simp [sing]
  have hl := sing_len k
  rw [rep_set, hc]
  have ht : (sing k).take (k / 64 + 1) = sing k := List.take_of_length_le (by omega)
  simp only [PP, P1, P2, P3, P4, P5, P6, P7, P8, P9, P10, P11, P12, P13, P14, L1, P15, N1, N2, N3, N4, N5, N6, N7, I1, I2, I3, I4, I5, I6, I7, reduceIte, reduceCtorEq, frzW (W := sing k) (m := k / 64 + 1) (by omega), ht]
  exact hk

theorem with_p {M : Mem} {K : PV → Mem → Prop} {f o : Bool} {a : Wd} {k : Nat} (ha : a.length < big) (h : k < 4096) (hk : K (slW false true (withK a k)) M) : SemC tab 57 [slW f o a, p64 k] M K := by
  refine SemC_pure T.h57 (by simp only [PP, P1, P2, P3, P4, P5, P6, P7, P8, P9, P10, P11, P12, P13, P14, L1, P15, N1, N2, N3, N4, N5, N6, N7, I1, I2, I3, I4, I5, I6, I7, reduceIte, reduceCtorEq]) ?_
  simp only [af57, PP, P1, P2, P3, P4, P5, P6, P7, P8, P9, P10, P11, P12, P13, P14, L1, P15, N1, N2, N3, N4, N5, N6, N7, I1, I2, I3, I4, I5, I6, I7, reduceIte, reduceCtorEq]
  refine single_p T h ?_
  simp only [PP, P1, P2, P3, P4, P5, P6, P7, P8, P9, P10, P11, P12, P13, P14, L1, P15, N1, N2, N3, N4, N5, N6, N7, I1, I2, I3, I4, I5, I6, I7, reduceIte, reduceCtorEq]
  refine union_p T ha (by rw [sing_len]; show _ < 1000000000000; omega) ?_
  simp only [PP, P1, P2, P3, P4, P5, P6, P7, P8, P9, P10, P11, P12, P13, P14, L1, P15, N1, N2, N3, N4, N5, N6, N7, I1, I2, I3, I4, I5, I6, I7, reduceIte, reduceCtorEq]
  exact hk

theorem of_p {M : Mem} {K : PV → Mem → Prop} {f o : Bool} {l : List Nat} {xs : List Int} (e : natI l = xs) (hb : l.length < big) (h : ∀ x ∈ l, x < 4096) (hk : K (slW false true (ofL l)) M) : SemC tab 41 [slI f o .i64 xs] M K := by
  subst e
  refine SemC_wk ?_
  refine SemC_pure T.h41 (by simp only [PP, P1, P2, P3, P4, P5, P6, P7, P8, P9, P10, P11, P12, P13, P14, L1, P15, N1, N2, N3, N4, N5, N6, N7, I1, I2, I3, I4, I5, I6, I7, reduceIte, reduceCtorEq]) ?_
  simp only [af41, PP, P1, P2, P3, P4, P5, P6, P7, P8, P9, P10, P11, P12, P13, P14, L1, P15, N1, N2, N3, N4, N5, N6, N7, I1, I2, I3, I4, I5, I6, I7, reduceIte, reduceCtorEq]
  refine SemW_re (GStep.wk 2 (slW false true []) (PvWk.nils _ _ _) rfl) ?_
  simp only [ptset]
  have hb' : l.length < 1000000000000 := hb
  refine loop2 (fun (k : Nat) (a : Wd) => k ≤ l.length ∧ a.length ≤ 64 ∧ (l.drop k).foldl withK a = ofL l)
    (fun k a => [.junk, .junk, slW false true a, .junk, .junk, slI f o .i64 (natI l), p64 l.length, p64 k, .junk, .junk, .junk, .junk, .junk, .junk, .junk, .junk]) (fun _ _ => []) (fun k _ => l.length - k) 0 [] ⟨by omega, by simp, rfl⟩ (by simp only [PWeak_nil, PWeak_junk, PWeak_same, Int.cast_ofNat_Int, List.length_append, List.length_cons, List.length_nil, Nat.zero_add]) rfl ?_
  intro k a ⟨hle, hal, hfo⟩ ih
  refine SemW_go (by kernel_rfl) ?_
  simp only [PP, P1, P2, P3, P4, P5, P6, P7, P8, P9, P10, P11, P12, P13, P14, L1, P15, N1, N2, N3, N4, N5, N6, N7, I1, I2, I3, I4, I5, I6, I7, reduceIte, reduceCtorEq]
  refine QIf.intro (fun c => ?_) (fun c => ?_)
  · have hk' : k < l.length := by omega
    obtain ⟨x, g⟩ := some_of hk'
    have hw := wrap_succ (k := k) (by show _ < 1000000000000; omega)
    have k0 : (0 : Int) ≤ k := by omega
    rw [drop_some g, List.foldl_cons] at hfo
    simp only [PP, P1, P2, P3, P4, P5, P6, P7, P8, P9, P10, P11, P12, P13, P14, L1, P15, N1, N2, N3, N4, N5, N6, N7, I1, I2, I3, I4, I5, I6, I7, reduceIte, reduceCtorEq, c, g, k0]
    refine with_p T (by show _ < 1000000000000; omega) (h x (List.mem_of_getElem? g)) ?_
    simp only [PP, P1, P2, P3, P4, P5, P6, P7, P8, P9, P10, P11, P12, P13, P14, L1, P15, N1, N2, N3, N4, N5, N6, N7, I1, I2, I3, I4, I5, I6, I7, reduceIte, reduceCtorEq, hw]
    exact SemW_weak (ih (k + 1) (withK a x) ⟨by omega, cmb_len _ _ _, hfo⟩ (by omega)) (by simp only [PWeak_nil, PWeak_junk, PWeak_same, Int.cast_ofNat_Int, List.length_append, List.length_cons, List.length_nil, Nat.zero_add])
  · rw [List.drop_eq_nil_of_le (by omega), List.foldl_nil] at hfo
    subst hfo
    simp only [PP, P1, P2, P3, P4, P5, P6, P7, P8, P9, P10, P11, P12, P13, P14, L1, P15, N1, N2, N3, N4, N5, N6, N7, I1, I2, I3, I4, I5, I6, I7, reduceIte, reduceCtorEq, c]
    exact ⟨_, PvWk.refl _, hk⟩
theorem intersects_p {M : Mem} {K : PV → Mem → Prop} {f1 o1 f2 o2 : Bool} {a b : Wd} (ha : a.length < big) (hb : b.length < big) (hk : K (.bool (decide (0 < (cmb (fun x y => x &&& y) a b).length))) M) :
    SemC tab 42 [slW f1 o1 a, slW f2 o2 b] M K := by
  refine SemC_pure T.h42 (by simp only [PP, P1, P2, P3, P4, P5, P6, P7, P8, P9, P10, P11, P12, P13, P14, L1, P15, N1, N2, N3, N4, N5, N6, N7, I1, I2, I3, I4, I5, I6, I7, reduceIte, reduceCtorEq]) ?_
  simp only [af42, PP, P1, P2, P3, P4, P5, P6, P7, P8, P9, P10, P11, P12, P13, P14, L1, P15, N1, N2, N3, N4, N5, N6, N7, I1, I2, I3, I4, I5, I6, I7, reduceIte, reduceCtorEq]
  refine intersect_p T ha hb ?_
  simp only [PP, P1, P2, P3, P4, P5, P6, P7, P8, P9, P10, P11, P12, P13, P14, L1, P15, N1, N2, N3, N4, N5, N6, N7, I1, I2, I3, I4, I5, I6, I7, reduceIte, reduceCtorEq, Int.natCast_pos]
  exact hk
theorem subset_p {M : Mem} {K : PV → Mem → Prop} {f1 o1 f2 o2 : Bool} {a b : Wd} (ha : a.length < big) (hb : b.length < big) (hk : K (.bool (decide ((cmb (fun x y => x &&& ~~~ y) a b).length = 0))) M) :
    SemC tab 43 [slW f1 o1 a, slW f2 o2 b] M K := by
  refine SemC_pure T.h43 (by simp only [PP, P1, P2, P3, P4, P5, P6, P7, P8, P9, P10, P11, P12, P13, P14, L1, P15, N1, N2, N3, N4, N5, N6, N7, I1, I2, I3, I4, I5, I6, I7, reduceIte, reduceCtorEq]) ?_
  simp only [af43, PP, P1, P2, P3, P4, P5, P6, P7, P8, P9, P10, P11, P12, P13, P14, L1, P15, N1, N2, N3, N4, N5, N6, N7, I1, I2, I3, I4, I5, I6, I7, reduceIte, reduceCtorEq]
  refine minus_p T ha hb ?_
  simp only [PP, P1, P2, P3, P4, P5, P6, P7, P8, P9, P10, P11, P12, P13, P14, L1, P15, N1, N2, N3, N4, N5, N6, N7, I1, I2, I3, I4, I5, I6, I7, reduceIte, reduceCtorEq, Int.natCast_eq_zero]
  exact hk
end
end Go.Am.Ar
