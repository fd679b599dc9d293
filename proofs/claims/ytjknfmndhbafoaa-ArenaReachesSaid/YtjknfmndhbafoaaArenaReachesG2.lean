/- Contracts: the attractor of the program, and what goes with it. -/
import Derived.Test.YtjknfmndhbafoaaArenaReachesG1
import Derived.Test.YtjknfmndhbafoaaArenaReachesG0
import Derived.Test.YtjknfmndhbafoaaPmC
set_option linter.unusedVariables false
set_option linter.unusedSimpArgs false
set_option maxRecDepth 10000
namespace Go.Am.Ar
open Go.Am renaming pchk → P1, pold → P2, PKNo → P3, ppack → P4, PObj.under → P5, pput → P6, ptset → P7, ptget → P8, pev → P9, ofAV → P10, ofAV1 → P11, ppad → P12, pfill → P13, prepl → P14, AO.effect → P15
open List renaming replicate → L1
open Nat renaming reduceAdd → N1, reduceSub → N2, reduceMul → N3, reduceLT → N4, reduceLeDiff → N5, reduceEqDiff → N6, reduceBEq → N7
open Int renaming reduceToNat → I1, reduceLT → I2, reduceLE → I3, reduceEq → I4, reduceAdd → I5, reduceSub → I6, reduceNeg → I7

theorem tabL_set {n : Nat} {f : Nat → Int} {u : Nat} (x : Int) (h : u < n) : (tabL n f).set u x = tabL n (upd f u x) := tabL_of (by rw [List.length_set, tabL_len]) fun v hv => by
  unfold upd
  by_cases e : v = u
  · subst e; rw [if_pos rfl, set_at (by rw [tabL_len]; exact h)]
  · rw [if_neg e, set_low e, tabL_get hv]
theorem need_get {len side o : Int} (h1 : 0 ≤ side) (h2 : side ≤ 1) (h3 : 0 ≤ o) (h4 : o ≤ 1) : ([p64 len, p64 len].set side.toNat (p64 1))[o.toNat]? = some (p64 (if o = side then 1 else len)) := by
  have e1 : side = 0 ∨ side = 1 := by omega
  have e2 : o = 0 ∨ o = 1 := by omega
  rcases e1 with rfl | rfl <;> rcases e2 with rfl | rfl <;> rfl

theorem lp_is {lp : PLoop} {B : AC} (h1 : lp.state = .ready) (h2 : lp.pending = none) (hB : lp.body = B) : (⟨.ready, none, lp.tmps, lp.params, lp.assign, B⟩ : PLoop) = lp := by
  cases lp; simp_all
theorem under_rows (m n : Nat) (f : Nat → List Int) : underL m (tabA n fun u => slI false true .i64 (f u)) = true := (underL_iff m _).2 fun v hv => by
  obtain ⟨u, _, rfl⟩ := tabA_mem hv
  exact under_slI _ _ _ _ _ _ _
/-- What is open of a position at first. -/
def open0 (ow : List Int) (su : List (List Int)) (side : Int) (v : Nat) : Int := if ow.getD v 0 = side then 1 else ((su.getD v []).length : Int)
theorem row_ok {ow pr : List Int} {su : List (List Int)} (V : Valid ow pr su) {v : Nat} (hv : v < ow.length) : su.getD v [] ≠ [] ∧ (su.getD v []).Pairwise (· < ·) ∧ ∀ u ∈ su.getD v [], 0 ≤ u ∧ u < ow.length := by
  have hs := V.s
  have hi : v < su.length := by omega
  obtain ⟨_, _, _, h1, q⟩ := V.row v hi
  have e : su.getD v [] = su[v] := by simp [List.getD, hi]
  obtain ⟨q1, q2⟩ := posM_rise q
  rw [e]
  exact ⟨fun h => by rw [h] at h1; simp at h1, q1, fun u hu => by have := q2 u hu; omega⟩
theorem Sf_mem {ow pr : List Int} {su : List (List Int)} (V : Valid ow pr su) {v x : Nat} (hv : v < ow.length) : x ∈ Sf su v ↔ (x : Int) ∈ su.getD v [] := by
  constructor
  · intro h
    obtain ⟨w, hw, rfl⟩ := List.mem_map.1 h
    have := (row_ok V hv).2.2 w hw
    rwa [Int.toNat_of_nonneg this.1]
  · exact fun h => List.mem_map.2 ⟨_, h, rfl⟩
theorem Sf_ok {ow pr : List Int} {su : List (List Int)} (V : Valid ow pr su) {v : Nat} (hv : v < ow.length) : Sf su v ≠ [] ∧ (∀ u ∈ Sf su v, u < ow.length) ∧ (Sf su v).Nodup := by
  obtain ⟨h1, h2, h3⟩ := row_ok V hv
  refine ⟨fun h => h1 (List.map_eq_nil_iff.1 h), fun u hu => ?_, ?_⟩
  · obtain ⟨w, hw, rfl⟩ := List.mem_map.1 hu
    have := h3 w hw; omega
  · unfold Sf
    refine List.pairwise_map.2 (List.Pairwise.imp_of_mem ?_ h2)
    intro a b ha hb hab e
    have := h3 a ha; have := h3 b hb; omega
theorem not_before {l : List Nat} (hd : l.Nodup) {k u : Nat} (h : l[k]? = some u) : u ∉ l.take k := by
  intro hm
  obtain ⟨j, hj, e⟩ := List.mem_iff_getElem.1 hm
  obtain ⟨hk, e2⟩ := List.getElem?_eq_some_iff.1 h
  have hj2 : j < k := by simp at hj; omega
  rw [List.getElem_take] at e
  exact List.pairwise_iff_getElem.1 hd j k (by omega) hk hj2 (by rw [e, e2])
theorem predN_nodup (su : List (List Int)) (k u : Nat) : (predN su k u).Nodup := List.Pairwise.filter _ List.nodup_range
theorem keep_back {keep : List Int} (h : ∀ x ∈ keep, 0 ≤ x) : keep = (keep.map Int.toNat).map (fun v => ((v : Nat) : Int)) := by
  rw [List.map_map]
  conv => lhs; rw [← List.map_id keep]
  exact List.map_congr_left fun x hx => by have := h x hx; simp only [id, Function.comp]; omega
section
variable {tab : FuncId → Option AF} (T : HasA tab)
include T

theorem attract_p {M : Mem} {K : PV → Mem → Prop} {f1 p1 f2 p2 f3 p3 f4 p4 f5 p5 : Bool} {ow pr keep : List Int} {side : Int} {su : List (List Int)} (B : Bnd ow pr su) (hb : keep.length < big) (hs0 : 0 ≤ side) (ho : ∀ x ∈ ow, 0 ≤ x) (hq : K (attrM ow pr su side keep) M) :
    SemC tab 13 [gmP f1 p1 f2 p2 f3 p3 f4 p4 ow pr su, p8 side, slI f5 p5 .i64 keep] M K := by
  refine SemC_wk ?_
  refine SemC_pure T.h13 (by simp only [PP, P1, P2, P3, P4, P5, P6, P7, P8, P9, P10, P11, P12, P13, P14, L1, P15, N1, N2, N3, N4, N5, N6, N7, I1, I2, I3, I4, I5, I6, I7, reduceIte, reduceCtorEq]) ?_
  simp only [af13, PP, P1, P2, P3, P4, P5, P6, P7, P8, P9, P10, P11, P12, P13, P14, L1, P15, N1, N2, N3, N4, N5, N6, N7, I1, I2, I3, I4, I5, I6, I7, reduceIte, reduceCtorEq, attrM] at hq ⊢
  refine acheck_p T B hb ?_
  simp only [PP, P1, P2, P3, P4, P5, P6, P7, P8, P9, P10, P11, P12, P13, P14, L1, P15, N1, N2, N3, N4, N5, N6, N7, I1, I2, I3, I4, I5, I6, I7, reduceIte, reduceCtorEq]
  refine QIf.intro (fun c1 => ?_) (fun c1 => ?_)
  rotate_left
  · simp only [PP, P1, P2, P3, P4, P5, P6, P7, P8, P9, P10, P11, P12, P13, P14, L1, P15, N1, N2, N3, N4, N5, N6, N7, I1, I2, I3, I4, I5, I6, I7, reduceIte, reduceCtorEq, c1] at hq ⊢
    exact ⟨_, wk_attr _, hq⟩
  simp only [PP, P1, P2, P3, P4, P5, P6, P7, P8, P9, P10, P11, P12, P13, P14, L1, P15, N1, N2, N3, N4, N5, N6, N7, I1, I2, I3, I4, I5, I6, I7, reduceIte, reduceCtorEq, c1] at hq ⊢
  obtain ⟨V, hside, hpm⟩ := wrong_zero c1
  have hs := V.s
  have n1 := V.n1
  have b0 : (0 : Int) ≤ ow.length := by omega
  have b1 : (ow.length : Int) * 8 ≤ 140737488355328 := by omega
  have b2 : (ow.length : Int) ≤ 9223372036854775807 := by omega
  simp only [PP, P1, P2, P3, P4, P5, P6, P7, P8, P9, P10, P11, P12, P13, P14, L1, P15, N1, N2, N3, N4, N5, N6, N7, I1, I2, I3, I4, I5, I6, I7, reduceIte, reduceCtorEq, b0, b1, b2, Int.le_refl]
  refine loop7 (fun (v vr vs vo : Nat) (a1 a2 a3 : List Int) => v ≤ ow.length ∧ a1.length = ow.length ∧ a2.length = ow.length ∧ a3.length = ow.length ∧ ∀ u, u < v → a1[u]? = some (-1) ∧ a2[u]? = some (-1) ∧ a3[u]? = some (open0 ow su side u))
    (fun v vr vs vo a1 a2 a3 => [.junk, p8 side, slI f5 p5 .i64 keep, .ptr 0 0 0, .junk, .junk, .ptr 1 0 0, .ref 3 0 1 0 ow.length, .junk, .junk, .junk, .ptr 5 0 0, .junk, .junk, .junk, .junk, .junk, .junk, .junk, .junk, .junk, .junk, .junk, .junk, .junk, .junk, .junk, .junk, .junk, .junk, .junk, .junk, .junk, .junk, .junk, .junk, .junk, .junk, .junk, p64 ow.length, p64 v, .junk, .junk, .junk, .junk, .junk, .junk, .junk, .junk, .junk, .junk, .junk, .junk, .junk, .junk, .junk, .junk, .junk, .junk, .junk, .junk, .junk, .junk, .junk, .junk, .junk, .junk, .junk, .junk, .junk, .junk, .junk, .junk, .junk, .junk, .junk, .junk, .junk, .junk, .junk, .junk, .junk, .junk, .junk, .junk, .junk, .junk, .junk, .junk, .junk, .junk, .junk, .junk, .junk, .junk, .junk, .junk, .junk, .junk, .junk, .junk, .junk, .junk, .junk, .junk, .junk, .junk, .junk, .junk, .junk, .junk, .junk, .junk, .junk, .junk, .junk, .junk, .junk, .junk, .junk, .junk, .junk, .junk, .junk, .junk, .junk, .junk, .junk, .junk, .junk, .junk, .junk, .junk, .junk, .junk, .junk, .junk, .junk, .junk, .junk, .junk, .junk, .junk, .junk, .junk, .junk, .junk, .junk, .junk, .junk, .junk, .junk, .junk, .junk, .junk, .junk, .junk, .junk, .junk, .junk, .junk, .junk, .junk])
    (fun v vr vs vo a1 a2 a3 => [.cells 0 0 [slI f1 p1 .u8 ow, slI f2 p2 .i64 pr, slR f3 p3 f4 p4 .i64 su], .cells 0 1 [.ref 2 0 1 0 ow.length], .cells 0 vr (a1.map (PV.int .i64)), .cells 0 vs (a2.map (PV.int .i64)), .cells 0 vo (a3.map (PV.int .i64)), .cells 0 1 [.ref 4 0 1 0 ow.length]])
    (fun v _ _ _ _ _ _ => ow.length - v) 0 0 0 0 (List.replicate ow.length 0) (List.replicate ow.length 0) (List.replicate ow.length 0) ⟨by omega, by simp, by simp, by simp, by intro v h; omega⟩ (by simp only [PWeak_nil, PWeak_junk, PWeak_same, Int.cast_ofNat_Int, List.length_append, List.length_cons, List.length_nil, Nat.zero_add]) (by simp only [List.map_replicate]) ?_
  intro v vr vs vo a1 a2 a3 ⟨hle, l1, l2, l3, ha⟩ ih
  refine SemW_go (by kernel_rfl) ?_
  simp only [PP, P1, P2, P3, P4, P5, P6, P7, P8, P9, P10, P11, P12, P13, P14, L1, P15, N1, N2, N3, N4, N5, N6, N7, I1, I2, I3, I4, I5, I6, I7, reduceIte, reduceCtorEq]
  refine QIf.intro (fun c => ?_) (fun c => ?_)
  · have hv : v < ow.length := by omega
    have v0 : (0 : Int) ≤ v := by omega
    have hwv := wrap_succ (k := v) (by show _ < 1000000000000; omega)
    have i1 : v + 1 ≤ ow.length := hv
    have cs : (v : Int) < su.length := by omega
    obtain ⟨row, g1⟩ := some_of (xs := su) (k := v) (by omega)
    obtain ⟨o, g2⟩ := some_of (xs := ow) (k := v) (by omega)
    have o0 : 0 ≤ o := ho o (List.mem_of_getElem? g2)
    have o1 : o ≤ 1 := by
      obtain ⟨_, _, q, _⟩ := V.row v (by omega)
      rwa [getD_some g2] at q
    have g3 := need_get (len := row.length) hs0 hside o0 o1
    have e0 : open0 ow su side v = if o = side then 1 else (row.length : Int) := by
      unfold open0; rw [getD_some g2, show su.getD v [] = row by simp [List.getD, g1]]
    have s2 : side < 2 := by omega
    have o2 : o < 2 := by omega
    have s3 : side.toNat + 1 ≤ 2 := by omega
    simp only [PP, P1, P2, P3, P4, P5, P6, P7, P8, P9, P10, P11, P12, P13, P14, L1, P15, N1, N2, N3, N4, N5, N6, N7, I1, I2, I3, I4, I5, I6, I7, reduceIte, reduceCtorEq, c, v0, l1, l2, l3, i1, cs, g1, g2, hs0, s2, s3, o0, o2, g3, hwv]
    refine SemW_re (GStep.drop (b := [.junk, p8 side, slI f5 p5 .i64 keep, .ptr 0 0 0, .junk, .junk, .ptr 1 0 0, .ref 3 0 1 0 ow.length, .junk, .junk, .junk, .ptr 5 0 0, .junk, .junk, .junk, .junk, .junk, .junk, .junk, .junk, .junk, .junk, .junk, .junk, .junk, .junk, .junk, .junk, .junk, .junk, .junk, .junk, .junk, .junk, .junk, .junk, .junk, .junk, .junk, p64 ow.length, p64 ((v + 1 : Nat) : Int), .junk, .junk, .junk, .junk, .junk, .junk, .junk, .junk, .junk, .junk, .junk, .junk, .junk, .junk, .junk, .junk, .junk, .junk, .junk, .junk, .junk, .junk, .junk, .junk, .junk, .junk, .junk, .junk, .junk, .junk, .junk, .junk, .junk, .junk, .junk, .junk, .junk, .junk, .junk, .junk, .junk, .junk, .junk, .junk, .junk, .junk, .junk, .junk, .junk, .junk, .junk, .junk, .junk, .junk, .junk, .junk, .junk, .junk, .junk, .junk, .junk, .junk, .junk, .junk, .junk, .junk, .junk, .junk, .junk, .junk, .junk, .junk, .junk, .junk, .junk, .junk, .junk, .junk, .junk, .junk, .junk, .junk, .junk, .junk, .junk, .junk, .junk, .junk, .junk, .junk, .junk, .junk, .junk, .junk, .junk, .junk, .junk, .junk, .junk, .junk, .junk, .junk, .junk, .junk, .junk, .junk, .junk, .junk, .junk, .junk, .junk, .junk, .junk, .junk, .junk, .junk, .junk, .junk, .junk, .junk, .junk, .junk]) 6 (Nat.zero_le _) (by simp) (by simp only [PWeak_nil, PWeak_junk, PWeak_same, Int.cast_ofNat_Int, List.length_append, List.length_cons, List.length_nil, Nat.zero_add]) (by simp only [PP, P1, P2, P3, P4, P5, P6, P7, P8, P9, P10, P11, P12, P13, P14, L1, P15, N1, N2, N3, N4, N5, N6, N7, I1, I2, I3, I4, I5, I6, I7, reduceIte, reduceCtorEq]) (by simp only [← List.map_set, PP, P1, P2, P3, P4, P5, P6, P7, P8, P9, P10, P11, P12, P13, P14, L1, P15, N1, N2, N3, N4, N5, N6, N7, I1, I2, I3, I4, I5, I6, I7, reduceIte, reduceCtorEq]) rfl) ?_
    refine SemW_to (ih (v + 1) (vr + 1) (vs + 1) (vo + 1) (a1.set v (-1)) (a2.set v (-1)) (a3.set v (open0 ow su side v)) ⟨by omega, by simp [l1], by simp [l2], by simp [l3], fun u hu => ?_⟩ (by omega)) (by simp only [PWeak_nil, PWeak_junk, PWeak_same, Int.cast_ofNat_Int, List.length_append, List.length_cons, List.length_nil, Nat.zero_add]) (by simp only [← List.map_set, e0, PP, P1, P2, P3, P4, P5, P6, P7, P8, P9, P10, P11, P12, P13, P14, L1, P15, N1, N2, N3, N4, N5, N6, N7, I1, I2, I3, I4, I5, I6, I7, reduceIte, reduceCtorEq])
    by_cases e : u = v
    · subst e; exact ⟨set_at (by omega), set_at (by omega), set_at (by omega)⟩
    · rw [set_low e, set_low e, set_low e]; exact ha u (by omega)
  · have hvn : v = ow.length := by omega
    subst hvn
    have ha1 := tabL_of (R := fun _ => -1) l1 (fun u hu => (ha u hu).1)
    have ha2 := tabL_of (R := fun _ => -1) l2 (fun u hu => (ha u hu).2.1)
    have ha3 := tabL_of l3 (fun u hu => (ha u hu).2.2)
    subst ha1 ha2 ha3
    simp only [PP, P1, P2, P3, P4, P5, P6, P7, P8, P9, P10, P11, P12, P13, P14, L1, P15, N1, N2, N3, N4, N5, N6, N7, I1, I2, I3, I4, I5, I6, I7, reduceIte, reduceCtorEq, c]
    refine SemW_re (GStep.nilbox 6 0 1 rfl rfl rfl) ?_
    simp only [List.length_cons, List.length_nil, List.set_cons_zero, List.set_cons_succ, List.cons_append, List.nil_append, Nat.reduceAdd]
    obtain ⟨hrise, hrange⟩ := posM_rise hpm
    refine loop4 (fun (k vr vb g : Nat) => k ≤ keep.length)
      (fun k vr vb g => [.junk, p8 side, .junk, .ptr 0 0 0, .junk, .junk, .ptr 1 0 0, .ref 3 0 1 0 ow.length, .junk, .junk, .junk, .ptr 5 0 0, .junk, .junk, .ptr 6 0 0, .ptr 7 0 0, .junk, .junk, .junk, .junk, .junk, .junk, .junk, .junk, .junk, .junk, .junk, .junk, .junk, .junk, .junk, .junk, .junk, .junk, .junk, .junk, .junk, .junk, .junk, .junk, .junk, .junk, .junk, .junk, .junk, .junk, .junk, .junk, .junk, .junk, .junk, .junk, .junk, .junk, .junk, .junk, .junk, .junk, .junk, .junk, .junk, .junk, .junk, .junk, .junk, .junk, .junk, .junk, .junk, .junk, .junk, .junk, .junk, .junk, .junk, .junk, slI f5 p5 .i64 keep, p64 keep.length, p64 k, .junk, .junk, .junk, .junk, .junk, .junk, .junk, .junk, .junk, .junk, .junk, .junk, .junk, .junk, .junk, .junk, .junk, .junk, .junk, .junk, .junk, .junk, .junk, .junk, .junk, .junk, .junk, .junk, .junk, .junk, .junk, .junk, .junk, .junk, .junk, .junk, .junk, .junk, .junk, .junk, .junk, .junk, .junk, .junk, .junk, .junk, .junk, .junk, .junk, .junk, .junk, .junk, .junk, .junk, .junk, .junk, .junk, .junk, .junk, .junk, .junk, .junk, .junk, .junk, .junk, .junk, .junk, .junk, .junk, .junk, .junk, .junk, .junk, .junk, .junk, .junk, .junk, .junk, .junk, .junk, .junk, .junk, .junk, .junk])
      (fun k vr vb g => [.cells 0 0 [slI f1 p1 .u8 ow, slI f2 p2 .i64 pr, slR f3 p3 f4 p4 .i64 su], .cells 0 1 [.ref 2 0 1 0 ow.length], .cells 0 vr ((tabL ow.length fun v => if (v : Int) ∈ keep.take k then 0 else -1).map (PV.int .i64)), .cells 0 vs ((tabL ow.length fun _ => -1).map (PV.int .i64)), .cells 0 vo ((tabL ow.length (open0 ow su side)).map (PV.int .i64)), .cells 0 1 [.ref 4 0 1 0 ow.length], .cells 0 vb [.ref 8 g 1 0 (keep.take k).length], .cells 0 1 [.func (.func 36) [] [.ptr 1 0 0, .ptr 6 0 0]], .cells g 0 ((keep.take k).map (PV.int .i64))])
      (fun k _ _ _ => keep.length - k) 0 vr 0 0 (by omega) (by simp only [PWeak_nil, PWeak_junk, PWeak_same, Int.cast_ofNat_Int, List.length_append, List.length_cons, List.length_nil, Nat.zero_add]) (by simp only [List.take_zero, List.not_mem_nil, if_false, List.map_nil, List.length_nil]) ?_
    intro k vr vb g hkle ih
    refine SemW_go (by kernel_rfl) ?_
    simp only [PP, P1, P2, P3, P4, P5, P6, P7, P8, P9, P10, P11, P12, P13, P14, L1, P15, N1, N2, N3, N4, N5, N6, N7, I1, I2, I3, I4, I5, I6, I7, reduceIte, reduceCtorEq]
    refine QIf.intro (fun d => ?_) (fun d => ?_)
    · have hk : k < keep.length := by omega
      have k0 : (0 : Int) ≤ k := by omega
      have hkb : keep.length < 1000000000000 := hb
      have hwk := wrap_succ (k := k) (by show _ < 1000000000000; omega)
      obtain ⟨x, e3⟩ := some_of hk
      obtain ⟨x0, x1⟩ := hrange x (List.mem_of_getElem? e3)
      have x0 : 0 ≤ x := by omega
      have xn : x.toNat + 1 ≤ ow.length := by omega
      have hlk : (keep.take k).length = k := by simp; omega
      have b3 : (k + 1) * 8 ≤ 140737488355328 := by omega
      have b4 : k + 1 ≤ 9223372036854775807 := by omega
      simp only [PP, P1, P2, P3, P4, P5, P6, P7, P8, P9, P10, P11, P12, P13, P14, L1, P15, N1, N2, N3, N4, N5, N6, N7, I1, I2, I3, I4, I5, I6, I7, reduceIte, reduceCtorEq, d, k0, e3]
      refine SemC_fn T.h36 ?_
      simp only [af36, PP, P1, P2, P3, P4, P5, P6, P7, P8, P9, P10, P11, P12, P13, P14, L1, P15, N1, N2, N3, N4, N5, N6, N7, I1, I2, I3, I4, I5, I6, I7, reduceIte, reduceCtorEq, x0, x1, xn, tabL_len, hlk, b3, b4, hwk]
      have hps : psub (List.map (PV.int .i64) (keep.take k)) 0 k = List.map (PV.int .i64) (keep.take k) := psub_all _ _ (by rw [List.length_map, hlk])
      have hset : ((tabL ow.length fun v => if (v : Int) ∈ keep.take k then 0 else -1).map (PV.int .i64)).set x.toNat (PV.int .i64 0) = (tabL ow.length fun v => if (v : Int) ∈ keep.take (k + 1) then 0 else -1).map (PV.int .i64) := by
        rw [← List.map_set]
        congr 1
        refine tabL_of (by rw [List.length_set, tabL_len]) fun v hv => ?_
        rw [take_some e3]
        by_cases e : v = x.toNat
        · subst e; rw [set_at (by rw [tabL_len]; omega), if_pos (List.mem_append_right _ (by simp; omega))]
        · rw [set_low e, tabL_get hv]
          have hiff : (v : Int) ∈ keep.take k ++ [x] ↔ (v : Int) ∈ keep.take k := by
            rw [List.mem_append, List.mem_singleton]
            exact ⟨fun h => h.elim id fun q => absurd (by omega) e, .inl⟩
          simp only [hiff]
      rw [hps, hset]
      have hlk2 : (keep.take (k + 1)).length = k + 1 := by simp; omega
      refine SemW_to (ih (k + 1) (vr + 1) (vb + 1) (g + 1) (by omega) (by omega)) (by simp only [PWeak_nil, PWeak_junk, PWeak_same, Int.cast_ofNat_Int, List.length_append, List.length_cons, List.length_nil, Nat.zero_add]) (by
        simp only [hlk2]
        simp only [take_some e3, List.map_append, List.map_cons, List.map_nil])
    · have hkl : keep.take k = keep := List.take_of_length_le (by omega)
      rw [hkl]
      simp only [PP, P1, P2, P3, P4, P5, P6, P7, P8, P9, P10, P11, P12, P13, P14, L1, P15, N1, N2, N3, N4, N5, N6, N7, I1, I2, I3, I4, I5, I6, I7, reduceIte, reduceCtorEq, d]
      refine predecessors_p T V B (by simp only [cutOk, PP, P1, P2, P3, P4, P5, P6, P7, P8, P9, P10, P11, P12, P13, P14, L1, P15, N1, N2, N3, N4, N5, N6, N7, I1, I2, I3, I4, I5, I6, I7, reduceIte, reduceCtorEq]) fun vp => ?_
      simp only [PP, P1, P2, P3, P4, P5, P6, P7, P8, P9, P10, P11, P12, P13, P14, L1, P15, N1, N2, N3, N4, N5, N6, N7, I1, I2, I3, I4, I5, I6, I7, reduceIte, reduceCtorEq]
      have hinit : ∀ y, BI ow.length (fun v => Pf ow side v = true) (Sf su) (rkOf ow su side keep) 0 y [] ⟨fun v => if (v : Int) ∈ keep then 0 else -1, open0 ow su side, keep.map Int.toNat⟩ := by
        have hR : IsRank ow.length (fun v => Pf ow side v = true) (Sf su) (fun v => Zf keep v = true) (rkOf ow su side keep) := rk_isRank fun v hv => ⟨(Sf_ok V hv).1, (Sf_ok V hv).2.1⟩
        have hmk : ∀ v, v ∈ keep.map Int.toNat ↔ (v : Int) ∈ keep := fun v => by
          constructor
          · intro h
            obtain ⟨w, hw, rfl⟩ := List.mem_map.1 h
            rwa [Int.toNat_of_nonneg (by have := hrange w hw; omega)]
          · exact fun h => List.mem_map.2 ⟨_, h, rfl⟩
        have hz : ∀ v, v < ow.length → (rkOf ow su side keep v = 0 ↔ (v : Int) ∈ keep) := fun v hv => by rw [hR.z v hv]; unfold Zf; exact decide_eq_true_iff
        have hq0 : ∀ v ∈ keep.map Int.toNat, v < ow.length ∧ rkOf ow su side keep v = 0 := fun v hv => by
          have h1 := (hmk v).1 hv
          have h2 := hrange _ h1
          have h3 : v < ow.length := by omega
          exact ⟨h3, (hz v h3).2 h1⟩
        intro y
        refine ⟨fun v hv => ?_, fun v hv hq => if_neg fun h => hq ((hmk v).2 h), ?_, fun v hv h => (hmk v).2 ((hz v hv).1 h), ?_, fun v hv a ha => ?_, fun u hu hq hp => ?_, fun u hu hq hp => ?_⟩
        · obtain ⟨h1, h2⟩ := hq0 v hv
          exact ⟨h1, by rw [h2]; exact if_pos ((hmk v).1 hv), by omega⟩
        · refine List.pairwise_map.2 (List.Pairwise.imp_of_mem ?_ hrise)
          intro a b ha hb hab e
          have := hrange a ha; have := hrange b hb; omega
        · refine List.Pairwise.imp_of_mem (R := fun _ _ => True) ?_ (List.pairwise_of_forall fun _ _ => trivial)
          intro a b ha hb _
          rw [(hq0 a ha).2, (hq0 b hb).2]; exact Int.le_refl _
        · rw [(hq0 v hv).2, (hq0 a (List.mem_of_getElem? ha)).2]; omega
        · refine ⟨if_pos (by simpa [Pf] using hp), by simp, by simp⟩
        · have e : open0 ow su side u = ((Sf su u).length : Int) := by
            unfold open0 Sf; rw [List.length_map, if_neg (by simpa [Pf] using hp)]
          have e2 : ((Sf su u).filter fun w => decide (w ∉ (keep.map Int.toNat).take 0 ∧ ¬ (w = y ∧ u ∈ ([] : List Nat)))) = Sf su u := List.filter_eq_self.2 fun w _ => by simp
          have e3 := List.length_pos_iff.2 (Sf_ok V hu).1
          refine ⟨by rw [e2]; exact e, ?_⟩
          show 0 < open0 ow su side u
          omega
      have hS : ∀ v, v < ow.length → (∀ u ∈ Sf su v, u < ow.length) ∧ (Sf su v).Nodup := fun v hv => (Sf_ok V hv).2
      have hS2 : ∀ v, v < ow.length → Sf su v ≠ [] ∧ ∀ u ∈ Sf su v, u < ow.length := fun v hv => ⟨(Sf_ok V hv).1, (Sf_ok V hv).2.1⟩
      have hR : IsRank ow.length (fun v => Pf ow side v = true) (Sf su) (fun v => Zf keep v = true) (rkOf ow su side keep) := rk_isRank hS2
      have hkm : keep = (keep.map Int.toNat).map (fun v => ((v : Nat) : Int)) := keep_back fun x hx => by have := hrange x hx; omega
      refine loop7 (fun (i : Nat) (s : BSt) (vr vo vb g v19 : Nat) => i ≤ s.q.length ∧ ∀ y, BI ow.length (fun v => Pf ow side v = true) (Sf su) (rkOf ow su side keep) i y [] s)
        (fun i s vr vo vb g v19 => [.junk, p8 side, .junk, .ptr 0 0 0, .junk, .junk, .ptr 1 0 0, .ref 3 0 1 0 ow.length, .junk, .junk, .junk, .ptr 5 0 0, .junk, .junk, .ptr 6 0 0, .ptr 7 0 0, .junk, .junk, .func (.func 55) [] [.ptr 11 0 0], .ptr 12 0 0, .junk, .junk, .junk, .junk, .junk, .junk, .junk, .junk, .junk, .junk, .junk, .junk, .junk, .junk, .junk, .junk, .junk, .junk, .junk, .junk, .junk, .junk, .junk, .junk, .junk, .junk, .junk, .junk, .junk, .junk, .junk, .junk, .junk, .junk, .junk, .junk, .junk, .junk, .junk, .junk, .junk, .junk, .junk, .junk, .junk, .junk, .junk, .junk, .junk, .junk, .junk, .junk, .junk, .junk, .junk, .junk, .junk, .junk, .junk, .junk, .junk, .junk, .junk, .junk, .junk, .junk, .junk, .junk, .junk, .junk, .junk, .junk, .junk, .junk, .junk, .junk, .junk, .junk, .junk, .junk, .junk, .junk, .junk, .junk, .junk, .junk, .junk, .junk, .junk, .junk, .junk, .junk, .junk, .junk, .junk, .junk, .junk, .junk, .junk, .junk, .junk, .junk, .junk, .junk, .junk, .junk, .junk, .junk, .junk, .junk, .junk, .junk, .junk, .junk, .junk, .junk, .junk, .junk, .junk, .junk, .junk, .junk, .junk, .junk, .junk, .junk, .junk, .junk, .junk, .junk, .junk, .junk, .junk, .junk, .junk, .junk, .junk, .junk, .junk, .junk, .junk, .junk, .junk])
        (fun i s vr vo vb g v19 => [.cells 0 0 [slI f1 p1 .u8 ow, slI f2 p2 .i64 pr, slR f3 p3 f4 p4 .i64 su], .cells 0 1 [.ref 2 0 1 0 ow.length], .cells 0 vr ((tabL ow.length s.c).map (PV.int .i64)), .cells 0 vs ((tabL ow.length fun _ => -1).map (PV.int .i64)), .cells 0 vo ((tabL ow.length s.op).map (PV.int .i64)), .cells 0 1 [.ref 4 0 1 0 ow.length], .cells 0 vb [.ref 8 g 1 0 s.q.length], .cells 0 1 [.func (.func 36) [] [.ptr 1 0 0, .ptr 6 0 0]], .cells g 0 ((s.q.map fun v => ((v : Nat) : Int)).map (PV.int .i64)), .cells 0 0 [slI f1 p1 .u8 ow, slI f2 p2 .i64 pr, slR f3 p3 f4 p4 .i64 su], .cells 0 vp (tabA ow.length fun u => slI false true .i64 (predI su ow.length u)), .cells 0 1 [.ref 10 0 1 0 ow.length], .cells 0 v19 [p64 i]])
        (fun i s _ _ _ _ _ => ow.length - i) 0 ⟨fun v => if (v : Int) ∈ keep then 0 else -1, open0 ow su side, keep.map Int.toNat⟩ vr vo vb g 1 ⟨by omega, hinit⟩ (by simp only [PWeak_nil, PWeak_junk, PWeak_same, Int.cast_ofNat_Int, List.length_append, List.length_cons, List.length_nil, Nat.zero_add]) (by simp only [List.length_map, ← hkm, Int.cast_ofNat_Int]) ?_
      intro i s vr vo vb g v19 ⟨hil, I⟩ ih
      refine SemW_loop (by kernel_rfl) ?_
      refine SemW_seq ?_
      refine SemW_of ?_
      simp only [PP, P1, P2, P3, P4, P5, P6, P7, P8, P9, P10, P11, P12, P13, P14, L1, P15, N1, N2, N3, N4, N5, N6, N7, I1, I2, I3, I4, I5, I6, I7, reduceIte, reduceCtorEq]
      refine QIf.intro (fun e1 => ?_) (fun e1 => ?_)
      · have hi : i < s.q.length := by omega
        have i0 : (0 : Int) ≤ i := by omega
        obtain ⟨x, gx⟩ := some_of hi
        obtain ⟨xn, hcx, hx0⟩ := (I 0).a1 x (List.mem_of_getElem? gx)
        have xn' : (x : Int) < ow.length := by omega
        have x0 : (0 : Int) ≤ x := by omega
        have gt := tabA_get (f := fun u => slI false true .i64 (predI su ow.length u)) xn
        simp only [PP, P1, P2, P3, P4, P5, P6, P7, P8, P9, P10, P11, P12, P13, P14, L1, P15, N1, N2, N3, N4, N5, N6, N7, I1, I2, I3, I4, I5, I6, I7, reduceIte, reduceCtorEq, e1]
        refine SemW_seq ?_
        refine SemW_of ?_
        simp only [PP, P1, P2, P3, P4, P5, P6, P7, P8, P9, P10, P11, P12, P13, P14, L1, P15, N1, N2, N3, N4, N5, N6, N7, I1, I2, I3, I4, I5, I6, I7, reduceIte, reduceCtorEq, e1, i0, gx]
        refine SemC_fn T.h55 ?_
        simp only [af55, PP, P1, P2, P3, P4, P5, P6, P7, P8, P9, P10, P11, P12, P13, P14, L1, P15, N1, N2, N3, N4, N5, N6, N7, I1, I2, I3, I4, I5, I6, I7, reduceIte, reduceCtorEq, x0, xn', gt]
        refine SemC_fn T.h56 ?_
        simp only [af56, PP, P1, P2, P3, P4, P5, P6, P7, P8, P9, P10, P11, P12, P13, P14, L1, P15, N1, N2, N3, N4, N5, N6, N7, I1, I2, I3, I4, I5, I6, I7, reduceIte, reduceCtorEq]
        refine SemW_rangeN rfl fun lp q1 q2 q3 q4 q5 q6 => ?_
        simp only [PP, P1, P2, P3, P4, P5, P6, P7, P8, P9, P10, P11, P12, P13, P14, L1, P15, N1, N2, N3, N4, N5, N6, N7, I1, I2, I3, I4, I5, I6, I7, reduceIte, reduceCtorEq]
        have hbp : (predI su ow.length x).length < big := by
          have := predI_len su ow.length x
          show _ < 1000000000000
          omega
        refine values_p T (f := false) (o := true) (fun k N => ∃ s' vr vo vb g ver, N = [.cells 0 0 [slI f1 p1 .u8 ow, slI f2 p2 .i64 pr, slR f3 p3 f4 p4 .i64 su], .cells 0 1 [.ref 2 0 1 0 ow.length], .cells 0 vr ((tabL ow.length (BSt.c s')).map (PV.int .i64)), .cells 0 vs ((tabL ow.length fun _ => -1).map (PV.int .i64)), .cells 0 vo ((tabL ow.length s'.op).map (PV.int .i64)), .cells 0 1 [.ref 4 0 1 0 ow.length], .cells 0 vb [.ref 8 g 1 0 s'.q.length], .cells 0 1 [.func (.func 36) [] [.ptr 1 0 0, .ptr 6 0 0]], .cells g 0 ((s'.q.map fun v => ((v : Nat) : Int)).map (PV.int .i64)), .cells 0 0 [slI f1 p1 .u8 ow, slI f2 p2 .i64 pr, slR f3 p3 f4 p4 .i64 su], .cells 0 vp (tabA ow.length fun u => slI false true .i64 (predI su ow.length u)), .cells 0 1 [.ref 10 0 1 0 ow.length], .cells 0 v19 [p64 i], .cells 0 0 [slI false true .i64 (predI su ow.length x)], .loop ver lp] ∧ BI ow.length (fun v => Pf ow side v = true) (Sf su) (rkOf ow su side keep) i x ((predN su ow.length x).take k) s' ∧ s'.q[i]? = some x) hbp ⟨s, vr, vo, vb, g, 0, rfl, I x, gx⟩ ?_ ?_ ?_
        · rintro k N ⟨s', vr, vo, vb, g, ver, rfl, I', gx'⟩
          exact ⟨rfl, _, _, rfl⟩
        · rintro k N uI ⟨s', vr, vo, vb, g, ver, rfl, I', gx'⟩ hu K' hK'
          obtain ⟨u, gu, rfl⟩ : ∃ u, (predN su ow.length x)[k]? = some u ∧ ((u : Nat) : Int) = uI := by
            unfold predI at hu
            rw [List.getElem?_map] at hu
            cases h : (predN su ow.length x)[k]? with
            | none => rw [h] at hu; cases hu
            | some u => rw [h] at hu; cases hu; exact ⟨u, rfl, rfl⟩
          refine SemY_run (ver := ver) (r := lp) rfl (by rw [q4]; rfl) ?_
          rw [q3, q4, q5]
          refine SemW_of ?_
          simp only [psetAll, PP, P1, P2, P3, P4, P5, P6, P7, P8, P9, P10, P11, P12, P13, P14, L1, P15, N1, N2, N3, N4, N5, N6, N7, I1, I2, I3, I4, I5, I6, I7, reduceIte, reduceCtorEq]
          refine ⟨ver, lp, rfl, q1, ?_⟩
          rw [q6]
          refine SemW_of ?_
          have hup : u < ow.length ∧ (x : Int) ∈ su.getD u [] := by
            have hm := List.mem_filter.1 (List.mem_of_getElem? gu)
            exact ⟨List.mem_range.1 hm.1, of_decide_eq_true hm.2⟩
          obtain ⟨hun, hxsu⟩ := hup
          have hxS : x ∈ Sf su u := List.mem_map.2 ⟨(x : Int), hxsu, rfl⟩
          have hud : u ∉ (predN su ow.length x).take k := not_before (predN_nodup _ _ _) gu
          have Inew := I'.step hR hS gx' hun hxS hud
          rw [← take_some gu] at Inew
          have hlp : ∀ B, lp.body = B → (⟨.ready, none, lp.tmps, lp.params, lp.assign, B⟩ : PLoop) = lp := fun B hB => lp_is q1 q2 hB
          have u0 : (0 : Int) ≤ u := by omega
          have un : (u : Int) < ow.length := by omega
          have un' : u + 1 ≤ ow.length := hun
          have gc := tabL_get (R := s'.c) hun
          have go := tabL_get (R := s'.op) hun
          simp only [PP, P1, P2, P3, P4, P5, P6, P7, P8, P9, P10, P11, P12, P13, P14, L1, P15, N1, N2, N3, N4, N5, N6, N7, I1, I2, I3, I4, I5, I6, I7, reduceIte, reduceCtorEq, u0, un, gc, tabL_len]
          refine QIf.intro (fun d1 => ?_) (fun d1 => ?_)
          · simp only [PP, P1, P2, P3, P4, P5, P6, P7, P8, P9, P10, P11, P12, P13, P14, L1, P15, N1, N2, N3, N4, N5, N6, N7, I1, I2, I3, I4, I5, I6, I7, reduceIte, reduceCtorEq, d1]
            refine ⟨_, _, rfl, ?_⟩
            rw [if_pos rfl]
            refine hK' _ ⟨s', vr, vo, vb, g, ver + 1 + 1, ?_, ?_, gx'⟩
            · simp only [PP, P1, P2, P3, P4, P5, P6, P7, P8, P9, P10, P11, P12, P13, P14, L1, P15, N1, N2, N3, N4, N5, N6, N7, I1, I2, I3, I4, I5, I6, I7, reduceIte, reduceCtorEq, hlp _ q6]
            · have e : stepU x s' u = s' := by unfold stepU; rw [if_pos d1]
              rwa [e] at Inew
          · have hop : 1 ≤ s'.op u ∧ s'.op u ≤ 1000000000000 := by
              have huq : u ∉ s'.q := fun h => d1 (by have := I'.a1 u h; omega)
              by_cases hp : Pf ow side u = true
              · have := (I'.cP u hun huq hp).1; omega
              · obtain ⟨h1, h2⟩ := I'.cO u hun huq hp
                have h3 := List.length_filter_le (fun w => decide (w ∉ s'.q.take i ∧ ¬ (w = x ∧ u ∈ (predN su ow.length x).take k))) (Sf su u)
                have h4 : (Sf su u).length ≤ ow.length := nodup_lenN _ _ (Sf_ok V hun).2.2 (Sf_ok V hun).2.1
                omega
            have w1 : IntKind.i64.wrap (s'.op u - 1) = s'.op u - 1 := wrap64 (by omega) (by omega)
            have gx2 := gx'
            obtain ⟨_, hcx', _⟩ := I'.a1 x (List.mem_of_getElem? gx')
            have gcx := tabL_get (R := s'.c) xn
            have go2 := tabL_get (R := upd s'.op u (s'.op u - 1)) hun
            have gu2 : upd s'.op u (s'.op u - 1) u = s'.op u - 1 := by unfold upd; rw [if_pos rfl]
            simp only [PP, P1, P2, P3, P4, P5, P6, P7, P8, P9, P10, P11, P12, P13, P14, L1, P15, N1, N2, N3, N4, N5, N6, N7, I1, I2, I3, I4, I5, I6, I7, reduceIte, reduceCtorEq, d1, u0, un, un', go, tabL_len, w1, ← List.map_set, tabL_set _ hun, go2, gu2]
            refine QIf.intro (fun d2 => ?_) (fun d2 => ?_)
            · simp only [PP, P1, P2, P3, P4, P5, P6, P7, P8, P9, P10, P11, P12, P13, P14, L1, P15, N1, N2, N3, N4, N5, N6, N7, I1, I2, I3, I4, I5, I6, I7, reduceIte, reduceCtorEq, d2]
              have il : (i : Int) < s'.q.length := by have := (List.getElem?_eq_some_iff.1 gx').1; omega
              have w2 : IntKind.i64.wrap (s'.c x + 1) = s'.c x + 1 := by
                have := rk_range (P := Pf ow side) (S := Sf su) (Z := Zf keep) ow.length x
                rw [hcx']
                exact wrap64 (by unfold rkOf; omega) (by unfold rkOf; omega)
              have hql : s'.q.length ≤ ow.length := nodup_lenN ow.length s'.q I'.nd (fun v hv => (I'.a1 v hv).1)
              have b3 : (s'.q.length + 1) * 8 ≤ 140737488355328 := by omega
              have b4 : s'.q.length + 1 ≤ 9223372036854775807 := by omega
              simp only [PP, P1, P2, P3, P4, P5, P6, P7, P8, P9, P10, P11, P12, P13, P14, L1, P15, N1, N2, N3, N4, N5, N6, N7, I1, I2, I3, I4, I5, I6, I7, reduceIte, reduceCtorEq, i0, il, gx', x0, xn', gcx, tabL_len, w2]
              refine SemC_fn T.h36 ?_
              simp only [af36, PP, P1, P2, P3, P4, P5, P6, P7, P8, P9, P10, P11, P12, P13, P14, L1, P15, N1, N2, N3, N4, N5, N6, N7, I1, I2, I3, I4, I5, I6, I7, reduceIte, reduceCtorEq, u0, un, un', tabL_len, b3, b4]
              have hps : psub (List.map (PV.int .i64) (s'.q.map fun v => ((v : Nat) : Int))) 0 s'.q.length = List.map (PV.int .i64) (s'.q.map fun v => ((v : Nat) : Int)) := psub_all _ _ (by simp)
              rw [hps, ← List.map_set, tabL_set _ hun]
              refine ⟨_, _, rfl, ?_⟩
              rw [if_pos rfl]
              have gx3 : (s'.q ++ [u])[i]? = some x := by rw [List.getElem?_append_left (by omega)]; exact gx'
              refine hK' _ ⟨⟨upd s'.c u (s'.c x + 1), upd s'.op u 0, s'.q ++ [u]⟩, vr + 1, vo + 1, vb + 1, g + 1, ver + 1 + 1, ?_, ?_, gx3⟩
              · simp only [PP, P1, P2, P3, P4, P5, P6, P7, P8, P9, P10, P11, P12, P13, P14, L1, P15, N1, N2, N3, N4, N5, N6, N7, I1, I2, I3, I4, I5, I6, I7, reduceIte, reduceCtorEq, hlp _ q6]
              · have e : stepU x s' u = ⟨upd s'.c u (s'.c x + 1), upd s'.op u 0, s'.q ++ [u]⟩ := by unfold stepU; rw [if_neg d1, if_pos d2, d2]
                rwa [e] at Inew
            · simp only [PP, P1, P2, P3, P4, P5, P6, P7, P8, P9, P10, P11, P12, P13, P14, L1, P15, N1, N2, N3, N4, N5, N6, N7, I1, I2, I3, I4, I5, I6, I7, reduceIte, reduceCtorEq, d2]
              refine ⟨_, _, rfl, ?_⟩
              rw [if_pos rfl]
              refine hK' _ ⟨⟨s'.c, upd s'.op u (s'.op u - 1), s'.q⟩, vr, vo + 1, vb, g, ver + 1 + 1, ?_, ?_, gx'⟩
              · simp only [PP, P1, P2, P3, P4, P5, P6, P7, P8, P9, P10, P11, P12, P13, P14, L1, P15, N1, N2, N3, N4, N5, N6, N7, I1, I2, I3, I4, I5, I6, I7, reduceIte, reduceCtorEq, hlp _ q6]
              · have e : stepU x s' u = ⟨s'.c, upd s'.op u (s'.op u - 1), s'.q⟩ := by unfold stepU; rw [if_neg d1, if_neg d2]
                rwa [e] at Inew
        · rintro N ⟨s', vr, vo, vb, g, ver, rfl, I', gx'⟩
          refine ⟨ver, lp, rfl, by rw [q1]; exact (by intro h; cases h), ?_⟩
          rw [q2]
          simp only [PP, P1, P2, P3, P4, P5, P6, P7, P8, P9, P10, P11, P12, P13, P14, L1, P15, N1, N2, N3, N4, N5, N6, N7, I1, I2, I3, I4, I5, I6, I7, reduceIte, reduceCtorEq]
          refine SemW_seq ?_
          refine SemW_seq ?_
          refine SemW_of ?_
          simp only [PP, P1, P2, P3, P4, P5, P6, P7, P8, P9, P10, P11, P12, P13, P14, L1, P15, N1, N2, N3, N4, N5, N6, N7, I1, I2, I3, I4, I5, I6, I7, reduceIte, reduceCtorEq]
          refine SemW_re (GStep.drop (b := [.junk, p8 side, .junk, .ptr 0 0 0, .junk, .junk, .ptr 1 0 0, .ref 3 0 1 0 ow.length, .junk, .junk, .junk, .ptr 5 0 0, .junk, .junk, .ptr 6 0 0, .ptr 7 0 0, .junk, .junk, .func (.func 55) [] [.ptr 11 0 0], .junk, .junk, .junk, .junk, .junk, .junk, .junk, .junk, .junk, .junk, .junk, .junk, .junk, .junk, .junk, .junk, .junk, .junk, .junk, .junk, .junk, .junk, .junk, .junk, .junk, .junk, .junk, .junk, .junk, .junk, .junk, .junk, .junk, .junk, .junk, .junk, .junk, .junk, .junk, .junk, .junk, .junk, .junk, .junk, .junk, .junk, .junk, .junk, .junk, .junk, .junk, .junk, .junk, .junk, .junk, .junk, .junk, .junk, .junk, .junk, .junk, .junk, .junk, .junk, .junk, .junk, .junk, .junk, .junk, .junk, .junk, .junk, .junk, .junk, .junk, .junk, .junk, .junk, .junk, .junk, .junk, .junk, .junk, .junk, .junk, .junk, .junk, .junk, .junk, .junk, .junk, .junk, .junk, .junk, .junk, .junk, .junk, .junk, .junk, .junk, .junk, .junk, .junk, .junk, .junk, .junk, .junk, .junk, .junk, p64 i, .junk, .junk, .junk, .junk, .junk, .junk, .junk, .junk, .junk, .junk, .junk, .junk, .junk, .junk, .junk, .junk, .junk, .junk, .junk, .junk, .junk, .junk, .junk, .junk, .junk, .junk, .junk, .junk, .junk, .junk, .junk, .junk, .junk, .junk]) 12 (Nat.zero_le _) (by simp) (by simp only [PWeak_nil, PWeak_junk, PWeak_same, Int.cast_ofNat_Int, List.length_append, List.length_cons, List.length_nil, Nat.zero_add]) (by simp only [PP, P1, P2, P3, P4, P5, P6, P7, P8, P9, P10, P11, P12, P13, P14, L1, P15, N1, N2, N3, N4, N5, N6, N7, I1, I2, I3, I4, I5, I6, I7, reduceIte, reduceCtorEq]) ?_ rfl) ?_
          · simp only [PP, P1, P2, P3, P4, P5, P6, P7, P8, P9, P10, P11, P12, P13, P14, L1, P15, N1, N2, N3, N4, N5, N6, N7, I1, I2, I3, I4, I5, I6, I7, reduceIte, reduceCtorEq]
            exact under_rows _ _ _
          · refine SemW_of ?_
            simp only [PP, P1, P2, P3, P4, P5, P6, P7, P8, P9, P10, P11, P12, P13, P14, L1, P15, N1, N2, N3, N4, N5, N6, N7, I1, I2, I3, I4, I5, I6, I7, reduceIte, reduceCtorEq]
            refine SemW_of ?_
            simp only [PP, P1, P2, P3, P4, P5, P6, P7, P8, P9, P10, P11, P12, P13, P14, L1, P15, N1, N2, N3, N4, N5, N6, N7, I1, I2, I3, I4, I5, I6, I7, reduceIte, reduceCtorEq]
            have hin : i < ow.length := by
              have := nodup_lenN ow.length s.q (I 0).nd (fun v hv => ((I 0).a1 v hv).1)
              omega
            have hwi := wrap_succ (k := i) (by show _ < 1000000000000; omega)
            simp only [hwi]
            refine SemW_to (ih (i + 1) s' vr vo vb g 2 ⟨by have := (List.getElem?_eq_some_iff.1 gx').1; omega, fun y => I'.next gx' (fun u hu => ?_) y⟩ (by omega)) (by simp only [PWeak_nil, PWeak_junk, PWeak_same, Int.cast_ofNat_Int, List.length_append, List.length_cons, List.length_nil, Nat.zero_add]) rfl
            rw [List.take_of_length_le (by unfold predI; rw [List.length_map]; exact Nat.le_refl _), Sf_mem V hu]
            unfold predN
            rw [List.mem_filter, List.mem_range]
            exact ⟨fun h => of_decide_eq_true h.2, fun h => ⟨hu, decide_eq_true h⟩⟩
      · simp only [PP, P1, P2, P3, P4, P5, P6, P7, P8, P9, P10, P11, P12, P13, P14, L1, P15, N1, N2, N3, N4, N5, N6, N7, I1, I2, I3, I4, I5, I6, I7, reduceIte, reduceCtorEq, e1]
        have hcR : tabL ow.length s.c = tabL ow.length (rkOf ow su side keep) := tabL_of (tabL_len _ _) fun v hv => by rw [tabL_get hv, (I 0).fin hR hS (by omega) v hv]
        rw [hcR]
        have hRr : ∀ v, -1 ≤ rkOf ow su side keep v ∧ rkOf ow su side keep v ≤ ow.length := fun v => rk_range _ _
        have hRp : ∀ v, v < ow.length → Pf ow side v = true → 0 < rkOf ow su side keep v → ∃ u ∈ Sf su v, rkOf ow su side keep u = rkOf ow su side keep v - 1 := hR.p
        clear hcR hinit ih I hR
        generalize rkOf ow su side keep = R at hq hRr hRp ⊢
        generalize (PObj.cells 0 vo ((tabL ow.length s.op).map (PV.int .i64))) = j4
        generalize (PObj.cells 0 vb [.ref 8 g 1 0 s.q.length]) = j6
        generalize (PObj.cells g 0 ((s.q.map fun v => ((v : Nat) : Int)).map (PV.int .i64))) = j8
        generalize (PObj.cells 0 vp (tabA ow.length fun u => slI false true .i64 (predI su ow.length u))) = j10
        refine SemW_re (GStep.drop (b := [.junk, p8 side, .junk, .ptr 0 0 0, .junk, .junk, .ptr 1 0 0, .ref 3 0 1 0 ow.length, .junk, .junk, .junk, .junk, .junk, .junk, .junk, .junk, .junk, .junk, .junk, .junk, .junk, .junk, .junk, .junk, .junk, .junk, .junk, .junk, .junk, .junk, .junk, .junk, .junk, .junk, .junk, .junk, .junk, .junk, .junk, .junk, .junk, .junk, .junk, .junk, .junk, .junk, .junk, .junk, .junk, .junk, .junk, .junk, .junk, .junk, .junk, .junk, .junk, .junk, .junk, .junk, .junk, .junk, .junk, .junk, .junk, .junk, .junk, .junk, .junk, .junk, .junk, .junk, .junk, .junk, .junk, .junk, .junk, .junk, .junk, .junk, .junk, .junk, .junk, .junk, .junk, .junk, .junk, .junk, .junk, .junk, .junk, .junk, .junk, .junk, .junk, .junk, .junk, .junk, .junk, .junk, .junk, .junk, .junk, .junk, .junk, .junk, .junk, .junk, .junk, .junk, .junk, .junk, .junk, .junk, .junk, .junk, .junk, .junk, .junk, .junk, .junk, .junk, .junk, .junk, .junk, .junk, .junk, .junk, .junk, .junk, slR f3 p3 f4 p4 .i64 su, p64 su.length, p64 0, .junk, .junk, .junk, .junk, .junk, .junk, .junk, .junk, .junk, .junk, .junk, .junk, .junk, .junk, .junk, .junk, .junk, .junk, .junk, .junk, .junk, .junk, .junk, .junk, .junk, .junk, .junk, .junk, .junk, .junk]) 4 (Nat.zero_le _) (by simp) (by simp only [PWeak_nil, PWeak_junk, PWeak_same, Int.cast_ofNat_Int, List.length_append, List.length_cons, List.length_nil, Nat.zero_add]) (by simp only [PP, P1, P2, P3, P4, P5, P6, P7, P8, P9, P10, P11, P12, P13, P14, L1, P15, N1, N2, N3, N4, N5, N6, N7, I1, I2, I3, I4, I5, I6, I7, reduceIte, reduceCtorEq]) (by simp only [PP, P1, P2, P3, P4, P5, P6, P7, P8, P9, P10, P11, P12, P13, P14, L1, P15, N1, N2, N3, N4, N5, N6, N7, I1, I2, I3, I4, I5, I6, I7, reduceIte, reduceCtorEq]) rfl) ?_
        simp only [List.take_succ_cons, List.take_zero]
        refine loop3 (fun (v vs : Nat) (a2 : List Int) => v ≤ su.length ∧ a2.length = ow.length ∧ (∀ u, u < v → a2[u]? = some (stratOf ow su side R u)) ∧ ∀ u, v ≤ u → u < ow.length → a2[u]? = some (-1))
          (fun v vs a2 => [.junk, p8 side, .junk, .ptr 0 0 0, .junk, .junk, .ptr 1 0 0, .ref 3 0 1 0 ow.length, .junk, .junk, .junk, .junk, .junk, .junk, .junk, .junk, .junk, .junk, .junk, .junk, .junk, .junk, .junk, .junk, .junk, .junk, .junk, .junk, .junk, .junk, .junk, .junk, .junk, .junk, .junk, .junk, .junk, .junk, .junk, .junk, .junk, .junk, .junk, .junk, .junk, .junk, .junk, .junk, .junk, .junk, .junk, .junk, .junk, .junk, .junk, .junk, .junk, .junk, .junk, .junk, .junk, .junk, .junk, .junk, .junk, .junk, .junk, .junk, .junk, .junk, .junk, .junk, .junk, .junk, .junk, .junk, .junk, .junk, .junk, .junk, .junk, .junk, .junk, .junk, .junk, .junk, .junk, .junk, .junk, .junk, .junk, .junk, .junk, .junk, .junk, .junk, .junk, .junk, .junk, .junk, .junk, .junk, .junk, .junk, .junk, .junk, .junk, .junk, .junk, .junk, .junk, .junk, .junk, .junk, .junk, .junk, .junk, .junk, .junk, .junk, .junk, .junk, .junk, .junk, .junk, .junk, .junk, .junk, .junk, .junk, slR f3 p3 f4 p4 .i64 su, p64 su.length, p64 v, .junk, .junk, .junk, .junk, .junk, .junk, .junk, .junk, .junk, .junk, .junk, .junk, .junk, .junk, .junk, .junk, .junk, .junk, .junk, .junk, .junk, .junk, .junk, .junk, .junk, .junk, .junk, .junk, .junk, .junk])
          (fun v vs a2 => [.cells 0 0 [slI f1 p1 .u8 ow, slI f2 p2 .i64 pr, slR f3 p3 f4 p4 .i64 su], .cells 0 1 [.ref 2 0 1 0 ow.length], .cells 0 vr ((tabL ow.length R).map (PV.int .i64)), .cells 0 vs (a2.map (PV.int .i64))])
          (fun v _ _ => su.length - v) 0 vs (tabL ow.length fun _ => -1) ⟨by omega, tabL_len _ _, by intro v h; omega, fun v _ h => tabL_get h⟩ (by simp only [PWeak_nil, PWeak_junk, PWeak_same, Int.cast_ofNat_Int, List.length_append, List.length_cons, List.length_nil, Nat.zero_add]) rfl ?_
        intro v vs a2 ⟨hle, l2, h1, h2⟩ ih
        refine SemW_go (by kernel_rfl) ?_
        simp only [PP, P1, P2, P3, P4, P5, P6, P7, P8, P9, P10, P11, P12, P13, P14, L1, P15, N1, N2, N3, N4, N5, N6, N7, I1, I2, I3, I4, I5, I6, I7, reduceIte, reduceCtorEq]
        refine QIf.intro (fun d => ?_) (fun d => ?_)
        · have hv : v < ow.length := by omega
          have v0 : (0 : Int) ≤ v := by omega
          have vn : (v : Int) < ow.length := by omega
          have vn' : v + 1 ≤ ow.length := hv
          have hwv := wrap_succ (k := v) (by show _ < 1000000000000; omega)
          have g0 := tabL_get (R := R) hv
          obtain ⟨row, g1⟩ := some_of (xs := su) (k := v) (by omega)
          obtain ⟨o, g2⟩ := some_of (xs := ow) (k := v) (by omega)
          have hrb := B.r row (List.mem_of_getElem? g1)
          have e2 : ow.getD v 0 = o := getD_some g2
          have e1 : su.getD v [] = row := by simp [List.getD, g1]
          have es : stratOf ow su side R v = if 0 < R v ∧ o = side then firstS R (R v - 1) row else -1 := by unfold stratOf; rw [e1, e2]
          have up : ∀ (b : List Int) (s : Int), b.length = ow.length → b[v]? = some s → s = stratOf ow su side R v → (∀ u, u ≠ v → b[u]? = a2[u]?) → (v + 1 ≤ su.length ∧ b.length = ow.length ∧ (∀ u, u < v + 1 → b[u]? = some (stratOf ow su side R u)) ∧ ∀ u, v + 1 ≤ u → u < ow.length → b[u]? = some (-1)) := by
            intro b s hb1 hb2 hbs hb3
            refine ⟨by omega, hb1, fun u hu => ?_, fun u hu hu2 => ?_⟩
            · by_cases e : u = v
              · subst e; rw [hb2, hbs]
              · rw [hb3 u e]; exact h1 u (by omega)
            · rw [hb3 u (by omega)]; exact h2 u (by omega) hu2
          simp only [PP, P1, P2, P3, P4, P5, P6, P7, P8, P9, P10, P11, P12, P13, P14, L1, P15, N1, N2, N3, N4, N5, N6, N7, I1, I2, I3, I4, I5, I6, I7, reduceIte, reduceCtorEq, d, v0, vn, g0, g1, tabL_len]
          refine QIf.intro (fun d1 => ?_) (fun d1 => ?_)
          · simp only [PP, P1, P2, P3, P4, P5, P6, P7, P8, P9, P10, P11, P12, P13, P14, L1, P15, N1, N2, N3, N4, N5, N6, N7, I1, I2, I3, I4, I5, I6, I7, reduceIte, reduceCtorEq, d1, v0, vn, g2]
            refine QIf.intro (fun d2 => ?_) (fun d2 => ?_)
            · have w1 : IntKind.i64.wrap (R v - 1) = R v - 1 := by have := hRr v; exact wrap64 (by omega) (by omega)
              have hrow : ∀ u ∈ row, 0 ≤ u ∧ u < ow.length := by
                have hi2 : v < su.length := by omega
                obtain ⟨_, _, _, _, q⟩ := V.row v hi2
                rw [List.getElem?_eq_getElem hi2] at g1
                cases g1
                intro u hu
                have := (posM_rise q).2 u hu
                omega
              have hex : ∃ u ∈ row, R u.toNat = R v - 1 := by
                obtain ⟨u, hu, e⟩ := hRp v hv (by unfold Pf; rw [e2]; simpa using d2) d1
                unfold Sf at hu
                rw [e1] at hu
                obtain ⟨w, hw, rfl⟩ := List.mem_map.1 hu
                exact ⟨w, hw, e⟩
              obtain ⟨i, w, r1, r2, r3⟩ := idx_first (j := 0) hex
              rw [Nat.zero_add] at r1
              have i0 : (0 : Int) ≤ i := by omega
              have il : (i : Int) < row.length := by have := (List.getElem?_eq_some_iff.1 r2).1; omega
              simp only [PP, P1, P2, P3, P4, P5, P6, P7, P8, P9, P10, P11, P12, P13, P14, L1, P15, N1, N2, N3, N4, N5, N6, N7, I1, I2, I3, I4, I5, I6, I7, reduceIte, reduceCtorEq, d2]
              refine indexFunc_p T (fun u => decide (R u.toNat = R v - 1)) hrb (fun u hu K' hK' => ?_) ?_
              · refine SemC_fn T.h39 ?_
                simp only [af39, PP, P1, P2, P3, P4, P5, P6, P7, P8, P9, P10, P11, P12, P13, P14, L1, P15, N1, N2, N3, N4, N5, N6, N7, I1, I2, I3, I4, I5, I6, I7, reduceIte, reduceCtorEq, v0, vn, g0, tabL_len, (hrow u hu).1, (hrow u hu).2, tabL_get (n := ow.length) (R := R) (v := u.toNat) (by have := hrow u hu; omega), w1]
                exact hK'
              · simp only [PP, P1, P2, P3, P4, P5, P6, P7, P8, P9, P10, P11, P12, P13, P14, L1, P15, N1, N2, N3, N4, N5, N6, N7, I1, I2, I3, I4, I5, I6, I7, reduceIte, reduceCtorEq, r1, i0, il, r2, v0, vn, vn', l2, hwv]
                refine SemW_re (GStep.drop (b := [.junk, p8 side, .junk, .ptr 0 0 0, .junk, .junk, .ptr 1 0 0, .ref 3 0 1 0 ow.length, .junk, .junk, .junk, .junk, .junk, .junk, .junk, .junk, .junk, .junk, .junk, .junk, .junk, .junk, .junk, .junk, .junk, .junk, .junk, .junk, .junk, .junk, .junk, .junk, .junk, .junk, .junk, .junk, .junk, .junk, .junk, .junk, .junk, .junk, .junk, .junk, .junk, .junk, .junk, .junk, .junk, .junk, .junk, .junk, .junk, .junk, .junk, .junk, .junk, .junk, .junk, .junk, .junk, .junk, .junk, .junk, .junk, .junk, .junk, .junk, .junk, .junk, .junk, .junk, .junk, .junk, .junk, .junk, .junk, .junk, .junk, .junk, .junk, .junk, .junk, .junk, .junk, .junk, .junk, .junk, .junk, .junk, .junk, .junk, .junk, .junk, .junk, .junk, .junk, .junk, .junk, .junk, .junk, .junk, .junk, .junk, .junk, .junk, .junk, .junk, .junk, .junk, .junk, .junk, .junk, .junk, .junk, .junk, .junk, .junk, .junk, .junk, .junk, .junk, .junk, .junk, .junk, .junk, .junk, .junk, .junk, .junk, slR f3 p3 f4 p4 .i64 su, p64 su.length, p64 ((v + 1 : Nat) : Int), .junk, .junk, .junk, .junk, .junk, .junk, .junk, .junk, .junk, .junk, .junk, .junk, .junk, .junk, .junk, .junk, .junk, .junk, .junk, .junk, .junk, .junk, .junk, .junk, .junk, .junk, .junk, .junk, .junk, .junk]) 4 (Nat.zero_le _) (by simp) (by simp only [PWeak_nil, PWeak_junk, PWeak_same, Int.cast_ofNat_Int, List.length_append, List.length_cons, List.length_nil, Nat.zero_add]) (by simp only [PP, P1, P2, P3, P4, P5, P6, P7, P8, P9, P10, P11, P12, P13, P14, L1, P15, N1, N2, N3, N4, N5, N6, N7, I1, I2, I3, I4, I5, I6, I7, reduceIte, reduceCtorEq]) (by simp only [← List.map_set, PP, P1, P2, P3, P4, P5, P6, P7, P8, P9, P10, P11, P12, P13, P14, L1, P15, N1, N2, N3, N4, N5, N6, N7, I1, I2, I3, I4, I5, I6, I7, reduceIte, reduceCtorEq]) rfl) ?_
                refine SemW_to (ih (v + 1) (vs + 1) (a2.set v w) (up _ w (by simp [l2]) (set_at (by omega)) (by rw [es, if_pos ⟨d1, d2⟩, r3]) fun u hu => set_low hu) (by omega)) (by simp only [PWeak_nil, PWeak_junk, PWeak_same, Int.cast_ofNat_Int, List.length_append, List.length_cons, List.length_nil, Nat.zero_add]) (by simp only [← List.map_set, PP, P1, P2, P3, P4, P5, P6, P7, P8, P9, P10, P11, P12, P13, P14, L1, P15, N1, N2, N3, N4, N5, N6, N7, I1, I2, I3, I4, I5, I6, I7, reduceIte, reduceCtorEq])
            · simp only [PP, P1, P2, P3, P4, P5, P6, P7, P8, P9, P10, P11, P12, P13, P14, L1, P15, N1, N2, N3, N4, N5, N6, N7, I1, I2, I3, I4, I5, I6, I7, reduceIte, reduceCtorEq, d2, hwv]
              refine SemW_re (GStep.drop (b := [.junk, p8 side, .junk, .ptr 0 0 0, .junk, .junk, .ptr 1 0 0, .ref 3 0 1 0 ow.length, .junk, .junk, .junk, .junk, .junk, .junk, .junk, .junk, .junk, .junk, .junk, .junk, .junk, .junk, .junk, .junk, .junk, .junk, .junk, .junk, .junk, .junk, .junk, .junk, .junk, .junk, .junk, .junk, .junk, .junk, .junk, .junk, .junk, .junk, .junk, .junk, .junk, .junk, .junk, .junk, .junk, .junk, .junk, .junk, .junk, .junk, .junk, .junk, .junk, .junk, .junk, .junk, .junk, .junk, .junk, .junk, .junk, .junk, .junk, .junk, .junk, .junk, .junk, .junk, .junk, .junk, .junk, .junk, .junk, .junk, .junk, .junk, .junk, .junk, .junk, .junk, .junk, .junk, .junk, .junk, .junk, .junk, .junk, .junk, .junk, .junk, .junk, .junk, .junk, .junk, .junk, .junk, .junk, .junk, .junk, .junk, .junk, .junk, .junk, .junk, .junk, .junk, .junk, .junk, .junk, .junk, .junk, .junk, .junk, .junk, .junk, .junk, .junk, .junk, .junk, .junk, .junk, .junk, .junk, .junk, .junk, .junk, slR f3 p3 f4 p4 .i64 su, p64 su.length, p64 ((v + 1 : Nat) : Int), .junk, .junk, .junk, .junk, .junk, .junk, .junk, .junk, .junk, .junk, .junk, .junk, .junk, .junk, .junk, .junk, .junk, .junk, .junk, .junk, .junk, .junk, .junk, .junk, .junk, .junk, .junk, .junk, .junk, .junk]) 4 (Nat.zero_le _) (by simp) (by simp only [PWeak_nil, PWeak_junk, PWeak_same, Int.cast_ofNat_Int, List.length_append, List.length_cons, List.length_nil, Nat.zero_add]) (by simp only [PP, P1, P2, P3, P4, P5, P6, P7, P8, P9, P10, P11, P12, P13, P14, L1, P15, N1, N2, N3, N4, N5, N6, N7, I1, I2, I3, I4, I5, I6, I7, reduceIte, reduceCtorEq]) (by simp only [← List.map_set, PP, P1, P2, P3, P4, P5, P6, P7, P8, P9, P10, P11, P12, P13, P14, L1, P15, N1, N2, N3, N4, N5, N6, N7, I1, I2, I3, I4, I5, I6, I7, reduceIte, reduceCtorEq]) rfl) ?_
              exact SemW_to (ih (v + 1) vs a2 (up a2 (-1) l2 (h2 v (Nat.le_refl _) hv) (by rw [es, if_neg (fun h => d2 h.2)]) fun _ _ => rfl) (by omega)) (by simp only [PWeak_nil, PWeak_junk, PWeak_same, Int.cast_ofNat_Int, List.length_append, List.length_cons, List.length_nil, Nat.zero_add]) (by simp only [PP, P1, P2, P3, P4, P5, P6, P7, P8, P9, P10, P11, P12, P13, P14, L1, P15, N1, N2, N3, N4, N5, N6, N7, I1, I2, I3, I4, I5, I6, I7, reduceIte, reduceCtorEq])
          · simp only [PP, P1, P2, P3, P4, P5, P6, P7, P8, P9, P10, P11, P12, P13, P14, L1, P15, N1, N2, N3, N4, N5, N6, N7, I1, I2, I3, I4, I5, I6, I7, reduceIte, reduceCtorEq, d1, hwv]
            refine SemW_re (GStep.drop (b := [.junk, p8 side, .junk, .ptr 0 0 0, .junk, .junk, .ptr 1 0 0, .ref 3 0 1 0 ow.length, .junk, .junk, .junk, .junk, .junk, .junk, .junk, .junk, .junk, .junk, .junk, .junk, .junk, .junk, .junk, .junk, .junk, .junk, .junk, .junk, .junk, .junk, .junk, .junk, .junk, .junk, .junk, .junk, .junk, .junk, .junk, .junk, .junk, .junk, .junk, .junk, .junk, .junk, .junk, .junk, .junk, .junk, .junk, .junk, .junk, .junk, .junk, .junk, .junk, .junk, .junk, .junk, .junk, .junk, .junk, .junk, .junk, .junk, .junk, .junk, .junk, .junk, .junk, .junk, .junk, .junk, .junk, .junk, .junk, .junk, .junk, .junk, .junk, .junk, .junk, .junk, .junk, .junk, .junk, .junk, .junk, .junk, .junk, .junk, .junk, .junk, .junk, .junk, .junk, .junk, .junk, .junk, .junk, .junk, .junk, .junk, .junk, .junk, .junk, .junk, .junk, .junk, .junk, .junk, .junk, .junk, .junk, .junk, .junk, .junk, .junk, .junk, .junk, .junk, .junk, .junk, .junk, .junk, .junk, .junk, .junk, .junk, slR f3 p3 f4 p4 .i64 su, p64 su.length, p64 ((v + 1 : Nat) : Int), .junk, .junk, .junk, .junk, .junk, .junk, .junk, .junk, .junk, .junk, .junk, .junk, .junk, .junk, .junk, .junk, .junk, .junk, .junk, .junk, .junk, .junk, .junk, .junk, .junk, .junk, .junk, .junk, .junk, .junk]) 4 (Nat.zero_le _) (by simp) (by simp only [PWeak_nil, PWeak_junk, PWeak_same, Int.cast_ofNat_Int, List.length_append, List.length_cons, List.length_nil, Nat.zero_add]) (by simp only [PP, P1, P2, P3, P4, P5, P6, P7, P8, P9, P10, P11, P12, P13, P14, L1, P15, N1, N2, N3, N4, N5, N6, N7, I1, I2, I3, I4, I5, I6, I7, reduceIte, reduceCtorEq]) (by simp only [← List.map_set, PP, P1, P2, P3, P4, P5, P6, P7, P8, P9, P10, P11, P12, P13, P14, L1, P15, N1, N2, N3, N4, N5, N6, N7, I1, I2, I3, I4, I5, I6, I7, reduceIte, reduceCtorEq]) rfl) ?_
            exact SemW_to (ih (v + 1) vs a2 (up a2 (-1) l2 (h2 v (Nat.le_refl _) hv) (by rw [es, if_neg (fun h => d1 h.1)]) fun _ _ => rfl) (by omega)) (by simp only [PWeak_nil, PWeak_junk, PWeak_same, Int.cast_ofNat_Int, List.length_append, List.length_cons, List.length_nil, Nat.zero_add]) (by simp only [PP, P1, P2, P3, P4, P5, P6, P7, P8, P9, P10, P11, P12, P13, P14, L1, P15, N1, N2, N3, N4, N5, N6, N7, I1, I2, I3, I4, I5, I6, I7, reduceIte, reduceCtorEq])
        · have hvn : v = ow.length := by omega
          subst hvn
          have ha2 := tabL_of l2 h1
          subst ha2
          simp only [PP, P1, P2, P3, P4, P5, P6, P7, P8, P9, P10, P11, P12, P13, P14, L1, P15, N1, N2, N3, N4, N5, N6, N7, I1, I2, I3, I4, I5, I6, I7, reduceIte, reduceCtorEq, d, frz_tab]
          exact ⟨_, PvWk.refl _, hq⟩
end
end Go.Am.Ar

set_option linter.unusedVariables false
set_option linter.unusedSimpArgs false
set_option maxRecDepth 10000
namespace Go.Am.Ar
open Go.Am renaming pchk → P1, pold → P2, PKNo → P3, ppack → P4, PObj.under → P5, pput → P6, ptset → P7, ptget → P8, pev → P9, ofAV → P10, ofAV1 → P11, ppad → P12, pfill → P13, prepl → P14, AO.effect → P15
open List renaming replicate → L1
open Nat renaming reduceAdd → N1, reduceSub → N2, reduceMul → N3, reduceLT → N4, reduceLeDiff → N5, reduceEqDiff → N6, reduceBEq → N7
open Int renaming reduceToNat → I1, reduceLT → I2, reduceLE → I3, reduceEq → I4, reduceAdd → I5, reduceSub → I6, reduceNeg → I7

/-- The first index of a number, counted from k, or -1. -/
def idxI (v : Int) : Nat → List Int → Int
  | _, [] => -1
  | k, x :: l => if v = x then (k : Int) else idxI v (k + 1) l
theorem idxI_spec (v : Int) : ∀ (l : List Int) (k : Nat), (v ∉ l ∧ idxI v k l = -1) ∨ ∃ i, l[i]? = some v ∧ v ∉ l.take i ∧ idxI v k l = ((k + i : Nat) : Int)
  | [], k => .inl ⟨by simp, rfl⟩
  | x :: l, k => by
    unfold idxI
    by_cases h : v = x
    · rw [if_pos h]; exact .inr ⟨0, by simp [h], by simp, rfl⟩
    · rw [if_neg h]
      rcases idxI_spec v l (k + 1) with ⟨h1, h2⟩ | ⟨i, h1, h2, h3⟩
      · exact .inl ⟨by simp [h, h1], h2⟩
      · refine .inr ⟨i + 1, by simpa using h1, by simp [h, h2], ?_⟩
        rw [h3]; congr 1; omega

def playL (st : List Int) : Nat → Int → List Int → List Int × List Int
  | 0, _, all => (all, [])
  | n + 1, v, all => if 0 ≤ idxI v 0 all then (all.take (idxI v 0 all).toNat, all.drop (idxI v 0 all).toNat) else playL st n (st.getD v.toNat 0) (all ++ [v])
def movM (su : List (List Int)) : Nat → List Int → Bool
  | _, [] => true
  | k, u :: l => if u ∈ su.getD k [] then movM su (k + 1) l else false
def playE (ow pr : List Int) (su : List (List Int)) (st : List Int) (from' : Int) : Int :=
  if checkM ow pr su = 0 then (if from' < 0 then 8 else if (ow.length : Int) ≤ from' then 8 else if (st.length : Int) = ow.length then (if movM su 0 st = true then 0 else 13) else 2) else checkM ow pr su
def playM (ow pr : List Int) (su : List (List Int)) (st : List Int) (from' : Int) : PV :=
  if playE ow pr su st from' = 0 then .tuple [slI false true .i64 (playL st (ow.length + 1) from' []).1, slI false true .i64 (playL st (ow.length + 1) from' []).2, p64 0]
  else .tuple [slI false true .i64 [], slI false true .i64 [], p64 (playE ow pr su st from')]

theorem movM_get {su : List (List Int)} : ∀ {l : List Int} {k : Nat}, movM su k l = true → ∀ (i : Nat) (u : Int), l[i]? = some u → u ∈ su.getD (k + i) []
  | [], k, h, i, u, q => by simp at q
  | x :: l, k, h, i, u, q => by
    unfold movM at h
    split at h
    · rename_i hm
      cases i with
      | zero => simp at q; subst q; exact hm
      | succ i =>
        have := movM_get h i u (by simpa using q)
        rw [show k + (i + 1) = k + 1 + i by omega]; exact this
    · cases h
abbrev natI (l : List Nat) : List Int := l.map fun (v : Nat) => (v : Int)
theorem mem_natI {l : List Nat} {v : Nat} : (v : Int) ∈ natI l ↔ v ∈ l := by
  rw [List.mem_map]
  exact ⟨fun ⟨a, h1, h2⟩ => by rw [show v = a by omega]; exact h1, fun h => ⟨v, h, rfl⟩⟩

def winL (n : Int) (pr : List Int) : Int → List Int → PV
  | m, [] => .tuple [p8 (IntKind.u8.wrap (m.tmod 2)), p64 0]
  | m, v :: l => if v < 0 then .tuple [p8 0, p64 8] else if n ≤ v then .tuple [p8 0, p64 8] else winL n pr (max m (pr.getD v.toNat 0)) l
/-- The winner of a play that repeats some positions. -/
def winM (ow pr : List Int) (su : List (List Int)) (lp : List Int) : PV :=
  if checkM ow pr su = 0 then (if (lp.length : Int) = 0 then .tuple [p8 0, p64 3] else winL ow.length pr 0 lp) else .tuple [p8 0, p64 (checkM ow pr su)]

section
variable {tab : FuncId → Option AF} (T : HasA tab)
include T

theorem index_p {M : Mem} {K : PV → Mem → Prop} {f o : Bool} {xs : List Int} {v : Int} (hm : xs.length < big) (hk : K (p64 (idxI v 0 xs)) M) :
    SemC tab 49 [slI f o .i64 xs, p64 v] M K := by
  refine SemC_pure T.h49 (by simp only [PP, P1, P2, P3, P4, P5, P6, P7, P8, P9, P10, P11, P12, P13, P14, L1, P15, N1, N2, N3, N4, N5, N6, N7, I1, I2, I3, I4, I5, I6, I7, reduceIte, reduceCtorEq]) ?_
  simp only [af49, PP, P1, P2, P3, P4, P5, P6, P7, P8, P9, P10, P11, P12, P13, P14, L1, P15, N1, N2, N3, N4, N5, N6, N7, I1, I2, I3, I4, I5, I6, I7, reduceIte, reduceCtorEq]
  refine loop1 (fun (k : Nat) => k ≤ xs.length ∧ K (p64 (idxI v k (xs.drop k))) M) (fun k => [slI f o .i64 xs, p64 v, .junk, .junk, .junk, .junk, .junk, p64 xs.length, p64 k, .junk, .junk, .junk, .junk, .junk, .junk, .junk, .junk, .junk, .junk]) (fun _ => []) (fun k => xs.length - k) 0 ⟨by omega, hk⟩ (by simp only [PWeak_nil, PWeak_junk, PWeak_same, Int.cast_ofNat_Int, List.length_append, List.length_cons, List.length_nil, Nat.zero_add]) rfl ?_
  intro k ⟨hle, hq⟩ ih
  refine SemW_go (by kernel_rfl) ?_
  simp only [PP, P1, P2, P3, P4, P5, P6, P7, P8, P9, P10, P11, P12, P13, P14, L1, P15, N1, N2, N3, N4, N5, N6, N7, I1, I2, I3, I4, I5, I6, I7, reduceIte, reduceCtorEq]
  refine QIf.intro (fun c => ?_) (fun c => ?_)
  · have hk' : k < xs.length := by omega
    obtain ⟨x, g⟩ := some_of hk'
    rw [drop_some g] at hq
    have hw := wrap_succ (k := k) (by omega)
    have h0 : (0 : Int) ≤ k := by omega
    simp only [PP, P1, P2, P3, P4, P5, P6, P7, P8, P9, P10, P11, P12, P13, P14, L1, P15, N1, N2, N3, N4, N5, N6, N7, I1, I2, I3, I4, I5, I6, I7, reduceIte, reduceCtorEq, idxI, c, g, h0] at hq ⊢
    refine QIf.intro (fun h1 => ?_) (fun h1 => ?_)
    · simp only [PP, P1, P2, P3, P4, P5, P6, P7, P8, P9, P10, P11, P12, P13, P14, L1, P15, N1, N2, N3, N4, N5, N6, N7, I1, I2, I3, I4, I5, I6, I7, reduceIte, reduceCtorEq, h1] at hq ⊢
      exact hq
    simp only [PP, P1, P2, P3, P4, P5, P6, P7, P8, P9, P10, P11, P12, P13, P14, L1, P15, N1, N2, N3, N4, N5, N6, N7, I1, I2, I3, I4, I5, I6, I7, reduceIte, reduceCtorEq, h1] at hq ⊢
    simp only [hw]
    exact SemW_weak (ih (k + 1) ⟨by omega, hq⟩ (by omega)) (by simp only [PWeak_nil, PWeak_junk, PWeak_same, Int.cast_ofNat_Int, List.length_append, List.length_cons, List.length_nil, Nat.zero_add])
  · rw [List.drop_eq_nil_of_le (by omega)] at hq
    simp only [PP, P1, P2, P3, P4, P5, P6, P7, P8, P9, P10, P11, P12, P13, P14, L1, P15, N1, N2, N3, N4, N5, N6, N7, I1, I2, I3, I4, I5, I6, I7, reduceIte, reduceCtorEq, c]
    exact hq

theorem contains_p {M : Mem} {K : PV → Mem → Prop} {f o : Bool} {xs : List Int} {v : Int} (hm : xs.length < big) (hk : K (.bool (decide (v ∈ xs))) M) :
    SemC tab 48 [slI f o .i64 xs, p64 v] M K := by
  refine SemC_pure T.h48 (by simp only [PP, P1, P2, P3, P4, P5, P6, P7, P8, P9, P10, P11, P12, P13, P14, L1, P15, N1, N2, N3, N4, N5, N6, N7, I1, I2, I3, I4, I5, I6, I7, reduceIte, reduceCtorEq]) ?_
  simp only [af48, PP, P1, P2, P3, P4, P5, P6, P7, P8, P9, P10, P11, P12, P13, P14, L1, P15, N1, N2, N3, N4, N5, N6, N7, I1, I2, I3, I4, I5, I6, I7, reduceIte, reduceCtorEq]
  refine index_p T hm ?_
  have e : decide (0 ≤ idxI v 0 xs) = decide (v ∈ xs) := by
    rcases idxI_spec v xs 0 with ⟨h1, h2⟩ | ⟨i, h1, h2, h3⟩
    · rw [h2]; simp [h1]
    · rw [h3]; simp [List.mem_of_getElem? h1]
  simp only [PP, P1, P2, P3, P4, P5, P6, P7, P8, P9, P10, P11, P12, P13, P14, L1, P15, N1, N2, N3, N4, N5, N6, N7, I1, I2, I3, I4, I5, I6, I7, reduceIte, reduceCtorEq, e]
  exact hk

theorem clone_r {M : Mem} {K : PV → Mem → Prop} {id g ver off n : Nat} {xs : List Int} (hM : M[id]? = some (.cells g ver (xs.map (PV.int .i64)))) (hl : off + n ≤ xs.length) (hb : xs.length < big) (hc : M.all (cutOk M.length) = true)
    (hk : K (slI false true .i64 ((xs.drop off).take n)) M) : SemC tab 50 [.ref id g 1 off n] M K := by
  have hb' : xs.length < 1000000000000 := hb
  have b1 : n * 8 ≤ 140737488355328 := by omega
  have b2 : n ≤ 9223372036854775807 := by omega
  have hlt : (id == M.length) = false := beq_eq_false_iff_ne.2 (by have := getSome_lt hM; omega)
  have hps : psub (xs.map (PV.int .i64)) off n = ((xs.drop off).take n).map (PV.int .i64) := by simp [psub, List.map_drop, List.map_take]
  have hln : ((xs.drop off).take n).length = n := by rw [List.length_take, List.length_drop]; omega
  refine SemC_wk (SemC_gh (SemC_fn T.h50 ?_))
  simp only [af50, PP, P1, P2, P3, P4, P5, P6, P7, P8, P9, P10, P11, P12, P13, P14, L1, P15, N1, N2, N3, N4, N5, N6, N7, I1, I2, I3, I4, I5, I6, I7, reduceIte, reduceCtorEq, hM]
  refine QIf.intro (fun c => ?_) (fun c => ?_)
  · subst c
    constructor
    · simp only [PP, P1, P2, P3, P4, P5, P6, P7, P8, P9, P10, P11, P12, P13, P14, L1, P15, N1, N2, N3, N4, N5, N6, N7, I1, I2, I3, I4, I5, I6, I7, reduceIte, reduceCtorEq]
      exact Gh.same ⟨_, rfl, _, PvWk.nils _ _ _, hk⟩
    · simp only [PP, P1, P2, P3, P4, P5, P6, P7, P8, P9, P10, P11, P12, P13, P14, L1, P15, N1, N2, N3, N4, N5, N6, N7, I1, I2, I3, I4, I5, I6, I7, reduceIte, reduceCtorEq, hM, hl]
      exact ⟨by omega, Gh.same ⟨_, rfl, _, PvWk.sl _ _ _ _, by simpa [slI] using hk⟩⟩
  · simp only [PP, P1, P2, P3, P4, P5, P6, P7, P8, P9, P10, P11, P12, P13, P14, L1, P15, N1, N2, N3, N4, N5, N6, N7, I1, I2, I3, I4, I5, I6, I7, reduceIte, reduceCtorEq, c, hM, hl, b1, b2, List.length_map]
    rw [hps]
    exact ⟨all_one_ints _ _, Gh_ret hc hln ⟨_, PvWk.refl _, hk⟩⟩

theorem play_p {M : Mem} {K : PV → Mem → Prop} {f1 o1 f2 o2 f3 o3 f4 o4 f5 o5 : Bool} {ow pr st : List Int} {su : List (List Int)} {from' : Int} (B : Bnd ow pr su) (hb : st.length < big) (hq : K (playM ow pr su st from') M) :
    SemC tab 23 [gmP f1 o1 f2 o2 f3 o3 f4 o4 ow pr su, slI f5 o5 .i64 st, p64 from'] M K := by
  refine SemC_wk ?_
  refine SemC_pure T.h23 (by simp only [PP, P1, P2, P3, P4, P5, P6, P7, P8, P9, P10, P11, P12, P13, P14, L1, P15, N1, N2, N3, N4, N5, N6, N7, I1, I2, I3, I4, I5, I6, I7, reduceIte, reduceCtorEq]) ?_
  simp only [af23, PP, P1, P2, P3, P4, P5, P6, P7, P8, P9, P10, P11, P12, P13, P14, L1, P15, N1, N2, N3, N4, N5, N6, N7, I1, I2, I3, I4, I5, I6, I7, reduceIte, reduceCtorEq, playM, playE] at hq ⊢
  refine check_p T B ?_
  simp only [PP, P1, P2, P3, P4, P5, P6, P7, P8, P9, P10, P11, P12, P13, P14, L1, P15, N1, N2, N3, N4, N5, N6, N7, I1, I2, I3, I4, I5, I6, I7, reduceIte, reduceCtorEq]
  refine QIf.intro (fun c1 => ?_) (fun c1 => ?_)
  rotate_left
  · simp only [PP, P1, P2, P3, P4, P5, P6, P7, P8, P9, P10, P11, P12, P13, P14, L1, P15, N1, N2, N3, N4, N5, N6, N7, I1, I2, I3, I4, I5, I6, I7, reduceIte, reduceCtorEq, c1] at hq ⊢
    exact ⟨_, wk_attr _, hq⟩
  have V := valid_of c1
  have hs := V.s
  have n1 := V.n1
  simp only [PP, P1, P2, P3, P4, P5, P6, P7, P8, P9, P10, P11, P12, P13, P14, L1, P15, N1, N2, N3, N4, N5, N6, N7, I1, I2, I3, I4, I5, I6, I7, reduceIte, reduceCtorEq, c1] at hq ⊢
  refine QIf.intro (fun c2 => ?_) (fun c2 => ?_)
  · simp only [PP, P1, P2, P3, P4, P5, P6, P7, P8, P9, P10, P11, P12, P13, P14, L1, P15, N1, N2, N3, N4, N5, N6, N7, I1, I2, I3, I4, I5, I6, I7, reduceIte, reduceCtorEq, c2] at hq ⊢
    exact ⟨_, wk_attr _, hq⟩
  simp only [PP, P1, P2, P3, P4, P5, P6, P7, P8, P9, P10, P11, P12, P13, P14, L1, P15, N1, N2, N3, N4, N5, N6, N7, I1, I2, I3, I4, I5, I6, I7, reduceIte, reduceCtorEq, c2] at hq ⊢
  refine QIf.intro (fun c3 => ?_) (fun c3 => ?_)
  · simp only [PP, P1, P2, P3, P4, P5, P6, P7, P8, P9, P10, P11, P12, P13, P14, L1, P15, N1, N2, N3, N4, N5, N6, N7, I1, I2, I3, I4, I5, I6, I7, reduceIte, reduceCtorEq, c3] at hq ⊢
    exact ⟨_, wk_attr _, hq⟩
  simp only [PP, P1, P2, P3, P4, P5, P6, P7, P8, P9, P10, P11, P12, P13, P14, L1, P15, N1, N2, N3, N4, N5, N6, N7, I1, I2, I3, I4, I5, I6, I7, reduceIte, reduceCtorEq, c3] at hq ⊢
  refine QIf.intro (fun c4 => ?_) (fun c4 => ?_)
  rotate_left
  · simp only [PP, P1, P2, P3, P4, P5, P6, P7, P8, P9, P10, P11, P12, P13, P14, L1, P15, N1, N2, N3, N4, N5, N6, N7, I1, I2, I3, I4, I5, I6, I7, reduceIte, reduceCtorEq, c4] at hq ⊢
    exact ⟨_, wk_attr _, hq⟩
  simp only [PP, P1, P2, P3, P4, P5, P6, P7, P8, P9, P10, P11, P12, P13, P14, L1, P15, N1, N2, N3, N4, N5, N6, N7, I1, I2, I3, I4, I5, I6, I7, reduceIte, reduceCtorEq, c4] at hq ⊢
  refine loop1 (fun (k : Nat) => k ≤ ow.length ∧ movM su k (st.drop k) = movM su 0 st) (fun k => [.junk, slI f5 o5 .i64 st, p64 from', .ptr 0 0 0, .junk, .junk, .junk, .junk, .junk, .junk, .junk, .junk, .junk, .junk, .junk, .junk, .junk, .junk, .junk, .junk, .junk, .junk, .junk, .junk, .junk, .junk, .junk, .junk, .junk, .junk, .junk, .junk, .junk, .junk, .junk, .junk, .junk, slI f5 o5 .i64 st, p64 ow.length, p64 k, .junk, .junk, .junk, .junk, .junk, .junk, .junk, .junk, .junk, .junk, .junk, .junk, .junk, .junk, .junk, .junk, .junk, .junk, .junk, .junk, .junk, .junk, .junk, .junk, .junk, .junk, .junk, .junk, .junk, .junk, .junk, .junk, .junk, .junk, .junk]) (fun _ => [.cells 0 0 [slI f1 o1 .u8 ow, slI f2 o2 .i64 pr, slR f3 o3 f4 o4 .i64 su]]) (fun k => ow.length - k) 0 ⟨by omega, rfl⟩ (by simp only [PWeak_nil, PWeak_junk, PWeak_same, Int.cast_ofNat_Int, List.length_append, List.length_cons, List.length_nil, Nat.zero_add]) rfl ?_
  intro k ⟨hle, hmv⟩ ih
  refine SemW_go (by kernel_rfl) ?_
  simp only [PP, P1, P2, P3, P4, P5, P6, P7, P8, P9, P10, P11, P12, P13, P14, L1, P15, N1, N2, N3, N4, N5, N6, N7, I1, I2, I3, I4, I5, I6, I7, reduceIte, reduceCtorEq]
  refine QIf.intro (fun d => ?_) (fun d => ?_)
  · have hk : k < ow.length := by omega
    have hw := wrap_succ (k := k) (by show _ < 1000000000000; omega)
    have k0 : (0 : Int) ≤ k := by omega
    obtain ⟨u, g1⟩ := some_of (xs := st) (k := k) (by omega)
    obtain ⟨row, g2⟩ := some_of (xs := su) (k := k) (by omega)
    have ks : (k : Int) < su.length := by omega
    have e2 : su.getD k [] = row := by simp [List.getD, g2]
    rw [drop_some g1, movM, e2] at hmv
    simp only [PP, P1, P2, P3, P4, P5, P6, P7, P8, P9, P10, P11, P12, P13, P14, L1, P15, N1, N2, N3, N4, N5, N6, N7, I1, I2, I3, I4, I5, I6, I7, reduceIte, reduceCtorEq, c4, d, g1, g2, k0, ks]
    refine contains_p T (B.r _ (List.mem_of_getElem? g2)) ?_
    by_cases h1 : u ∈ row
    · rw [if_pos h1] at hmv
      simp only [PP, P1, P2, P3, P4, P5, P6, P7, P8, P9, P10, P11, P12, P13, P14, L1, P15, N1, N2, N3, N4, N5, N6, N7, I1, I2, I3, I4, I5, I6, I7, reduceIte, reduceCtorEq, h1, hw]
      exact SemW_weak (ih (k + 1) ⟨by omega, hmv⟩ (by omega)) (by simp only [PWeak_nil, PWeak_junk, PWeak_same, Int.cast_ofNat_Int, List.length_append, List.length_cons, List.length_nil, Nat.zero_add])
    · rw [if_neg h1] at hmv
      simp only [PP, P1, P2, P3, P4, P5, P6, P7, P8, P9, P10, P11, P12, P13, P14, L1, P15, N1, N2, N3, N4, N5, N6, N7, I1, I2, I3, I4, I5, I6, I7, reduceIte, reduceCtorEq, h1, ← hmv] at hq ⊢
      exact ⟨_, wk_attr _, hq⟩
  · have hkn : k = st.length := by omega
    rw [List.drop_eq_nil_of_le (by omega)] at hmv
    simp only [PP, P1, P2, P3, P4, P5, P6, P7, P8, P9, P10, P11, P12, P13, P14, L1, P15, N1, N2, N3, N4, N5, N6, N7, I1, I2, I3, I4, I5, I6, I7, reduceIte, reduceCtorEq, ← hmv, movM] at hq ⊢
    simp only [PP, P1, P2, P3, P4, P5, P6, P7, P8, P9, P10, P11, P12, P13, P14, L1, P15, N1, N2, N3, N4, N5, N6, N7, I1, I2, I3, I4, I5, I6, I7, reduceIte, reduceCtorEq, d]
    have hst : ∀ (k : Nat) (u : Int), st[k]? = some u → 0 ≤ u ∧ u < ow.length := by
      intro k u hu
      have h1 := movM_get hmv.symm k u hu
      have hks : k < su.length := by have := getSome_lt hu; omega
      obtain ⟨_, _, _, _, q⟩ := V.row k hks
      rw [Nat.zero_add, List.getD, List.getElem?_eq_getElem hks] at h1
      have := (posM_rise q).2 u h1
      omega
    obtain ⟨v0, rfl⟩ : ∃ v0 : Nat, from' = v0 := ⟨from'.toNat, by omega⟩
    refine SemW_re (GStep.nil 13 1 rfl rfl rfl) ?_
    simp only [ptset, List.cons_append, List.nil_append, List.length_cons, List.length_nil, Nat.reduceAdd]
    refine loop3 (fun (v g : Nat) (l : List Nat) => v < ow.length ∧ l.Nodup ∧ (∀ x ∈ l, x < ow.length) ∧ K (.tuple [slI false true .i64 (playL st (ow.length + 1 - l.length) v (natI l)).1, slI false true .i64 (playL st (ow.length + 1 - l.length) v (natI l)).2, p64 0]) M)
      (fun v g l => [.junk, slI f5 o5 .i64 st, .junk, .junk, .junk, .junk, .junk, .junk, .junk, .junk, .junk, .junk, .junk, .ref 1 g 1 0 l.length, p64 v, .junk, .junk, .junk, .junk, .junk, .junk, .junk, .junk, .junk, .junk, .junk, .junk, .junk, .junk, .junk, .junk, .junk, .junk, .junk, .junk, .junk, .junk, .junk, .junk, .junk, .junk, .junk, .junk, .junk, .junk, .junk, .junk, .junk, .junk, .junk, .junk, .junk, .junk, .junk, .junk, .junk, .junk, .junk, .junk, .junk, .junk, .junk, .junk, .junk, .junk, .junk, .junk, .junk, .junk, .junk, .junk, .junk, .junk, .junk, .junk])
      (fun v g l => [.cells 0 0 [slI f1 o1 .u8 ow, slI f2 o2 .i64 pr, slR f3 o3 f4 o4 .i64 su], .cells g 0 ((natI l).map (PV.int .i64))])
      (fun v g l => ow.length + 1 - l.length) v0 0 [] ⟨by omega, List.nodup_nil, by simp, hq⟩ (by simp only [PWeak_nil, PWeak_junk, PWeak_same, Int.cast_ofNat_Int, List.length_append, List.length_cons, List.length_nil, Nat.zero_add]) rfl ?_
    intro v g l ⟨hv, hnd, hlt, hq⟩ ih
    have hll := nodup_lenN _ l hnd hlt
    have hlb : (natI l).length < big := by show _ < 1000000000000; rw [List.length_map]; omega
    obtain ⟨fu, hfu⟩ : ∃ fu, ow.length + 1 - l.length = fu + 1 := ⟨ow.length - l.length, by omega⟩
    rw [hfu, playL] at hq
    refine SemW_go (by kernel_rfl) ?_
    simp only [PP, P1, P2, P3, P4, P5, P6, P7, P8, P9, P10, P11, P12, P13, P14, L1, P15, N1, N2, N3, N4, N5, N6, N7, I1, I2, I3, I4, I5, I6, I7, reduceIte, reduceCtorEq]
    refine SemC_bor (.ints rfl (List.length_map _) (.same rfl .nil)) (index_p T hlb ⟨rfl, ?_⟩)
    rcases idxI_spec v (natI l) 0 with ⟨h1, h2⟩ | ⟨i, h1, h2, h3⟩
    · have hv0 : (0 : Int) ≤ v := by omega
      have hvs : (v : Int) < st.length := by omega
      obtain ⟨u, g1⟩ := some_of (xs := st) (k := v) (by omega)
      obtain ⟨u0, u1⟩ := hst v u g1
      obtain ⟨w, rfl⟩ : ∃ w : Nat, u = w := ⟨u.toNat, by omega⟩
      have e1 : st.getD v 0 = w := by simp [List.getD, g1]
      have b1 : (l.length + 1) * 8 ≤ 140737488355328 := by omega
      have b2 : l.length + 1 ≤ 9223372036854775807 := by omega
      simp only [PP, P1, P2, P3, P4, P5, P6, P7, P8, P9, P10, P11, P12, P13, P14, L1, P15, N1, N2, N3, N4, N5, N6, N7, I1, I2, I3, I4, I5, I6, I7, reduceIte, reduceCtorEq, h2, e1] at hq ⊢
      have b2 : l.length ≤ 9223372036854775806 := by omega
      have hni : v ∉ l := fun h => h1 (mem_natI.2 h)
      have hps : psub ((natI l).map (PV.int .i64)) 0 l.length ++ [.int .i64 (v : Int)] = (natI (l ++ [v])).map (PV.int .i64) := by
        rw [psub_all _ _ (by simp)]; simp
      have hq2 : natI l ++ [(v : Int)] = natI (l ++ [v]) := by simp
      simp only [PP, P1, P2, P3, P4, P5, P6, P7, P8, P9, P10, P11, P12, P13, P14, L1, P15, N1, N2, N3, N4, N5, N6, N7, I1, I2, I3, I4, I5, I6, I7, reduceIte, reduceCtorEq, g1, hv0, hvs, b1, b2]
      refine SemW_to (ih w (g + 1) (l ++ [v]) ⟨by omega, ?_, ?_, ?_⟩ (by rw [List.length_append, List.length_singleton]; omega)) (by simp only [PWeak_nil, PWeak_junk, PWeak_same, Int.cast_ofNat_Int, List.length_append, List.length_cons, List.length_nil, Nat.zero_add]) (by rw [hps])
      · rw [List.nodup_append]
        exact ⟨hnd, by simp, fun a ha b hb e => by rw [List.mem_singleton] at hb; subst hb; subst e; exact hni ha⟩
      · intro x hx
        rcases List.mem_append.1 hx with h | h
        · exact hlt x h
        · rw [List.mem_singleton] at h; subst h; exact hv
      · rw [hq2] at hq
        rw [show ow.length + 1 - (l ++ [v]).length = fu by rw [List.length_append, List.length_singleton]; omega]
        exact hq
    · have i0 : (0 : Int) ≤ ((0 + i : Nat) : Int) := by omega
      have il : i < l.length := by have := getSome_lt h1; rwa [List.length_map] at this
      rw [h3] at hq ⊢
      rw [if_pos i0] at hq
      simp only [PP, P1, P2, P3, P4, P5, P6, P7, P8, P9, P10, P11, P12, P13, P14, L1, P15, N1, N2, N3, N4, N5, N6, N7, I1, I2, I3, I4, I5, I6, I7, reduceIte, reduceCtorEq] at hq i0 ⊢
      have il2 : (i : Int) ≤ l.length := by omega
      have e0 : ((i : Int) - 0).toNat = i := by omega
      have e1 : ((l.length : Int) - i).toNat = l.length - i := by omega
      have ll : (natI l).length = l.length := List.length_map _
      simp only [PP, P1, P2, P3, P4, P5, P6, P7, P8, P9, P10, P11, P12, P13, P14, L1, P15, N1, N2, N3, N4, N5, N6, N7, I1, I2, I3, I4, I5, I6, I7, reduceIte, reduceCtorEq, i0, il2, e0]
      refine clone_r T (xs := natI l) (g := g) (ver := 0) rfl (by omega) hlb (by simp only [PP, P1, P2, P3, P4, P5, P6, P7, P8, P9, P10, P11, P12, P13, P14, L1, P15, N1, N2, N3, N4, N5, N6, N7, I1, I2, I3, I4, I5, I6, I7, reduceIte, reduceCtorEq, cutOk, underL_ints]) ?_
      simp only [PP, P1, P2, P3, P4, P5, P6, P7, P8, P9, P10, P11, P12, P13, P14, L1, P15, N1, N2, N3, N4, N5, N6, N7, I1, I2, I3, I4, I5, I6, I7, reduceIte, reduceCtorEq, i0, il2, e1, Int.le_refl]
      refine clone_r T (xs := natI l) (g := g) (ver := 0) rfl (by omega) hlb (by simp only [PP, P1, P2, P3, P4, P5, P6, P7, P8, P9, P10, P11, P12, P13, P14, L1, P15, N1, N2, N3, N4, N5, N6, N7, I1, I2, I3, I4, I5, I6, I7, reduceIte, reduceCtorEq, cutOk, underL_ints]) ?_
      rw [List.take_of_length_le (show ((natI l).drop i).length ≤ l.length - i by simp)]
      simp only [PP, P1, P2, P3, P4, P5, P6, P7, P8, P9, P10, P11, P12, P13, P14, L1, P15, N1, N2, N3, N4, N5, N6, N7, I1, I2, I3, I4, I5, I6, I7, reduceIte, reduceCtorEq]
      exact ⟨_, PvWk.refl _, hq⟩

theorem winner_p {M : Mem} {K : PV → Mem → Prop} {f1 o1 f2 o2 f3 o3 f4 o4 f5 o5 : Bool} {ow pr lp : List Int} {su : List (List Int)} (B : Bnd ow pr su) (hb : lp.length < big) (hq : K (winM ow pr su lp) M) :
    SemC tab 26 [gmP f1 o1 f2 o2 f3 o3 f4 o4 ow pr su, slI f5 o5 .i64 lp] M K := by
  refine SemC_pure T.h26 (by simp only [PP, P1, P2, P3, P4, P5, P6, P7, P8, P9, P10, P11, P12, P13, P14, L1, P15, N1, N2, N3, N4, N5, N6, N7, I1, I2, I3, I4, I5, I6, I7, reduceIte, reduceCtorEq]) ?_
  simp only [af26, PP, P1, P2, P3, P4, P5, P6, P7, P8, P9, P10, P11, P12, P13, P14, L1, P15, N1, N2, N3, N4, N5, N6, N7, I1, I2, I3, I4, I5, I6, I7, reduceIte, reduceCtorEq, winM] at hq ⊢
  refine check_p T B ?_
  simp only [PP, P1, P2, P3, P4, P5, P6, P7, P8, P9, P10, P11, P12, P13, P14, L1, P15, N1, N2, N3, N4, N5, N6, N7, I1, I2, I3, I4, I5, I6, I7, reduceIte, reduceCtorEq]
  refine QIf.intro (fun c1 => ?_) (fun c1 => ?_)
  rotate_left
  · simp only [PP, P1, P2, P3, P4, P5, P6, P7, P8, P9, P10, P11, P12, P13, P14, L1, P15, N1, N2, N3, N4, N5, N6, N7, I1, I2, I3, I4, I5, I6, I7, reduceIte, reduceCtorEq, c1] at hq ⊢
    exact hq
  simp only [PP, P1, P2, P3, P4, P5, P6, P7, P8, P9, P10, P11, P12, P13, P14, L1, P15, N1, N2, N3, N4, N5, N6, N7, I1, I2, I3, I4, I5, I6, I7, reduceIte, reduceCtorEq, c1] at hq ⊢
  have V := valid_of c1
  have hp := V.p
  have n1 := V.n1
  refine QIf.intro (fun c2 => ?_) (fun c2 => ?_)
  · simp only [PP, P1, P2, P3, P4, P5, P6, P7, P8, P9, P10, P11, P12, P13, P14, L1, P15, N1, N2, N3, N4, N5, N6, N7, I1, I2, I3, I4, I5, I6, I7, reduceIte, reduceCtorEq, c2] at hq ⊢
    exact hq
  simp only [PP, P1, P2, P3, P4, P5, P6, P7, P8, P9, P10, P11, P12, P13, P14, L1, P15, N1, N2, N3, N4, N5, N6, N7, I1, I2, I3, I4, I5, I6, I7, reduceIte, reduceCtorEq, c2] at hq ⊢
  refine loop2 (fun (k : Nat) (m : Int) => k ≤ lp.length ∧ K (winL ow.length pr m (lp.drop k)) M) (fun k m => [.junk, .junk, .ptr 0 0 0, .junk, .junk, .junk, .junk, p64 m, .junk, .junk, .junk, .junk, .junk, .junk, .junk, .junk, .junk, .junk, slI f5 o5 .i64 lp, p64 lp.length, p64 k, .junk, .junk, .junk, .junk, .junk, .junk, .junk, .junk, .junk, .junk, .junk, .junk, .junk, .junk, .junk, .junk, .junk, .junk, .junk, .junk, .junk, .junk, .junk]) (fun _ _ => [.cells 0 0 [slI f1 o1 .u8 ow, slI f2 o2 .i64 pr, slR f3 o3 f4 o4 .i64 su]]) (fun k _ => lp.length - k) 0 0 ⟨by omega, hq⟩ (by simp only [PWeak_nil, PWeak_junk, PWeak_same, Int.cast_ofNat_Int, List.length_append, List.length_cons, List.length_nil, Nat.zero_add]) rfl ?_
  intro k m ⟨hle, hq⟩ ih
  refine SemW_go (by kernel_rfl) ?_
  simp only [PP, P1, P2, P3, P4, P5, P6, P7, P8, P9, P10, P11, P12, P13, P14, L1, P15, N1, N2, N3, N4, N5, N6, N7, I1, I2, I3, I4, I5, I6, I7, reduceIte, reduceCtorEq]
  refine QIf.intro (fun d => ?_) (fun d => ?_)
  · have hk : k < lp.length := by omega
    have hkb : lp.length < 1000000000000 := hb
    have hw := wrap_succ (k := k) (by show _ < 1000000000000; omega)
    have k0 : (0 : Int) ≤ k := by omega
    obtain ⟨v, g1⟩ := some_of hk
    rw [drop_some g1, winL] at hq
    simp only [PP, P1, P2, P3, P4, P5, P6, P7, P8, P9, P10, P11, P12, P13, P14, L1, P15, N1, N2, N3, N4, N5, N6, N7, I1, I2, I3, I4, I5, I6, I7, reduceIte, reduceCtorEq, d, g1, k0]
    refine QIf.intro (fun h1 => ?_) (fun h1 => ?_)
    · simp only [PP, P1, P2, P3, P4, P5, P6, P7, P8, P9, P10, P11, P12, P13, P14, L1, P15, N1, N2, N3, N4, N5, N6, N7, I1, I2, I3, I4, I5, I6, I7, reduceIte, reduceCtorEq, h1] at hq ⊢
      exact hq
    simp only [PP, P1, P2, P3, P4, P5, P6, P7, P8, P9, P10, P11, P12, P13, P14, L1, P15, N1, N2, N3, N4, N5, N6, N7, I1, I2, I3, I4, I5, I6, I7, reduceIte, reduceCtorEq, h1, k0] at hq ⊢
    refine QIf.intro (fun h2 => ?_) (fun h2 => ?_)
    · simp only [PP, P1, P2, P3, P4, P5, P6, P7, P8, P9, P10, P11, P12, P13, P14, L1, P15, N1, N2, N3, N4, N5, N6, N7, I1, I2, I3, I4, I5, I6, I7, reduceIte, reduceCtorEq, h2] at hq ⊢
      exact hq
    simp only [PP, P1, P2, P3, P4, P5, P6, P7, P8, P9, P10, P11, P12, P13, P14, L1, P15, N1, N2, N3, N4, N5, N6, N7, I1, I2, I3, I4, I5, I6, I7, reduceIte, reduceCtorEq, h2, k0] at hq ⊢
    have v0 : 0 ≤ v := by omega
    have vp : v < pr.length := by omega
    obtain ⟨p, g2⟩ := some_of (xs := pr) (k := v.toNat) (by omega)
    have e2 : pr.getD v.toNat 0 = p := by simp [List.getD, g2]
    rw [e2] at hq
    simp only [PP, P1, P2, P3, P4, P5, P6, P7, P8, P9, P10, P11, P12, P13, P14, L1, P15, N1, N2, N3, N4, N5, N6, N7, I1, I2, I3, I4, I5, I6, I7, reduceIte, reduceCtorEq, g2, v0, vp, hw]
    exact SemW_weak (ih (k + 1) (max m p) ⟨by omega, hq⟩ (by omega)) (by simp only [PWeak_nil, PWeak_junk, PWeak_same, Int.cast_ofNat_Int, List.length_append, List.length_cons, List.length_nil, Nat.zero_add])
  · rw [List.drop_eq_nil_of_le (by omega), winL] at hq
    have h2 : (2 : Int) ≠ 0 := by omega
    simp only [PP, P1, P2, P3, P4, P5, P6, P7, P8, P9, P10, P11, P12, P13, P14, L1, P15, N1, N2, N3, N4, N5, N6, N7, I1, I2, I3, I4, I5, I6, I7, reduceIte, reduceCtorEq, d, prem h2]
    exact hq
end
end Go.Am.Ar

set_option linter.unusedVariables false
namespace Go.Am.Ar
def itr (f : Nat → Nat) (v : Nat) : Nat → Nat
  | 0 => v
  | j + 1 => f (itr f v j)
theorem itr_lt {f : Nat → Nat} {n v : Nat} (hf : ∀ v, v < n → f v < n) (hv : v < n) : ∀ j, itr f v j < n
  | 0 => hv
  | j + 1 => hf _ (itr_lt hf hv j)
def its (f : Nat → Nat) (v m : Nat) : List Nat := (List.range m).map (itr f v)
theorem its_len (f : Nat → Nat) (v m : Nat) : (its f v m).length = m := by simp [its]
theorem its_get {f : Nat → Nat} {v m j : Nat} (h : j < m) : (its f v m)[j]? = some (itr f v j) := by simp [its, h]
theorem its_succ (f : Nat → Nat) (v m : Nat) : its f v (m + 1) = its f v m ++ [itr f v m] := by simp [its, List.range_succ]
theorem its_mem {f : Nat → Nat} {v m x : Nat} : x ∈ its f v m ↔ ∃ j, j < m ∧ itr f v j = x := by simp [its]
theorem its_lt {f : Nat → Nat} {n v m : Nat} (hf : ∀ v, v < n → f v < n) (hv : v < n) : ∀ x ∈ its f v m, x < n := by
  intro x hx
  obtain ⟨j, _, rfl⟩ := its_mem.1 hx
  exact itr_lt hf hv j

/-- A play: a prefix and a loop of iterates, which are different. -/
structure IsPlay (f : Nat → Nat) (v n : Nat) (p l : List Int) (m k : Nat) : Prop where
  km : k < m
  mn : m ≤ n
  nd : (its f v m).Nodup
  back : itr f v m = itr f v k
  p : p = natI ((its f v m).take k)
  l : l = natI ((its f v m).drop k)

theorem natI_inj {l : List Nat} {i : Nat} {v : Nat} (h : (natI l)[i]? = some (v : Int)) : l[i]? = some v := by
  rw [List.getElem?_map] at h
  cases h1 : l[i]? with
  | none => rw [h1] at h; cases h
  | some a =>
    rw [h1] at h
    have : (a : Int) = v := by simpa using h
    rw [show a = v by omega]

theorem playL_spec {st : List Int} {f : Nat → Nat} {n v : Nat} (hst : ∀ v, v < n → st[v]? = some ((f v : Nat) : Int)) (hf : ∀ v, v < n → f v < n) (hv : v < n) :
    ∀ (fuel m : Nat), m + fuel = n + 1 → (its f v m).Nodup → ∃ m' k, m ≤ m' ∧ IsPlay f v n (playL st fuel (itr f v m : Nat) (natI (its f v m))).1 (playL st fuel (itr f v m : Nat) (natI (its f v m))).2 m' k
  | 0, m, hm, hnd => by
    have := nodup_lenN n _ hnd (its_lt hf hv)
    rw [its_len] at this
    omega
  | fuel + 1, m, hm, hnd => by
    have hlen := nodup_lenN n _ hnd (its_lt hf hv)
    rw [its_len] at hlen
    unfold playL
    rcases idxI_spec (itr f v m : Nat) (natI (its f v m)) 0 with ⟨h1, h2⟩ | ⟨i, h1, h2, h3⟩
    · rw [h2, if_neg (by omega)]
      have hn : itr f v m ∉ its f v m := fun h => h1 (mem_natI.2 h)
      have e1 : st.getD (itr f v m : Int).toNat 0 = ((itr f v (m + 1) : Nat) : Int) := by
        rw [Int.toNat_natCast, List.getD, hst _ (itr_lt hf hv m)]; rfl
      have e2 : natI (its f v m) ++ [((itr f v m : Nat) : Int)] = natI (its f v (m + 1)) := by rw [its_succ]; simp
      rw [e1, e2]
      have hnd' : (its f v (m + 1)).Nodup := by
        rw [its_succ, List.nodup_append]
        exact ⟨hnd, by simp, fun a ha b hb e => by rw [List.mem_singleton] at hb; subst hb; subst e; exact hn ha⟩
      obtain ⟨m', k, h4, h5⟩ := playL_spec hst hf hv fuel (m + 1) (by omega) hnd'
      exact ⟨m', k, by omega, h5⟩
    · rw [h3, if_pos (by omega)]
      have h1' := natI_inj h1
      have hi := getSome_lt h1'
      rw [its_len] at hi
      rw [its_get hi] at h1'
      refine ⟨m, i, Nat.le_refl _, hi, hlen, hnd, ?_, ?_, ?_⟩
      · simp only [Option.some.injEq] at h1'; exact h1'.symm
      · simp [natI, List.map_take]
      · simp [natI, List.map_drop]
theorem play_spec {st : List Int} {f : Nat → Nat} {n v : Nat} (hst : ∀ v, v < n → st[v]? = some ((f v : Nat) : Int)) (hf : ∀ v, v < n → f v < n) (hv : v < n) :
    ∃ m k, IsPlay f v n (playL st (n + 1) v []).1 (playL st (n + 1) v []).2 m k := by
  obtain ⟨m, k, _, h⟩ := playL_spec hst hf hv (n + 1) 0 (by omega) (by simp [its])
  exact ⟨m, k, h⟩

/-- Falling ranks end at zero within the play. -/
theorem fall {f : Nat → Nat} {n v : Nat} {R : Nat → Int} (hf : ∀ v, v < n → f v < n) (hv : v < n) (hR : ∀ v, v < n → 0 < R v → 0 ≤ R (f v) ∧ R (f v) < R v) (h0 : 0 ≤ R v) :
    ∃ i : Nat, (i : Int) ≤ R v ∧ R (itr f v i) = 0 ∧ ∀ a b : Nat, a < b → b ≤ i → R (itr f v b) < R (itr f v a) := by
  have key : ∀ (d : Nat) (v : Nat), v < n → R v = d → ∃ i : Nat, (i : Int) ≤ R v ∧ R (itr f v i) = 0 ∧ (∀ a : Nat, a < i → R (itr f v (a + 1)) < R (itr f v a)) := by
    intro d
    induction d using Nat.strongRecOn with
    | ind d ih =>
      intro v hv hd
      rcases Nat.eq_zero_or_pos d with e | e
      · exact ⟨0, by omega, by show R v = 0; omega, fun a h => by omega⟩
      · obtain ⟨h1, h2⟩ := hR v hv (by omega)
        obtain ⟨i, h3, h4, h5⟩ := ih (R (f v)).toNat (by omega) (f v) (hf v hv) (by omega)
        have sh : ∀ j, itr f (f v) j = itr f v (j + 1) := by
          intro j
          induction j with
          | zero => rfl
          | succ j ih => show f _ = f _; rw [ih]
        refine ⟨i + 1, by omega, by rw [← sh]; exact h4, fun a ha => ?_⟩
        cases a with
        | zero => exact h2
        | succ a =>
          have := h5 a (by omega)
          rw [sh, sh] at this
          exact this
  obtain ⟨i, h1, h2, h3⟩ := key (R v).toNat v hv (by omega)
  refine ⟨i, h1, h2, fun a b hab hb => ?_⟩
  obtain ⟨d, rfl⟩ : ∃ d, b = a + 1 + d := ⟨b - a - 1, by omega⟩
  clear hab
  induction d with
  | zero => exact h3 a (by omega)
  | succ d ih =>
    have := ih (by omega)
    have := h3 (a + 1 + d) (by omega)
    rw [show a + 1 + (d + 1) = a + 1 + d + 1 by omega]
    omega
theorem IsPlay.fall {f : Nat → Nat} {n v m k : Nat} {R : Nat → Int} {p l : List Int} (h : IsPlay f v n p l m k) (hf : ∀ v, v < n → f v < n) (hv : v < n) (hR : ∀ v, v < n → 0 < R v → 0 ≤ R (f v) ∧ R (f v) < R v) (h0 : 0 ≤ R v) :
    ∃ (i : Nat) (x : Nat), (i : Int) ≤ R v ∧ (p ++ l)[i]? = some (x : Int) ∧ x < n ∧ R x = 0 := by
  obtain ⟨i, h1, h2, h3⟩ := Ar.fall hf hv hR h0
  have him : i < m := by
    rcases Nat.lt_or_ge i m with q | q
    · exact q
    · have := h3 k m h.km q
      rw [h.back] at this
      omega
  refine ⟨i, itr f v i, h1, ?_, itr_lt hf hv i, h2⟩
  rw [h.p, h.l, ← List.map_append, List.take_append_drop, List.getElem?_map, its_get him]
  rfl
theorem IsPlay.len {f : Nat → Nat} {n v m k : Nat} {p l : List Int} (h : IsPlay f v n p l m k) : p.length = k ∧ l.length = m - k := by
  rw [h.p, h.l]
  simp [its_len]
  have := h.km
  omega
theorem IsPlay.mem {f : Nat → Nat} {n v m k : Nat} {p l : List Int} (h : IsPlay f v n p l m k) (hf : ∀ v, v < n → f v < n) (hv : v < n) : ∀ x ∈ l, 0 ≤ x ∧ x < n := by
  intro x hx
  rw [h.l] at hx
  obtain ⟨y, hy, rfl⟩ := List.mem_map.1 hx
  have := its_lt hf hv y (List.mem_of_mem_drop hy)
  omega
end Go.Am.Ar
