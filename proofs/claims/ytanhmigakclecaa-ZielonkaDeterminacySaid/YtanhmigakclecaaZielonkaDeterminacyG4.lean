/- Contracts: the attractor of the program, and what goes with it. -/
import Derived.Test.YtanhmigakclecaaZielonkaDeterminacyG3
import Derived.Test.YtanhmigakclecaaZielonkaDeterminacyG0
import Derived.Test.YtanhmigakclecaaPmL
set_option linter.unusedVariables false
set_option linter.unusedSimpArgs false
set_option maxRecDepth 10000
namespace Go.Am.Ar
open Go.Am renaming pchk → P1, pold → P2, PKNo → P3, ppack → P4, PObj.under → P5, pput → P6, ptset → P7, ptget → P8, pev → P9, ofAV → P10, ofAV1 → P11, ppad → P12, pfill → P13, prepl → P14, AO.effect → P15
open List renaming replicate → L1
open Nat renaming reduceAdd → N1, reduceSub → N2, reduceMul → N3, reduceLT → N4, reduceLeDiff → N5, reduceEqDiff → N6, reduceBEq → N7
open Int renaming reduceToNat → I1, reduceLT → I2, reduceLE → I3, reduceEq → I4, reduceAdd → I5, reduceSub → I6, reduceNeg → I7
theorem tabL_set {n : Nat} {f : Nat → Int} {u : Nat} (x : Int) (h : u < n) : (tabL n f).set u x = tabL n (upd f u x) := tabL_of (by rw [List.length_set, tabL_len]) fun v hv => by
  unfold upd
  by_cases e : v = u
  · subst e; rw [if_pos rfl, set_at (by rw [tabL_len]; exact h)]
  · rw [if_neg e, set_low e, tabL_get hv]
theorem need_get {len side o : Int} (h1 : 0 ≤ side) (h2 : side ≤ 1) (h3 : 0 ≤ o) (h4 : o ≤ 1) : ([p64 len, p64 len].set side.toNat (p64 1))[o.toNat]? = some (p64 (if o = side then 1 else len)) := by
  have e1 : side = 0 ∨ side = 1 := by omega
  have e2 : o = 0 ∨ o = 1 := by omega
  rcases e1 with rfl | rfl <;> rcases e2 with rfl | rfl <;> rfl
theorem lp_is {lp : PLoop} {B : AC} (h1 : lp.state = .ready) (h2 : lp.pending = none) (hB : lp.body = B) : (⟨.ready, none, lp.tmps, lp.params, lp.assign, B⟩ : PLoop) = lp := by
  cases lp; simp_all
theorem under_rows (m n : Nat) (f : Nat → List Int) : underL m (tabA n fun u => slI false true .i64 (f u)) = true := (underL_iff m _).2 fun v hv => by
  obtain ⟨u, _, rfl⟩ := tabA_mem hv
  exact under_slI _ _ _ _ _ _ _
def open0 (ow : List Int) (su : List (List Int)) (side : Int) (v : Nat) : Int := if ow.getD v 0 = side then 1 else ((su.getD v []).length : Int)
theorem Sf_mem {ow pr : List Int} {su : List (List Int)} (V : Valid ow pr su) {v x : Nat} (hv : v < ow.length) : x ∈ Sf su v ↔ (x : Int) ∈ su.getD v [] := by
  constructor
  · intro h
    obtain ⟨w, hw, rfl⟩ := List.mem_map.1 h
    have := (row_ok V hv).2.2 w hw
    rwa [Int.toNat_of_nonneg this.1]
  · exact fun h => List.mem_map.2 ⟨_, h, rfl⟩
theorem not_before {l : List Nat} (hd : l.Nodup) {k u : Nat} (h : l[k]? = some u) : u ∉ l.take k := by
  intro hm
  obtain ⟨j, hj, e⟩ := List.mem_iff_getElem.1 hm
  obtain ⟨hk, e2⟩ := List.getElem?_eq_some_iff.1 h
  have hj2 : j < k := by simp at hj; omega
  rw [List.getElem_take] at e
  exact List.pairwise_iff_getElem.1 hd j k (by omega) hk hj2 (by rw [e, e2])
theorem predN_nodup (su : List (List Int)) (k u : Nat) : (predN su k u).Nodup := List.Pairwise.filter _ List.nodup_range
theorem keep_back {keep : List Int} (h : ∀ x ∈ keep, 0 ≤ x) : keep = (keep.map Int.toNat).map (fun v => ((v : Nat) : Int)) := by
  rw [List.map_map]
  conv => lhs; rw [← List.map_id keep]
  exact List.map_congr_left fun x hx => by have := h x hx; simp only [id, Function.comp]; omega
section
variable {tab : FuncId → Option AF} (T : HasA tab)
include T
theorem attract_p {M : Mem} {K : PV → Mem → Prop} {f1 p1 f2 p2 f3 p3 f4 p4 f5 p5 : Bool} {ow pr keep : List Int} {side : Int} {su : List (List Int)} (B : Bnd ow pr su) (hb : keep.length < big) (hs0 : 0 ≤ side) (ho : ∀ x ∈ ow, 0 ≤ x) (hq : K (attrM ow pr su side keep) M) :
    SemC tab 26 [gmP f1 p1 f2 p2 f3 p3 f4 p4 ow pr su, p8 side, slI f5 p5 .i64 keep] M K := by
  refine SemC_wk ?_
  refine SemC_pure T.h26 (by simp only [PP, P1, P2, P3, P4, P5, P6, P7, P8, P9, P10, P11, P12, P13, P14, L1, P15, N1, N2, N3, N4, N5, N6, N7, I1, I2, I3, I4, I5, I6, I7, reduceIte, reduceCtorEq]) ?_
  simp only [af26, PP, P1, P2, P3, P4, P5, P6, P7, P8, P9, P10, P11, P12, P13, P14, L1, P15, N1, N2, N3, N4, N5, N6, N7, I1, I2, I3, I4, I5, I6, I7, reduceIte, reduceCtorEq, attrM] at hq ⊢
  refine acheck_p T B hb ?_
  simp only [PP, P1, P2, P3, P4, P5, P6, P7, P8, P9, P10, P11, P12, P13, P14, L1, P15, N1, N2, N3, N4, N5, N6, N7, I1, I2, I3, I4, I5, I6, I7, reduceIte, reduceCtorEq]
  refine QIf.intro (fun c1 => ?_) (fun c1 => ?_)
  rotate_left
  · simp only [PP, P1, P2, P3, P4, P5, P6, P7, P8, P9, P10, P11, P12, P13, P14, L1, P15, N1, N2, N3, N4, N5, N6, N7, I1, I2, I3, I4, I5, I6, I7, reduceIte, reduceCtorEq, c1] at hq ⊢
    exact ⟨_, wk_attr _, hq⟩
  simp only [PP, P1, P2, P3, P4, P5, P6, P7, P8, P9, P10, P11, P12, P13, P14, L1, P15, N1, N2, N3, N4, N5, N6, N7, I1, I2, I3, I4, I5, I6, I7, reduceIte, reduceCtorEq, c1] at hq ⊢
  obtain ⟨V, hside, hpm⟩ := wrong_zero c1
  have hs := V.s
  have n1 := V.n1
  have b0 : (0 : Int) ≤ ow.length := by omega
  have b1 : (ow.length : Int) * 8 ≤ 140737488355328 := by omega
  have b2 : (ow.length : Int) ≤ 9223372036854775807 := by omega
  simp only [PP, P1, P2, P3, P4, P5, P6, P7, P8, P9, P10, P11, P12, P13, P14, L1, P15, N1, N2, N3, N4, N5, N6, N7, I1, I2, I3, I4, I5, I6, I7, reduceIte, reduceCtorEq, b0, b1, b2, Int.le_refl]
  refine loop7 (fun (v vr vs vo : Nat) (a1 a2 a3 : List Int) => v ≤ ow.length ∧ a1.length = ow.length ∧ a2.length = ow.length ∧ a3.length = ow.length ∧ ∀ u, u < v → a1[u]? = some (-1) ∧ a2[u]? = some (-1) ∧ a3[u]? = some (open0 ow su side u))
    (fun v vr vs vo a1 a2 a3 => [.junk, p8 side, slI f5 p5 .i64 keep, .ptr 0 0 0, .junk, .junk, .ptr 1 0 0, .ref 3 0 1 0 ow.length, .junk, .junk, .junk, .ptr 5 0 0, .junk, .junk, .junk, .junk, .junk, .junk, .junk, .junk, .junk, .junk, .junk, .junk, .junk, .junk, .junk, .junk, .junk, .junk, .junk, .junk, .junk, .junk, .junk, .junk, .junk, .junk, .junk, p64 ow.length, p64 v, .junk, .junk, .junk, .junk, .junk, .junk, .junk, .junk, .junk, .junk, .junk, .junk, .junk, .junk, .junk, .junk, .junk, .junk, .junk, .junk, .junk, .junk, .junk, .junk, .junk, .junk, .junk, .junk, .junk, .junk, .junk, .junk, .junk, .junk, .junk, .junk, .junk, .junk, .junk, .junk, .junk, .junk, .junk, .junk, .junk, .junk, .junk, .junk, .junk, .junk, .junk, .junk, .junk, .junk, .junk, .junk, .junk, .junk, .junk, .junk, .junk, .junk, .junk, .junk, .junk, .junk, .junk, .junk, .junk, .junk, .junk, .junk, .junk, .junk, .junk, .junk, .junk, .junk, .junk, .junk, .junk, .junk, .junk, .junk, .junk, .junk, .junk, .junk, .junk, .junk, .junk, .junk, .junk, .junk, .junk, .junk, .junk, .junk, .junk, .junk, .junk, .junk, .junk, .junk, .junk, .junk, .junk, .junk, .junk, .junk, .junk, .junk, .junk, .junk, .junk, .junk, .junk, .junk, .junk, .junk, .junk, .junk])
    (fun v vr vs vo a1 a2 a3 => [.cells 0 0 [slI f1 p1 .u8 ow, slI f2 p2 .i64 pr, slR f3 p3 f4 p4 .i64 su], .cells 0 1 [.ref 2 0 1 0 ow.length], .cells 0 vr (a1.map (PV.int .i64)), .cells 0 vs (a2.map (PV.int .i64)), .cells 0 vo (a3.map (PV.int .i64)), .cells 0 1 [.ref 4 0 1 0 ow.length]])
    (fun v _ _ _ _ _ _ => ow.length - v) 0 0 0 0 (List.replicate ow.length 0) (List.replicate ow.length 0) (List.replicate ow.length 0) ⟨by omega, by simp, by simp, by simp, by intro v h; omega⟩ (by simp only [PWeak_nil, PWeak_junk, PWeak_same, Int.cast_ofNat_Int, List.length_append, List.length_cons, List.length_nil, Nat.zero_add]) (by simp only [List.map_replicate]) ?_
  intro v vr vs vo a1 a2 a3 ⟨hle, l1, l2, l3, ha⟩ ih
  refine SemW_go (by kernel_rfl) ?_
  simp only [PP, P1, P2, P3, P4, P5, P6, P7, P8, P9, P10, P11, P12, P13, P14, L1, P15, N1, N2, N3, N4, N5, N6, N7, I1, I2, I3, I4, I5, I6, I7, reduceIte, reduceCtorEq]
  refine QIf.intro (fun c => ?_) (fun c => ?_)
  · have hv : v < ow.length := by omega
    have v0 : (0 : Int) ≤ v := by omega
    have hwv := wrap_succ (k := v) (by show _ < 1000000000000; omega)
    have i1 : v + 1 ≤ ow.length := hv
    have cs : (v : Int) < su.length := by omega
    obtain ⟨row, g1⟩ := some_of (xs := su) (k := v) (by omega)
    obtain ⟨o, g2⟩ := some_of (xs := ow) (k := v) (by omega)
    have o0 : 0 ≤ o := ho o (List.mem_of_getElem? g2)
    have o1 : o ≤ 1 := by
      obtain ⟨_, _, q, _⟩ := V.row v (by omega)
      rwa [getD_some g2] at q
    have g3 := need_get (len := row.length) hs0 hside o0 o1
    have e0 : open0 ow su side v = if o = side then 1 else (row.length : Int) := by
      unfold open0; rw [getD_some g2, show su.getD v [] = row by simp [List.getD, g1]]
    have s2 : side < 2 := by omega
    have o2 : o < 2 := by omega
    have s3 : side.toNat + 1 ≤ 2 := by omega
    simp only [PP, P1, P2, P3, P4, P5, P6, P7, P8, P9, P10, P11, P12, P13, P14, L1, P15, N1, N2, N3, N4, N5, N6, N7, I1, I2, I3, I4, I5, I6, I7, reduceIte, reduceCtorEq, c, v0, l1, l2, l3, i1, cs, g1, g2, hs0, s2, s3, o0, o2, g3, hwv]
    refine SemW_re (GStep.drop (b := [.junk, p8 side, slI f5 p5 .i64 keep, .ptr 0 0 0, .junk, .junk, .ptr 1 0 0, .ref 3 0 1 0 ow.length, .junk, .junk, .junk, .ptr 5 0 0, .junk, .junk, .junk, .junk, .junk, .junk, .junk, .junk, .junk, .junk, .junk, .junk, .junk, .junk, .junk, .junk, .junk, .junk, .junk, .junk, .junk, .junk, .junk, .junk, .junk, .junk, .junk, p64 ow.length, p64 ((v + 1 : Nat) : Int), .junk, .junk, .junk, .junk, .junk, .junk, .junk, .junk, .junk, .junk, .junk, .junk, .junk, .junk, .junk, .junk, .junk, .junk, .junk, .junk, .junk, .junk, .junk, .junk, .junk, .junk, .junk, .junk, .junk, .junk, .junk, .junk, .junk, .junk, .junk, .junk, .junk, .junk, .junk, .junk, .junk, .junk, .junk, .junk, .junk, .junk, .junk, .junk, .junk, .junk, .junk, .junk, .junk, .junk, .junk, .junk, .junk, .junk, .junk, .junk, .junk, .junk, .junk, .junk, .junk, .junk, .junk, .junk, .junk, .junk, .junk, .junk, .junk, .junk, .junk, .junk, .junk, .junk, .junk, .junk, .junk, .junk, .junk, .junk, .junk, .junk, .junk, .junk, .junk, .junk, .junk, .junk, .junk, .junk, .junk, .junk, .junk, .junk, .junk, .junk, .junk, .junk, .junk, .junk, .junk, .junk, .junk, .junk, .junk, .junk, .junk, .junk, .junk, .junk, .junk, .junk, .junk, .junk, .junk, .junk, .junk, .junk]) 6 (Nat.zero_le _) (by simp) (by simp only [PWeak_nil, PWeak_junk, PWeak_same, Int.cast_ofNat_Int, List.length_append, List.length_cons, List.length_nil, Nat.zero_add]) (by simp only [PP, P1, P2, P3, P4, P5, P6, P7, P8, P9, P10, P11, P12, P13, P14, L1, P15, N1, N2, N3, N4, N5, N6, N7, I1, I2, I3, I4, I5, I6, I7, reduceIte, reduceCtorEq]) (by simp only [← List.map_set, PP, P1, P2, P3, P4, P5, P6, P7, P8, P9, P10, P11, P12, P13, P14, L1, P15, N1, N2, N3, N4, N5, N6, N7, I1, I2, I3, I4, I5, I6, I7, reduceIte, reduceCtorEq]) rfl) ?_
    refine SemW_to (ih (v + 1) (vr + 1) (vs + 1) (vo + 1) (a1.set v (-1)) (a2.set v (-1)) (a3.set v (open0 ow su side v)) ⟨by omega, by simp [l1], by simp [l2], by simp [l3], fun u hu => ?_⟩ (by omega)) (by simp only [PWeak_nil, PWeak_junk, PWeak_same, Int.cast_ofNat_Int, List.length_append, List.length_cons, List.length_nil, Nat.zero_add]) (by simp only [← List.map_set, e0, PP, P1, P2, P3, P4, P5, P6, P7, P8, P9, P10, P11, P12, P13, P14, L1, P15, N1, N2, N3, N4, N5, N6, N7, I1, I2, I3, I4, I5, I6, I7, reduceIte, reduceCtorEq])
    by_cases e : u = v
    · subst e; exact ⟨set_at (by omega), set_at (by omega), set_at (by omega)⟩
    · rw [set_low e, set_low e, set_low e]; exact ha u (by omega)
  · have hvn : v = ow.length := by omega
    subst hvn
    have ha1 := tabL_of (R := fun _ => -1) l1 (fun u hu => (ha u hu).1)
    have ha2 := tabL_of (R := fun _ => -1) l2 (fun u hu => (ha u hu).2.1)
    have ha3 := tabL_of l3 (fun u hu => (ha u hu).2.2)
    subst ha1 ha2 ha3
    simp only [PP, P1, P2, P3, P4, P5, P6, P7, P8, P9, P10, P11, P12, P13, P14, L1, P15, N1, N2, N3, N4, N5, N6, N7, I1, I2, I3, I4, I5, I6, I7, reduceIte, reduceCtorEq, c]
    refine SemW_re (GStep.nilbox 6 0 1 rfl rfl rfl) ?_
    simp only [List.length_cons, List.length_nil, List.set_cons_zero, List.set_cons_succ, List.cons_append, List.nil_append, Nat.reduceAdd]
    obtain ⟨hrise, hrange⟩ := posM_rise hpm
    refine loop4 (fun (k vr vb g : Nat) => k ≤ keep.length)
      (fun k vr vb g => [.junk, p8 side, .junk, .ptr 0 0 0, .junk, .junk, .ptr 1 0 0, .ref 3 0 1 0 ow.length, .junk, .junk, .junk, .ptr 5 0 0, .junk, .junk, .ptr 6 0 0, .ptr 7 0 0, .junk, .junk, .junk, .junk, .junk, .junk, .junk, .junk, .junk, .junk, .junk, .junk, .junk, .junk, .junk, .junk, .junk, .junk, .junk, .junk, .junk, .junk, .junk, .junk, .junk, .junk, .junk, .junk, .junk, .junk, .junk, .junk, .junk, .junk, .junk, .junk, .junk, .junk, .junk, .junk, .junk, .junk, .junk, .junk, .junk, .junk, .junk, .junk, .junk, .junk, .junk, .junk, .junk, .junk, .junk, .junk, .junk, .junk, .junk, .junk, slI f5 p5 .i64 keep, p64 keep.length, p64 k, .junk, .junk, .junk, .junk, .junk, .junk, .junk, .junk, .junk, .junk, .junk, .junk, .junk, .junk, .junk, .junk, .junk, .junk, .junk, .junk, .junk, .junk, .junk, .junk, .junk, .junk, .junk, .junk, .junk, .junk, .junk, .junk, .junk, .junk, .junk, .junk, .junk, .junk, .junk, .junk, .junk, .junk, .junk, .junk, .junk, .junk, .junk, .junk, .junk, .junk, .junk, .junk, .junk, .junk, .junk, .junk, .junk, .junk, .junk, .junk, .junk, .junk, .junk, .junk, .junk, .junk, .junk, .junk, .junk, .junk, .junk, .junk, .junk, .junk, .junk, .junk, .junk, .junk, .junk, .junk, .junk, .junk, .junk, .junk])
      (fun k vr vb g => [.cells 0 0 [slI f1 p1 .u8 ow, slI f2 p2 .i64 pr, slR f3 p3 f4 p4 .i64 su], .cells 0 1 [.ref 2 0 1 0 ow.length], .cells 0 vr ((tabL ow.length fun v => if (v : Int) ∈ keep.take k then 0 else -1).map (PV.int .i64)), .cells 0 vs ((tabL ow.length fun _ => -1).map (PV.int .i64)), .cells 0 vo ((tabL ow.length (open0 ow su side)).map (PV.int .i64)), .cells 0 1 [.ref 4 0 1 0 ow.length], .cells 0 vb [.ref 8 g 1 0 (keep.take k).length], .cells 0 1 [.func (.func 48) [] [.ptr 1 0 0, .ptr 6 0 0]], .cells g 0 ((keep.take k).map (PV.int .i64))])
      (fun k _ _ _ => keep.length - k) 0 vr 0 0 (by omega) (by simp only [PWeak_nil, PWeak_junk, PWeak_same, Int.cast_ofNat_Int, List.length_append, List.length_cons, List.length_nil, Nat.zero_add]) (by simp only [List.take_zero, List.not_mem_nil, if_false, List.map_nil, List.length_nil]) ?_
    intro k vr vb g hkle ih
    refine SemW_go (by kernel_rfl) ?_
    simp only [PP, P1, P2, P3, P4, P5, P6, P7, P8, P9, P10, P11, P12, P13, P14, L1, P15, N1, N2, N3, N4, N5, N6, N7, I1, I2, I3, I4, I5, I6, I7, reduceIte, reduceCtorEq]
    refine QIf.intro (fun d => ?_) (fun d => ?_)
    · have hk : k < keep.length := by omega
      have k0 : (0 : Int) ≤ k := by omega
      have hkb : keep.length < 1000000000000 := hb
      have hwk := wrap_succ (k := k) (by show _ < 1000000000000; omega)
      obtain ⟨x, e3⟩ := some_of hk
      obtain ⟨x0, x1⟩ := hrange x (List.mem_of_getElem? e3)
      have x0 : 0 ≤ x := by omega
      have xn : x.toNat + 1 ≤ ow.length := by omega
      have hlk : (keep.take k).length = k := by simp; omega
      have b3 : (k + 1) * 8 ≤ 140737488355328 := by omega
      have b4 : k + 1 ≤ 9223372036854775807 := by omega
      simp only [PP, P1, P2, P3, P4, P5, P6, P7, P8, P9, P10, P11, P12, P13, P14, L1, P15, N1, N2, N3, N4, N5, N6, N7, I1, I2, I3, I4, I5, I6, I7, reduceIte, reduceCtorEq, d, k0, e3]
      refine SemC_fn T.h48 ?_
      simp only [af48, PP, P1, P2, P3, P4, P5, P6, P7, P8, P9, P10, P11, P12, P13, P14, L1, P15, N1, N2, N3, N4, N5, N6, N7, I1, I2, I3, I4, I5, I6, I7, reduceIte, reduceCtorEq, x0, x1, xn, tabL_len, hlk, b3, b4, hwk]
      have hps : psub (List.map (PV.int .i64) (keep.take k)) 0 k = List.map (PV.int .i64) (keep.take k) := psub_all _ _ (by rw [List.length_map, hlk])
      have hset : ((tabL ow.length fun v => if (v : Int) ∈ keep.take k then 0 else -1).map (PV.int .i64)).set x.toNat (PV.int .i64 0) = (tabL ow.length fun v => if (v : Int) ∈ keep.take (k + 1) then 0 else -1).map (PV.int .i64) := by
        rw [← List.map_set]
        congr 1
        refine tabL_of (by rw [List.length_set, tabL_len]) fun v hv => ?_
        rw [take_some e3]
        by_cases e : v = x.toNat
        · subst e; rw [set_at (by rw [tabL_len]; omega), if_pos (List.mem_append_right _ (by simp; omega))]
        · rw [set_low e, tabL_get hv]
          have hiff : (v : Int) ∈ keep.take k ++ [x] ↔ (v : Int) ∈ keep.take k := by
            rw [List.mem_append, List.mem_singleton]
            exact ⟨fun h => h.elim id fun q => absurd (by omega) e, .inl⟩
          simp only [hiff]
      rw [hps, hset]
      have hlk2 : (keep.take (k + 1)).length = k + 1 := by simp; omega
      refine SemW_to (ih (k + 1) (vr + 1) (vb + 1) (g + 1) (by omega) (by omega)) (by simp only [PWeak_nil, PWeak_junk, PWeak_same, Int.cast_ofNat_Int, List.length_append, List.length_cons, List.length_nil, Nat.zero_add]) (by
        simp only [hlk2]
        simp only [take_some e3, List.map_append, List.map_cons, List.map_nil])
    · have hkl : keep.take k = keep := List.take_of_length_le (by omega)
      rw [hkl]
      simp only [PP, P1, P2, P3, P4, P5, P6, P7, P8, P9, P10, P11, P12, P13, P14, L1, P15, N1, N2, N3, N4, N5, N6, N7, I1, I2, I3, I4, I5, I6, I7, reduceIte, reduceCtorEq, d]
      refine predecessors_p T V B (by simp only [cutOk, PP, P1, P2, P3, P4, P5, P6, P7, P8, P9, P10, P11, P12, P13, P14, L1, P15, N1, N2, N3, N4, N5, N6, N7, I1, I2, I3, I4, I5, I6, I7, reduceIte, reduceCtorEq]) fun vp => ?_
      simp only [PP, P1, P2, P3, P4, P5, P6, P7, P8, P9, P10, P11, P12, P13, P14, L1, P15, N1, N2, N3, N4, N5, N6, N7, I1, I2, I3, I4, I5, I6, I7, reduceIte, reduceCtorEq]
      have hinit : ∀ y, BI ow.length (fun v => Pf ow side v = true) (Sf su) (rkOf ow su side keep) 0 y [] ⟨fun v => if (v : Int) ∈ keep then 0 else -1, open0 ow su side, keep.map Int.toNat⟩ := by
        have hR : IsRank ow.length (fun v => Pf ow side v = true) (Sf su) (fun v => Zf keep v = true) (rkOf ow su side keep) := rk_isRank fun v hv => ⟨(Sf_ok V hv).1, (Sf_ok V hv).2.1⟩
        have hmk : ∀ v, v ∈ keep.map Int.toNat ↔ (v : Int) ∈ keep := fun v => by
          constructor
          · intro h
            obtain ⟨w, hw, rfl⟩ := List.mem_map.1 h
            rwa [Int.toNat_of_nonneg (by have := hrange w hw; omega)]
          · exact fun h => List.mem_map.2 ⟨_, h, rfl⟩
        have hz : ∀ v, v < ow.length → (rkOf ow su side keep v = 0 ↔ (v : Int) ∈ keep) := fun v hv => by rw [hR.z v hv]; unfold Zf; exact decide_eq_true_iff
        have hq0 : ∀ v ∈ keep.map Int.toNat, v < ow.length ∧ rkOf ow su side keep v = 0 := fun v hv => by
          have h1 := (hmk v).1 hv
          have h2 := hrange _ h1
          have h3 : v < ow.length := by omega
          exact ⟨h3, (hz v h3).2 h1⟩
        intro y
        refine ⟨fun v hv => ?_, fun v hv hq => if_neg fun h => hq ((hmk v).2 h), ?_, fun v hv h => (hmk v).2 ((hz v hv).1 h), ?_, fun v hv a ha => ?_, fun u hu hq hp => ?_, fun u hu hq hp => ?_⟩
        · obtain ⟨h1, h2⟩ := hq0 v hv
          exact ⟨h1, by rw [h2]; exact if_pos ((hmk v).1 hv), by omega⟩
        · refine List.pairwise_map.2 (List.Pairwise.imp_of_mem ?_ hrise)
          intro a b ha hb hab e
          have := hrange a ha; have := hrange b hb; omega
        · refine List.Pairwise.imp_of_mem (R := fun _ _ => True) ?_ (List.pairwise_of_forall fun _ _ => trivial)
          intro a b ha hb _
          rw [(hq0 a ha).2, (hq0 b hb).2]; exact Int.le_refl _
        · rw [(hq0 v hv).2, (hq0 a (List.mem_of_getElem? ha)).2]; omega
        · refine ⟨if_pos (by simpa [Pf] using hp), by simp, by simp⟩
        · have e : open0 ow su side u = ((Sf su u).length : Int) := by
            unfold open0 Sf; rw [List.length_map, if_neg (by simpa [Pf] using hp)]
          have e2 : ((Sf su u).filter fun w => decide (w ∉ (keep.map Int.toNat).take 0 ∧ ¬ (w = y ∧ u ∈ ([] : List Nat)))) = Sf su u := List.filter_eq_self.2 fun w _ => by simp
          have e3 := List.length_pos_iff.2 (Sf_ok V hu).1
          refine ⟨by rw [e2]; exact e, ?_⟩
          show 0 < open0 ow su side u
          omega
      have hS : ∀ v, v < ow.length → (∀ u ∈ Sf su v, u < ow.length) ∧ (Sf su v).Nodup := fun v hv => (Sf_ok V hv).2
      have hS2 : ∀ v, v < ow.length → Sf su v ≠ [] ∧ ∀ u ∈ Sf su v, u < ow.length := fun v hv => ⟨(Sf_ok V hv).1, (Sf_ok V hv).2.1⟩
      have hR : IsRank ow.length (fun v => Pf ow side v = true) (Sf su) (fun v => Zf keep v = true) (rkOf ow su side keep) := rk_isRank hS2
      have hkm : keep = (keep.map Int.toNat).map (fun v => ((v : Nat) : Int)) := keep_back fun x hx => by have := hrange x hx; omega
      refine loop7 (fun (i : Nat) (s : BSt) (vr vo vb g v19 : Nat) => i ≤ s.q.length ∧ ∀ y, BI ow.length (fun v => Pf ow side v = true) (Sf su) (rkOf ow su side keep) i y [] s)
        (fun i s vr vo vb g v19 => [.junk, p8 side, .junk, .ptr 0 0 0, .junk, .junk, .ptr 1 0 0, .ref 3 0 1 0 ow.length, .junk, .junk, .junk, .ptr 5 0 0, .junk, .junk, .ptr 6 0 0, .ptr 7 0 0, .junk, .junk, .func (.func 66) [] [.ptr 11 0 0], .ptr 12 0 0, .junk, .junk, .junk, .junk, .junk, .junk, .junk, .junk, .junk, .junk, .junk, .junk, .junk, .junk, .junk, .junk, .junk, .junk, .junk, .junk, .junk, .junk, .junk, .junk, .junk, .junk, .junk, .junk, .junk, .junk, .junk, .junk, .junk, .junk, .junk, .junk, .junk, .junk, .junk, .junk, .junk, .junk, .junk, .junk, .junk, .junk, .junk, .junk, .junk, .junk, .junk, .junk, .junk, .junk, .junk, .junk, .junk, .junk, .junk, .junk, .junk, .junk, .junk, .junk, .junk, .junk, .junk, .junk, .junk, .junk, .junk, .junk, .junk, .junk, .junk, .junk, .junk, .junk, .junk, .junk, .junk, .junk, .junk, .junk, .junk, .junk, .junk, .junk, .junk, .junk, .junk, .junk, .junk, .junk, .junk, .junk, .junk, .junk, .junk, .junk, .junk, .junk, .junk, .junk, .junk, .junk, .junk, .junk, .junk, .junk, .junk, .junk, .junk, .junk, .junk, .junk, .junk, .junk, .junk, .junk, .junk, .junk, .junk, .junk, .junk, .junk, .junk, .junk, .junk, .junk, .junk, .junk, .junk, .junk, .junk, .junk, .junk, .junk, .junk, .junk, .junk, .junk, .junk])
        (fun i s vr vo vb g v19 => [.cells 0 0 [slI f1 p1 .u8 ow, slI f2 p2 .i64 pr, slR f3 p3 f4 p4 .i64 su], .cells 0 1 [.ref 2 0 1 0 ow.length], .cells 0 vr ((tabL ow.length s.c).map (PV.int .i64)), .cells 0 vs ((tabL ow.length fun _ => -1).map (PV.int .i64)), .cells 0 vo ((tabL ow.length s.op).map (PV.int .i64)), .cells 0 1 [.ref 4 0 1 0 ow.length], .cells 0 vb [.ref 8 g 1 0 s.q.length], .cells 0 1 [.func (.func 48) [] [.ptr 1 0 0, .ptr 6 0 0]], .cells g 0 ((s.q.map fun v => ((v : Nat) : Int)).map (PV.int .i64)), .cells 0 0 [slI f1 p1 .u8 ow, slI f2 p2 .i64 pr, slR f3 p3 f4 p4 .i64 su], .cells 0 vp (tabA ow.length fun u => slI false true .i64 (predI su ow.length u)), .cells 0 1 [.ref 10 0 1 0 ow.length], .cells 0 v19 [p64 i]])
        (fun i s _ _ _ _ _ => ow.length - i) 0 ⟨fun v => if (v : Int) ∈ keep then 0 else -1, open0 ow su side, keep.map Int.toNat⟩ vr vo vb g 1 ⟨by omega, hinit⟩ (by simp only [PWeak_nil, PWeak_junk, PWeak_same, Int.cast_ofNat_Int, List.length_append, List.length_cons, List.length_nil, Nat.zero_add]) (by simp only [List.length_map, ← hkm, Int.cast_ofNat_Int]) ?_
      intro i s vr vo vb g v19 ⟨hil, I⟩ ih
      refine SemW_loop (by kernel_rfl) ?_
      refine SemW_seq ?_
      refine SemW_of ?_
      simp only [PP, P1, P2, P3, P4, P5, P6, P7, P8, P9, P10, P11, P12, P13, P14, L1, P15, N1, N2, N3, N4, N5, N6, N7, I1, I2, I3, I4, I5, I6, I7, reduceIte, reduceCtorEq]
      refine QIf.intro (fun e1 => ?_) (fun e1 => ?_)
      · have hi : i < s.q.length := by omega
        have i0 : (0 : Int) ≤ i := by omega
        obtain ⟨x, gx⟩ := some_of hi
        obtain ⟨xn, hcx, hx0⟩ := (I 0).a1 x (List.mem_of_getElem? gx)
        have xn' : (x : Int) < ow.length := by omega
        have x0 : (0 : Int) ≤ x := by omega
        have gt := tabA_get (f := fun u => slI false true .i64 (predI su ow.length u)) xn
        simp only [PP, P1, P2, P3, P4, P5, P6, P7, P8, P9, P10, P11, P12, P13, P14, L1, P15, N1, N2, N3, N4, N5, N6, N7, I1, I2, I3, I4, I5, I6, I7, reduceIte, reduceCtorEq, e1]
        refine SemW_seq ?_
        refine SemW_of ?_
        simp only [PP, P1, P2, P3, P4, P5, P6, P7, P8, P9, P10, P11, P12, P13, P14, L1, P15, N1, N2, N3, N4, N5, N6, N7, I1, I2, I3, I4, I5, I6, I7, reduceIte, reduceCtorEq, e1, i0, gx]
        refine SemC_fn T.h66 ?_
        simp only [af66, PP, P1, P2, P3, P4, P5, P6, P7, P8, P9, P10, P11, P12, P13, P14, L1, P15, N1, N2, N3, N4, N5, N6, N7, I1, I2, I3, I4, I5, I6, I7, reduceIte, reduceCtorEq, x0, xn', gt]
        refine SemC_fn T.h67 ?_
        simp only [af67, PP, P1, P2, P3, P4, P5, P6, P7, P8, P9, P10, P11, P12, P13, P14, L1, P15, N1, N2, N3, N4, N5, N6, N7, I1, I2, I3, I4, I5, I6, I7, reduceIte, reduceCtorEq]
        refine SemW_rangeN rfl fun lp q1 q2 q3 q4 q5 q6 => ?_
        simp only [PP, P1, P2, P3, P4, P5, P6, P7, P8, P9, P10, P11, P12, P13, P14, L1, P15, N1, N2, N3, N4, N5, N6, N7, I1, I2, I3, I4, I5, I6, I7, reduceIte, reduceCtorEq]
        have hbp : (predI su ow.length x).length < big := by
          have := predI_len su ow.length x
          show _ < 1000000000000
          omega
        refine values_p T (f := false) (o := true) (fun k N => ∃ s' vr vo vb g ver, N = [.cells 0 0 [slI f1 p1 .u8 ow, slI f2 p2 .i64 pr, slR f3 p3 f4 p4 .i64 su], .cells 0 1 [.ref 2 0 1 0 ow.length], .cells 0 vr ((tabL ow.length (BSt.c s')).map (PV.int .i64)), .cells 0 vs ((tabL ow.length fun _ => -1).map (PV.int .i64)), .cells 0 vo ((tabL ow.length s'.op).map (PV.int .i64)), .cells 0 1 [.ref 4 0 1 0 ow.length], .cells 0 vb [.ref 8 g 1 0 s'.q.length], .cells 0 1 [.func (.func 48) [] [.ptr 1 0 0, .ptr 6 0 0]], .cells g 0 ((s'.q.map fun v => ((v : Nat) : Int)).map (PV.int .i64)), .cells 0 0 [slI f1 p1 .u8 ow, slI f2 p2 .i64 pr, slR f3 p3 f4 p4 .i64 su], .cells 0 vp (tabA ow.length fun u => slI false true .i64 (predI su ow.length u)), .cells 0 1 [.ref 10 0 1 0 ow.length], .cells 0 v19 [p64 i], .cells 0 0 [slI false true .i64 (predI su ow.length x)], .loop ver lp] ∧ BI ow.length (fun v => Pf ow side v = true) (Sf su) (rkOf ow su side keep) i x ((predN su ow.length x).take k) s' ∧ s'.q[i]? = some x) hbp ⟨s, vr, vo, vb, g, 0, rfl, I x, gx⟩ ?_ ?_ ?_
        · rintro k N ⟨s', vr, vo, vb, g, ver, rfl, I', gx'⟩
          exact ⟨rfl, _, _, rfl⟩
        · rintro k N uI ⟨s', vr, vo, vb, g, ver, rfl, I', gx'⟩ hu K' hK'
          obtain ⟨u, gu, rfl⟩ : ∃ u, (predN su ow.length x)[k]? = some u ∧ ((u : Nat) : Int) = uI := by
            unfold predI at hu
            rw [List.getElem?_map] at hu
            cases h : (predN su ow.length x)[k]? with
            | none => rw [h] at hu; cases hu
            | some u => rw [h] at hu; cases hu; exact ⟨u, rfl, rfl⟩
          refine SemY_run (ver := ver) (r := lp) rfl (by rw [q4]; rfl) ?_
          rw [q3, q4, q5]
          refine SemW_of ?_
          simp only [psetAll, PP, P1, P2, P3, P4, P5, P6, P7, P8, P9, P10, P11, P12, P13, P14, L1, P15, N1, N2, N3, N4, N5, N6, N7, I1, I2, I3, I4, I5, I6, I7, reduceIte, reduceCtorEq]
          refine ⟨ver, lp, rfl, q1, ?_⟩
          rw [q6]
          refine SemW_of ?_
          have hup : u < ow.length ∧ (x : Int) ∈ su.getD u [] := by
            have hm := List.mem_filter.1 (List.mem_of_getElem? gu)
            exact ⟨List.mem_range.1 hm.1, of_decide_eq_true hm.2⟩
          obtain ⟨hun, hxsu⟩ := hup
          have hxS : x ∈ Sf su u := List.mem_map.2 ⟨(x : Int), hxsu, rfl⟩
          have hud : u ∉ (predN su ow.length x).take k := not_before (predN_nodup _ _ _) gu
          have Inew := I'.step hR hS gx' hun hxS hud
          rw [← take_some gu] at Inew
          have hlp : ∀ B, lp.body = B → (⟨.ready, none, lp.tmps, lp.params, lp.assign, B⟩ : PLoop) = lp := fun B hB => lp_is q1 q2 hB
          have u0 : (0 : Int) ≤ u := by omega
          have un : (u : Int) < ow.length := by omega
          have un' : u + 1 ≤ ow.length := hun
          have gc := tabL_get (R := s'.c) hun
          have go := tabL_get (R := s'.op) hun
          simp only [PP, P1, P2, P3, P4, P5, P6, P7, P8, P9, P10, P11, P12, P13, P14, L1, P15, N1, N2, N3, N4, N5, N6, N7, I1, I2, I3, I4, I5, I6, I7, reduceIte, reduceCtorEq, u0, un, gc, tabL_len]
          refine QIf.intro (fun d1 => ?_) (fun d1 => ?_)
          · simp only [PP, P1, P2, P3, P4, P5, P6, P7, P8, P9, P10, P11, P12, P13, P14, L1, P15, N1, N2, N3, N4, N5, N6, N7, I1, I2, I3, I4, I5, I6, I7, reduceIte, reduceCtorEq, d1]
            refine ⟨_, _, rfl, ?_⟩
            rw [if_pos rfl]
            refine hK' _ ⟨s', vr, vo, vb, g, ver + 1 + 1, ?_, ?_, gx'⟩
            · simp only [PP, P1, P2, P3, P4, P5, P6, P7, P8, P9, P10, P11, P12, P13, P14, L1, P15, N1, N2, N3, N4, N5, N6, N7, I1, I2, I3, I4, I5, I6, I7, reduceIte, reduceCtorEq, hlp _ q6]
            · have e : stepU x s' u = s' := by unfold stepU; rw [if_pos d1]
              rwa [e] at Inew
          · have hop : 1 ≤ s'.op u ∧ s'.op u ≤ 1000000000000 := by
              have huq : u ∉ s'.q := fun h => d1 (by have := I'.a1 u h; omega)
              by_cases hp : Pf ow side u = true
              · have := (I'.cP u hun huq hp).1; omega
              · obtain ⟨h1, h2⟩ := I'.cO u hun huq hp
                have h3 := List.length_filter_le (fun w => decide (w ∉ s'.q.take i ∧ ¬ (w = x ∧ u ∈ (predN su ow.length x).take k))) (Sf su u)
                have h4 : (Sf su u).length ≤ ow.length := nodup_lenN _ _ (Sf_ok V hun).2.2 (Sf_ok V hun).2.1
                omega
            have w1 : IntKind.i64.wrap (s'.op u - 1) = s'.op u - 1 := wrap64 (by omega) (by omega)
            have gx2 := gx'
            obtain ⟨_, hcx', _⟩ := I'.a1 x (List.mem_of_getElem? gx')
            have gcx := tabL_get (R := s'.c) xn
            have go2 := tabL_get (R := upd s'.op u (s'.op u - 1)) hun
            have gu2 : upd s'.op u (s'.op u - 1) u = s'.op u - 1 := by unfold upd; rw [if_pos rfl]
            simp only [PP, P1, P2, P3, P4, P5, P6, P7, P8, P9, P10, P11, P12, P13, P14, L1, P15, N1, N2, N3, N4, N5, N6, N7, I1, I2, I3, I4, I5, I6, I7, reduceIte, reduceCtorEq, d1, u0, un, un', go, tabL_len, w1, ← List.map_set, tabL_set _ hun, go2, gu2]
            refine QIf.intro (fun d2 => ?_) (fun d2 => ?_)
            · simp only [PP, P1, P2, P3, P4, P5, P6, P7, P8, P9, P10, P11, P12, P13, P14, L1, P15, N1, N2, N3, N4, N5, N6, N7, I1, I2, I3, I4, I5, I6, I7, reduceIte, reduceCtorEq, d2]
              have il : (i : Int) < s'.q.length := by have := (List.getElem?_eq_some_iff.1 gx').1; omega
              have w2 : IntKind.i64.wrap (s'.c x + 1) = s'.c x + 1 := by
                have := rk_range (P := Pf ow side) (S := Sf su) (Z := Zf keep) ow.length x
                rw [hcx']
                exact wrap64 (by unfold rkOf; omega) (by unfold rkOf; omega)
              have hql : s'.q.length ≤ ow.length := nodup_lenN ow.length s'.q I'.nd (fun v hv => (I'.a1 v hv).1)
              have b3 : (s'.q.length + 1) * 8 ≤ 140737488355328 := by omega
              have b4 : s'.q.length + 1 ≤ 9223372036854775807 := by omega
              simp only [PP, P1, P2, P3, P4, P5, P6, P7, P8, P9, P10, P11, P12, P13, P14, L1, P15, N1, N2, N3, N4, N5, N6, N7, I1, I2, I3, I4, I5, I6, I7, reduceIte, reduceCtorEq, i0, il, gx', x0, xn', gcx, tabL_len, w2]
              refine SemC_fn T.h48 ?_
              simp only [af48, PP, P1, P2, P3, P4, P5, P6, P7, P8, P9, P10, P11, P12, P13, P14, L1, P15, N1, N2, N3, N4, N5, N6, N7, I1, I2, I3, I4, I5, I6, I7, reduceIte, reduceCtorEq, u0, un, un', tabL_len, b3, b4]
              have hps : psub (List.map (PV.int .i64) (s'.q.map fun v => ((v : Nat) : Int))) 0 s'.q.length = List.map (PV.int .i64) (s'.q.map fun v => ((v : Nat) : Int)) := psub_all _ _ (by simp)
              rw [hps, ← List.map_set, tabL_set _ hun]
              refine ⟨_, _, rfl, ?_⟩
              rw [if_pos rfl]
              have gx3 : (s'.q ++ [u])[i]? = some x := by rw [List.getElem?_append_left (by omega)]; exact gx'
              refine hK' _ ⟨⟨upd s'.c u (s'.c x + 1), upd s'.op u 0, s'.q ++ [u]⟩, vr + 1, vo + 1, vb + 1, g + 1, ver + 1 + 1, ?_, ?_, gx3⟩
              · simp only [PP, P1, P2, P3, P4, P5, P6, P7, P8, P9, P10, P11, P12, P13, P14, L1, P15, N1, N2, N3, N4, N5, N6, N7, I1, I2, I3, I4, I5, I6, I7, reduceIte, reduceCtorEq, hlp _ q6]
              · have e : stepU x s' u = ⟨upd s'.c u (s'.c x + 1), upd s'.op u 0, s'.q ++ [u]⟩ := by unfold stepU; rw [if_neg d1, if_pos d2, d2]
                rwa [e] at Inew
            · simp only [PP, P1, P2, P3, P4, P5, P6, P7, P8, P9, P10, P11, P12, P13, P14, L1, P15, N1, N2, N3, N4, N5, N6, N7, I1, I2, I3, I4, I5, I6, I7, reduceIte, reduceCtorEq, d2]
              refine ⟨_, _, rfl, ?_⟩
              rw [if_pos rfl]
              refine hK' _ ⟨⟨s'.c, upd s'.op u (s'.op u - 1), s'.q⟩, vr, vo + 1, vb, g, ver + 1 + 1, ?_, ?_, gx'⟩
              · simp only [PP, P1, P2, P3, P4, P5, P6, P7, P8, P9, P10, P11, P12, P13, P14, L1, P15, N1, N2, N3, N4, N5, N6, N7, I1, I2, I3, I4, I5, I6, I7, reduceIte, reduceCtorEq, hlp _ q6]
              · have e : stepU x s' u = ⟨s'.c, upd s'.op u (s'.op u - 1), s'.q⟩ := by unfold stepU; rw [if_neg d1, if_neg d2]
                rwa [e] at Inew
        · rintro N ⟨s', vr, vo, vb, g, ver, rfl, I', gx'⟩
          refine ⟨ver, lp, rfl, by rw [q1]; exact (by intro h; cases h), ?_⟩
          rw [q2]
          simp only [PP, P1, P2, P3, P4, P5, P6, P7, P8, P9, P10, P11, P12, P13, P14, L1, P15, N1, N2, N3, N4, N5, N6, N7, I1, I2, I3, I4, I5, I6, I7, reduceIte, reduceCtorEq]
          refine SemW_seq ?_
          refine SemW_seq ?_
          refine SemW_of ?_
          simp only [PP, P1, P2, P3, P4, P5, P6, P7, P8, P9, P10, P11, P12, P13, P14, L1, P15, N1, N2, N3, N4, N5, N6, N7, I1, I2, I3, I4, I5, I6, I7, reduceIte, reduceCtorEq]
          refine SemW_re (GStep.drop (b := [.junk, p8 side, .junk, .ptr 0 0 0, .junk, .junk, .ptr 1 0 0, .ref 3 0 1 0 ow.length, .junk, .junk, .junk, .ptr 5 0 0, .junk, .junk, .ptr 6 0 0, .ptr 7 0 0, .junk, .junk, .func (.func 66) [] [.ptr 11 0 0], .junk, .junk, .junk, .junk, .junk, .junk, .junk, .junk, .junk, .junk, .junk, .junk, .junk, .junk, .junk, .junk, .junk, .junk, .junk, .junk, .junk, .junk, .junk, .junk, .junk, .junk, .junk, .junk, .junk, .junk, .junk, .junk, .junk, .junk, .junk, .junk, .junk, .junk, .junk, .junk, .junk, .junk, .junk, .junk, .junk, .junk, .junk, .junk, .junk, .junk, .junk, .junk, .junk, .junk, .junk, .junk, .junk, .junk, .junk, .junk, .junk, .junk, .junk, .junk, .junk, .junk, .junk, .junk, .junk, .junk, .junk, .junk, .junk, .junk, .junk, .junk, .junk, .junk, .junk, .junk, .junk, .junk, .junk, .junk, .junk, .junk, .junk, .junk, .junk, .junk, .junk, .junk, .junk, .junk, .junk, .junk, .junk, .junk, .junk, .junk, .junk, .junk, .junk, .junk, .junk, .junk, .junk, .junk, .junk, p64 i, .junk, .junk, .junk, .junk, .junk, .junk, .junk, .junk, .junk, .junk, .junk, .junk, .junk, .junk, .junk, .junk, .junk, .junk, .junk, .junk, .junk, .junk, .junk, .junk, .junk, .junk, .junk, .junk, .junk, .junk, .junk, .junk, .junk, .junk]) 12 (Nat.zero_le _) (by simp) (by simp only [PWeak_nil, PWeak_junk, PWeak_same, Int.cast_ofNat_Int, List.length_append, List.length_cons, List.length_nil, Nat.zero_add]) (by simp only [PP, P1, P2, P3, P4, P5, P6, P7, P8, P9, P10, P11, P12, P13, P14, L1, P15, N1, N2, N3, N4, N5, N6, N7, I1, I2, I3, I4, I5, I6, I7, reduceIte, reduceCtorEq]) ?_ rfl) ?_
          · simp only [PP, P1, P2, P3, P4, P5, P6, P7, P8, P9, P10, P11, P12, P13, P14, L1, P15, N1, N2, N3, N4, N5, N6, N7, I1, I2, I3, I4, I5, I6, I7, reduceIte, reduceCtorEq]
            exact under_rows _ _ _
          · refine SemW_of ?_
            simp only [PP, P1, P2, P3, P4, P5, P6, P7, P8, P9, P10, P11, P12, P13, P14, L1, P15, N1, N2, N3, N4, N5, N6, N7, I1, I2, I3, I4, I5, I6, I7, reduceIte, reduceCtorEq]
            refine SemW_of ?_
            simp only [PP, P1, P2, P3, P4, P5, P6, P7, P8, P9, P10, P11, P12, P13, P14, L1, P15, N1, N2, N3, N4, N5, N6, N7, I1, I2, I3, I4, I5, I6, I7, reduceIte, reduceCtorEq]
            have hin : i < ow.length := by
              have := nodup_lenN ow.length s.q (I 0).nd (fun v hv => ((I 0).a1 v hv).1)
              omega
            have hwi := wrap_succ (k := i) (by show _ < 1000000000000; omega)
            simp only [hwi]
            refine SemW_to (ih (i + 1) s' vr vo vb g 2 ⟨by have := (List.getElem?_eq_some_iff.1 gx').1; omega, fun y => I'.next gx' (fun u hu => ?_) y⟩ (by omega)) (by simp only [PWeak_nil, PWeak_junk, PWeak_same, Int.cast_ofNat_Int, List.length_append, List.length_cons, List.length_nil, Nat.zero_add]) rfl
            rw [List.take_of_length_le (by unfold predI; rw [List.length_map]; exact Nat.le_refl _), Sf_mem V hu]
            unfold predN
            rw [List.mem_filter, List.mem_range]
            exact ⟨fun h => of_decide_eq_true h.2, fun h => ⟨hu, decide_eq_true h⟩⟩
      · simp only [PP, P1, P2, P3, P4, P5, P6, P7, P8, P9, P10, P11, P12, P13, P14, L1, P15, N1, N2, N3, N4, N5, N6, N7, I1, I2, I3, I4, I5, I6, I7, reduceIte, reduceCtorEq, e1]
        have hcR : tabL ow.length s.c = tabL ow.length (rkOf ow su side keep) := tabL_of (tabL_len _ _) fun v hv => by rw [tabL_get hv, (I 0).fin hR hS (by omega) v hv]
        rw [hcR]
        have hRr : ∀ v, -1 ≤ rkOf ow su side keep v ∧ rkOf ow su side keep v ≤ ow.length := fun v => rk_range _ _
        have hRp : ∀ v, v < ow.length → Pf ow side v = true → 0 < rkOf ow su side keep v → ∃ u ∈ Sf su v, rkOf ow su side keep u = rkOf ow su side keep v - 1 := hR.p
        clear hcR hinit ih I hR
        generalize rkOf ow su side keep = R at hq hRr hRp ⊢
        generalize (PObj.cells 0 vo ((tabL ow.length s.op).map (PV.int .i64))) = j4
        generalize (PObj.cells 0 vb [.ref 8 g 1 0 s.q.length]) = j6
        generalize (PObj.cells g 0 ((s.q.map fun v => ((v : Nat) : Int)).map (PV.int .i64))) = j8
        generalize (PObj.cells 0 vp (tabA ow.length fun u => slI false true .i64 (predI su ow.length u))) = j10
        refine SemW_re (GStep.drop (b := [.junk, p8 side, .junk, .ptr 0 0 0, .junk, .junk, .ptr 1 0 0, .ref 3 0 1 0 ow.length, .junk, .junk, .junk, .junk, .junk, .junk, .junk, .junk, .junk, .junk, .junk, .junk, .junk, .junk, .junk, .junk, .junk, .junk, .junk, .junk, .junk, .junk, .junk, .junk, .junk, .junk, .junk, .junk, .junk, .junk, .junk, .junk, .junk, .junk, .junk, .junk, .junk, .junk, .junk, .junk, .junk, .junk, .junk, .junk, .junk, .junk, .junk, .junk, .junk, .junk, .junk, .junk, .junk, .junk, .junk, .junk, .junk, .junk, .junk, .junk, .junk, .junk, .junk, .junk, .junk, .junk, .junk, .junk, .junk, .junk, .junk, .junk, .junk, .junk, .junk, .junk, .junk, .junk, .junk, .junk, .junk, .junk, .junk, .junk, .junk, .junk, .junk, .junk, .junk, .junk, .junk, .junk, .junk, .junk, .junk, .junk, .junk, .junk, .junk, .junk, .junk, .junk, .junk, .junk, .junk, .junk, .junk, .junk, .junk, .junk, .junk, .junk, .junk, .junk, .junk, .junk, .junk, .junk, .junk, .junk, .junk, .junk, slR f3 p3 f4 p4 .i64 su, p64 su.length, p64 0, .junk, .junk, .junk, .junk, .junk, .junk, .junk, .junk, .junk, .junk, .junk, .junk, .junk, .junk, .junk, .junk, .junk, .junk, .junk, .junk, .junk, .junk, .junk, .junk, .junk, .junk, .junk, .junk, .junk, .junk]) 4 (Nat.zero_le _) (by simp) (by simp only [PWeak_nil, PWeak_junk, PWeak_same, Int.cast_ofNat_Int, List.length_append, List.length_cons, List.length_nil, Nat.zero_add]) (by simp only [PP, P1, P2, P3, P4, P5, P6, P7, P8, P9, P10, P11, P12, P13, P14, L1, P15, N1, N2, N3, N4, N5, N6, N7, I1, I2, I3, I4, I5, I6, I7, reduceIte, reduceCtorEq]) (by simp only [PP, P1, P2, P3, P4, P5, P6, P7, P8, P9, P10, P11, P12, P13, P14, L1, P15, N1, N2, N3, N4, N5, N6, N7, I1, I2, I3, I4, I5, I6, I7, reduceIte, reduceCtorEq]) rfl) ?_
        simp only [List.take_succ_cons, List.take_zero]
        refine loop3 (fun (v vs : Nat) (a2 : List Int) => v ≤ su.length ∧ a2.length = ow.length ∧ (∀ u, u < v → a2[u]? = some (stratOf ow su side R u)) ∧ ∀ u, v ≤ u → u < ow.length → a2[u]? = some (-1))
          (fun v vs a2 => [.junk, p8 side, .junk, .ptr 0 0 0, .junk, .junk, .ptr 1 0 0, .ref 3 0 1 0 ow.length, .junk, .junk, .junk, .junk, .junk, .junk, .junk, .junk, .junk, .junk, .junk, .junk, .junk, .junk, .junk, .junk, .junk, .junk, .junk, .junk, .junk, .junk, .junk, .junk, .junk, .junk, .junk, .junk, .junk, .junk, .junk, .junk, .junk, .junk, .junk, .junk, .junk, .junk, .junk, .junk, .junk, .junk, .junk, .junk, .junk, .junk, .junk, .junk, .junk, .junk, .junk, .junk, .junk, .junk, .junk, .junk, .junk, .junk, .junk, .junk, .junk, .junk, .junk, .junk, .junk, .junk, .junk, .junk, .junk, .junk, .junk, .junk, .junk, .junk, .junk, .junk, .junk, .junk, .junk, .junk, .junk, .junk, .junk, .junk, .junk, .junk, .junk, .junk, .junk, .junk, .junk, .junk, .junk, .junk, .junk, .junk, .junk, .junk, .junk, .junk, .junk, .junk, .junk, .junk, .junk, .junk, .junk, .junk, .junk, .junk, .junk, .junk, .junk, .junk, .junk, .junk, .junk, .junk, .junk, .junk, .junk, .junk, slR f3 p3 f4 p4 .i64 su, p64 su.length, p64 v, .junk, .junk, .junk, .junk, .junk, .junk, .junk, .junk, .junk, .junk, .junk, .junk, .junk, .junk, .junk, .junk, .junk, .junk, .junk, .junk, .junk, .junk, .junk, .junk, .junk, .junk, .junk, .junk, .junk, .junk])
          (fun v vs a2 => [.cells 0 0 [slI f1 p1 .u8 ow, slI f2 p2 .i64 pr, slR f3 p3 f4 p4 .i64 su], .cells 0 1 [.ref 2 0 1 0 ow.length], .cells 0 vr ((tabL ow.length R).map (PV.int .i64)), .cells 0 vs (a2.map (PV.int .i64))])
          (fun v _ _ => su.length - v) 0 vs (tabL ow.length fun _ => -1) ⟨by omega, tabL_len _ _, by intro v h; omega, fun v _ h => tabL_get h⟩ (by simp only [PWeak_nil, PWeak_junk, PWeak_same, Int.cast_ofNat_Int, List.length_append, List.length_cons, List.length_nil, Nat.zero_add]) rfl ?_
        intro v vs a2 ⟨hle, l2, h1, h2⟩ ih
        refine SemW_go (by kernel_rfl) ?_
        simp only [PP, P1, P2, P3, P4, P5, P6, P7, P8, P9, P10, P11, P12, P13, P14, L1, P15, N1, N2, N3, N4, N5, N6, N7, I1, I2, I3, I4, I5, I6, I7, reduceIte, reduceCtorEq]
        refine QIf.intro (fun d => ?_) (fun d => ?_)
        · have hv : v < ow.length := by omega
          have v0 : (0 : Int) ≤ v := by omega
          have vn : (v : Int) < ow.length := by omega
          have vn' : v + 1 ≤ ow.length := hv
          have hwv := wrap_succ (k := v) (by show _ < 1000000000000; omega)
          have g0 := tabL_get (R := R) hv
          obtain ⟨row, g1⟩ := some_of (xs := su) (k := v) (by omega)
          obtain ⟨o, g2⟩ := some_of (xs := ow) (k := v) (by omega)
          have hrb := B.r row (List.mem_of_getElem? g1)
          have e2 : ow.getD v 0 = o := getD_some g2
          have e1 : su.getD v [] = row := by simp [List.getD, g1]
          have es : stratOf ow su side R v = if 0 < R v ∧ o = side then firstS R (R v - 1) row else -1 := by unfold stratOf; rw [e1, e2]
          have up : ∀ (b : List Int) (s : Int), b.length = ow.length → b[v]? = some s → s = stratOf ow su side R v → (∀ u, u ≠ v → b[u]? = a2[u]?) → (v + 1 ≤ su.length ∧ b.length = ow.length ∧ (∀ u, u < v + 1 → b[u]? = some (stratOf ow su side R u)) ∧ ∀ u, v + 1 ≤ u → u < ow.length → b[u]? = some (-1)) := by
            intro b s hb1 hb2 hbs hb3
            refine ⟨by omega, hb1, fun u hu => ?_, fun u hu hu2 => ?_⟩
            · by_cases e : u = v
              · subst e; rw [hb2, hbs]
              · rw [hb3 u e]; exact h1 u (by omega)
            · rw [hb3 u (by omega)]; exact h2 u (by omega) hu2
          simp only [PP, P1, P2, P3, P4, P5, P6, P7, P8, P9, P10, P11, P12, P13, P14, L1, P15, N1, N2, N3, N4, N5, N6, N7, I1, I2, I3, I4, I5, I6, I7, reduceIte, reduceCtorEq, d, v0, vn, g0, g1, tabL_len]
          refine QIf.intro (fun d1 => ?_) (fun d1 => ?_)
          · simp only [PP, P1, P2, P3, P4, P5, P6, P7, P8, P9, P10, P11, P12, P13, P14, L1, P15, N1, N2, N3, N4, N5, N6, N7, I1, I2, I3, I4, I5, I6, I7, reduceIte, reduceCtorEq, d1, v0, vn, g2]
            refine QIf.intro (fun d2 => ?_) (fun d2 => ?_)
            · have w1 : IntKind.i64.wrap (R v - 1) = R v - 1 := by have := hRr v; exact wrap64 (by omega) (by omega)
              have hrow : ∀ u ∈ row, 0 ≤ u ∧ u < ow.length := by
                have hi2 : v < su.length := by omega
                obtain ⟨_, _, _, _, q⟩ := V.row v hi2
                rw [List.getElem?_eq_getElem hi2] at g1
                cases g1
                intro u hu
                have := (posM_rise q).2 u hu
                omega
              have hex : ∃ u ∈ row, R u.toNat = R v - 1 := by
                obtain ⟨u, hu, e⟩ := hRp v hv (by unfold Pf; rw [e2]; simpa using d2) d1
                unfold Sf at hu
                rw [e1] at hu
                obtain ⟨w, hw, rfl⟩ := List.mem_map.1 hu
                exact ⟨w, hw, e⟩
              obtain ⟨i, w, r1, r2, r3⟩ := idx_first (j := 0) hex
              rw [Nat.zero_add] at r1
              have i0 : (0 : Int) ≤ i := by omega
              have il : (i : Int) < row.length := by have := (List.getElem?_eq_some_iff.1 r2).1; omega
              simp only [PP, P1, P2, P3, P4, P5, P6, P7, P8, P9, P10, P11, P12, P13, P14, L1, P15, N1, N2, N3, N4, N5, N6, N7, I1, I2, I3, I4, I5, I6, I7, reduceIte, reduceCtorEq, d2]
              refine indexFunc_p T (fun u => decide (R u.toNat = R v - 1)) hrb (fun u hu K' hK' => ?_) ?_
              · refine SemC_fn T.h51 ?_
                simp only [af51, PP, P1, P2, P3, P4, P5, P6, P7, P8, P9, P10, P11, P12, P13, P14, L1, P15, N1, N2, N3, N4, N5, N6, N7, I1, I2, I3, I4, I5, I6, I7, reduceIte, reduceCtorEq, v0, vn, g0, tabL_len, (hrow u hu).1, (hrow u hu).2, tabL_get (n := ow.length) (R := R) (v := u.toNat) (by have := hrow u hu; omega), w1]
                exact hK'
              · simp only [PP, P1, P2, P3, P4, P5, P6, P7, P8, P9, P10, P11, P12, P13, P14, L1, P15, N1, N2, N3, N4, N5, N6, N7, I1, I2, I3, I4, I5, I6, I7, reduceIte, reduceCtorEq, r1, i0, il, r2, v0, vn, vn', l2, hwv]
                refine SemW_re (GStep.drop (b := [.junk, p8 side, .junk, .ptr 0 0 0, .junk, .junk, .ptr 1 0 0, .ref 3 0 1 0 ow.length, .junk, .junk, .junk, .junk, .junk, .junk, .junk, .junk, .junk, .junk, .junk, .junk, .junk, .junk, .junk, .junk, .junk, .junk, .junk, .junk, .junk, .junk, .junk, .junk, .junk, .junk, .junk, .junk, .junk, .junk, .junk, .junk, .junk, .junk, .junk, .junk, .junk, .junk, .junk, .junk, .junk, .junk, .junk, .junk, .junk, .junk, .junk, .junk, .junk, .junk, .junk, .junk, .junk, .junk, .junk, .junk, .junk, .junk, .junk, .junk, .junk, .junk, .junk, .junk, .junk, .junk, .junk, .junk, .junk, .junk, .junk, .junk, .junk, .junk, .junk, .junk, .junk, .junk, .junk, .junk, .junk, .junk, .junk, .junk, .junk, .junk, .junk, .junk, .junk, .junk, .junk, .junk, .junk, .junk, .junk, .junk, .junk, .junk, .junk, .junk, .junk, .junk, .junk, .junk, .junk, .junk, .junk, .junk, .junk, .junk, .junk, .junk, .junk, .junk, .junk, .junk, .junk, .junk, .junk, .junk, .junk, .junk, slR f3 p3 f4 p4 .i64 su, p64 su.length, p64 ((v + 1 : Nat) : Int), .junk, .junk, .junk, .junk, .junk, .junk, .junk, .junk, .junk, .junk, .junk, .junk, .junk, .junk, .junk, .junk, .junk, .junk, .junk, .junk, .junk, .junk, .junk, .junk, .junk, .junk, .junk, .junk, .junk, .junk]) 4 (Nat.zero_le _) (by simp) (by simp only [PWeak_nil, PWeak_junk, PWeak_same, Int.cast_ofNat_Int, List.length_append, List.length_cons, List.length_nil, Nat.zero_add]) (by simp only [PP, P1, P2, P3, P4, P5, P6, P7, P8, P9, P10, P11, P12, P13, P14, L1, P15, N1, N2, N3, N4, N5, N6, N7, I1, I2, I3, I4, I5, I6, I7, reduceIte, reduceCtorEq]) (by simp only [← List.map_set, PP, P1, P2, P3, P4, P5, P6, P7, P8, P9, P10, P11, P12, P13, P14, L1, P15, N1, N2, N3, N4, N5, N6, N7, I1, I2, I3, I4, I5, I6, I7, reduceIte, reduceCtorEq]) rfl) ?_
                refine SemW_to (ih (v + 1) (vs + 1) (a2.set v w) (up _ w (by simp [l2]) (set_at (by omega)) (by rw [es, if_pos ⟨d1, d2⟩, r3]) fun u hu => set_low hu) (by omega)) (by simp only [PWeak_nil, PWeak_junk, PWeak_same, Int.cast_ofNat_Int, List.length_append, List.length_cons, List.length_nil, Nat.zero_add]) (by simp only [← List.map_set, PP, P1, P2, P3, P4, P5, P6, P7, P8, P9, P10, P11, P12, P13, P14, L1, P15, N1, N2, N3, N4, N5, N6, N7, I1, I2, I3, I4, I5, I6, I7, reduceIte, reduceCtorEq])
            · simp only [PP, P1, P2, P3, P4, P5, P6, P7, P8, P9, P10, P11, P12, P13, P14, L1, P15, N1, N2, N3, N4, N5, N6, N7, I1, I2, I3, I4, I5, I6, I7, reduceIte, reduceCtorEq, d2, hwv]
              refine SemW_re (GStep.drop (b := [.junk, p8 side, .junk, .ptr 0 0 0, .junk, .junk, .ptr 1 0 0, .ref 3 0 1 0 ow.length, .junk, .junk, .junk, .junk, .junk, .junk, .junk, .junk, .junk, .junk, .junk, .junk, .junk, .junk, .junk, .junk, .junk, .junk, .junk, .junk, .junk, .junk, .junk, .junk, .junk, .junk, .junk, .junk, .junk, .junk, .junk, .junk, .junk, .junk, .junk, .junk, .junk, .junk, .junk, .junk, .junk, .junk, .junk, .junk, .junk, .junk, .junk, .junk, .junk, .junk, .junk, .junk, .junk, .junk, .junk, .junk, .junk, .junk, .junk, .junk, .junk, .junk, .junk, .junk, .junk, .junk, .junk, .junk, .junk, .junk, .junk, .junk, .junk, .junk, .junk, .junk, .junk, .junk, .junk, .junk, .junk, .junk, .junk, .junk, .junk, .junk, .junk, .junk, .junk, .junk, .junk, .junk, .junk, .junk, .junk, .junk, .junk, .junk, .junk, .junk, .junk, .junk, .junk, .junk, .junk, .junk, .junk, .junk, .junk, .junk, .junk, .junk, .junk, .junk, .junk, .junk, .junk, .junk, .junk, .junk, .junk, .junk, slR f3 p3 f4 p4 .i64 su, p64 su.length, p64 ((v + 1 : Nat) : Int), .junk, .junk, .junk, .junk, .junk, .junk, .junk, .junk, .junk, .junk, .junk, .junk, .junk, .junk, .junk, .junk, .junk, .junk, .junk, .junk, .junk, .junk, .junk, .junk, .junk, .junk, .junk, .junk, .junk, .junk]) 4 (Nat.zero_le _) (by simp) (by simp only [PWeak_nil, PWeak_junk, PWeak_same, Int.cast_ofNat_Int, List.length_append, List.length_cons, List.length_nil, Nat.zero_add]) (by simp only [PP, P1, P2, P3, P4, P5, P6, P7, P8, P9, P10, P11, P12, P13, P14, L1, P15, N1, N2, N3, N4, N5, N6, N7, I1, I2, I3, I4, I5, I6, I7, reduceIte, reduceCtorEq]) (by simp only [← List.map_set, PP, P1, P2, P3, P4, P5, P6, P7, P8, P9, P10, P11, P12, P13, P14, L1, P15, N1, N2, N3, N4, N5, N6, N7, I1, I2, I3, I4, I5, I6, I7, reduceIte, reduceCtorEq]) rfl) ?_
              exact SemW_to (ih (v + 1) vs a2 (up a2 (-1) l2 (h2 v (Nat.le_refl _) hv) (by rw [es, if_neg (fun h => d2 h.2)]) fun _ _ => rfl) (by omega)) (by simp only [PWeak_nil, PWeak_junk, PWeak_same, Int.cast_ofNat_Int, List.length_append, List.length_cons, List.length_nil, Nat.zero_add]) (by simp only [PP, P1, P2, P3, P4, P5, P6, P7, P8, P9, P10, P11, P12, P13, P14, L1, P15, N1, N2, N3, N4, N5, N6, N7, I1, I2, I3, I4, I5, I6, I7, reduceIte, reduceCtorEq])
          · simp only [PP, P1, P2, P3, P4, P5, P6, P7, P8, P9, P10, P11, P12, P13, P14, L1, P15, N1, N2, N3, N4, N5, N6, N7, I1, I2, I3, I4, I5, I6, I7, reduceIte, reduceCtorEq, d1, hwv]
            refine SemW_re (GStep.drop (b := [.junk, p8 side, .junk, .ptr 0 0 0, .junk, .junk, .ptr 1 0 0, .ref 3 0 1 0 ow.length, .junk, .junk, .junk, .junk, .junk, .junk, .junk, .junk, .junk, .junk, .junk, .junk, .junk, .junk, .junk, .junk, .junk, .junk, .junk, .junk, .junk, .junk, .junk, .junk, .junk, .junk, .junk, .junk, .junk, .junk, .junk, .junk, .junk, .junk, .junk, .junk, .junk, .junk, .junk, .junk, .junk, .junk, .junk, .junk, .junk, .junk, .junk, .junk, .junk, .junk, .junk, .junk, .junk, .junk, .junk, .junk, .junk, .junk, .junk, .junk, .junk, .junk, .junk, .junk, .junk, .junk, .junk, .junk, .junk, .junk, .junk, .junk, .junk, .junk, .junk, .junk, .junk, .junk, .junk, .junk, .junk, .junk, .junk, .junk, .junk, .junk, .junk, .junk, .junk, .junk, .junk, .junk, .junk, .junk, .junk, .junk, .junk, .junk, .junk, .junk, .junk, .junk, .junk, .junk, .junk, .junk, .junk, .junk, .junk, .junk, .junk, .junk, .junk, .junk, .junk, .junk, .junk, .junk, .junk, .junk, .junk, .junk, slR f3 p3 f4 p4 .i64 su, p64 su.length, p64 ((v + 1 : Nat) : Int), .junk, .junk, .junk, .junk, .junk, .junk, .junk, .junk, .junk, .junk, .junk, .junk, .junk, .junk, .junk, .junk, .junk, .junk, .junk, .junk, .junk, .junk, .junk, .junk, .junk, .junk, .junk, .junk, .junk, .junk]) 4 (Nat.zero_le _) (by simp) (by simp only [PWeak_nil, PWeak_junk, PWeak_same, Int.cast_ofNat_Int, List.length_append, List.length_cons, List.length_nil, Nat.zero_add]) (by simp only [PP, P1, P2, P3, P4, P5, P6, P7, P8, P9, P10, P11, P12, P13, P14, L1, P15, N1, N2, N3, N4, N5, N6, N7, I1, I2, I3, I4, I5, I6, I7, reduceIte, reduceCtorEq]) (by simp only [← List.map_set, PP, P1, P2, P3, P4, P5, P6, P7, P8, P9, P10, P11, P12, P13, P14, L1, P15, N1, N2, N3, N4, N5, N6, N7, I1, I2, I3, I4, I5, I6, I7, reduceIte, reduceCtorEq]) rfl) ?_
            exact SemW_to (ih (v + 1) vs a2 (up a2 (-1) l2 (h2 v (Nat.le_refl _) hv) (by rw [es, if_neg (fun h => d1 h.1)]) fun _ _ => rfl) (by omega)) (by simp only [PWeak_nil, PWeak_junk, PWeak_same, Int.cast_ofNat_Int, List.length_append, List.length_cons, List.length_nil, Nat.zero_add]) (by simp only [PP, P1, P2, P3, P4, P5, P6, P7, P8, P9, P10, P11, P12, P13, P14, L1, P15, N1, N2, N3, N4, N5, N6, N7, I1, I2, I3, I4, I5, I6, I7, reduceIte, reduceCtorEq])
        · have hvn : v = ow.length := by omega
          subst hvn
          have ha2 := tabL_of l2 h1
          subst ha2
          simp only [PP, P1, P2, P3, P4, P5, P6, P7, P8, P9, P10, P11, P12, P13, P14, L1, P15, N1, N2, N3, N4, N5, N6, N7, I1, I2, I3, I4, I5, I6, I7, reduceIte, reduceCtorEq, d, frz_tab]
          exact ⟨_, PvWk.refl _, hq⟩
end
end Go.Am.Ar
set_option linter.unusedVariables false
set_option linter.unusedSimpArgs false
set_option maxRecDepth 10000
namespace Go.Am.Ar
open Go.Am renaming pchk → P1, pold → P2, PKNo → P3, ppack → P4, PObj.under → P5, pput → P6, ptset → P7, ptget → P8, pev → P9, ofAV → P10, ofAV1 → P11, ppad → P12, pfill → P13, prepl → P14, AO.effect → P15
open List renaming replicate → L1
open Nat renaming reduceAdd → N1, reduceSub → N2, reduceMul → N3, reduceLT → N4, reduceLeDiff → N5, reduceEqDiff → N6, reduceBEq → N7
open Int renaming reduceToNat → I1, reduceLT → I2, reduceLE → I3, reduceEq → I4, reduceAdd → I5, reduceSub → I6, reduceNeg → I7
section
variable {tab : FuncId → Option AF} (T : HasA tab)
include T
set_option maxHeartbeats 1000000 in
theorem zdet_p {ow pr mvs : List Int} {su : List (List Int)} {fr : Int} (ho : ∀ x ∈ ow, 0 ≤ x) (hm : ∀ x ∈ mvs, 0 ≤ x ∧ x ≤ 255) (hf0 : 0 ≤ fr) (hf1 : fr ≤ 255) (hml : mvs.length ≤ 9223372036854775807) :
    SemC tab 8 [gmP false false false false false false false false ow pr su, slI false false .u8 mvs, p8 fr] [] fun r _ => r = .bool true := by
  refine SemC_fn T.h8 ?_
  simp only [af8, PP, P1, P2, P3, P4, P5, P6, P7, P8, P9, P10, P11, P12, P13, P14, L1, P15, N1, N2, N3, N4, N5, N6, N7, I1, I2, I3, I4, I5, I6, I7, reduceIte, reduceCtorEq]
  refine long0_p T ?_
  simp only [PP, P1, P2, P3, P4, P5, P6, P7, P8, P9, P10, P11, P12, P13, P14, L1, P15, N1, N2, N3, N4, N5, N6, N7, I1, I2, I3, I4, I5, I6, I7, reduceIte, reduceCtorEq]
  cases hl : longM ow pr su [] with
  | true =>
    simp only [PP, P1, P2, P3, P4, P5, P6, P7, P8, P9, P10, P11, P12, P13, P14, L1, P15, N1, N2, N3, N4, N5, N6, N7, I1, I2, I3, I4, I5, I6, I7, reduceIte, reduceCtorEq]
    refine SemC_true T.awake ?_
    simp only [PP, P1, P2, P3, P4, P5, P6, P7, P8, P9, P10, P11, P12, P13, P14, L1, P15, N1, N2, N3, N4, N5, N6, N7, I1, I2, I3, I4, I5, I6, I7, reduceIte, reduceCtorEq]
  | false =>
    have S := longM_false hl
    have B := S.bnd
    have so := S.o
    simp only [PP, P1, P2, P3, P4, P5, P6, P7, P8, P9, P10, P11, P12, P13, P14, L1, P15, N1, N2, N3, N4, N5, N6, N7, I1, I2, I3, I4, I5, I6, I7, reduceIte, reduceCtorEq]
    refine QIf.intro (fun c0 => ?_) (fun c0 => ?_)
    · simp only [PP, P1, P2, P3, P4, P5, P6, P7, P8, P9, P10, P11, P12, P13, P14, L1, P15, N1, N2, N3, N4, N5, N6, N7, I1, I2, I3, I4, I5, I6, I7, reduceIte, reduceCtorEq, c0]
      refine SemC_true T.awake ?_
      simp only [PP, P1, P2, P3, P4, P5, P6, P7, P8, P9, P10, P11, P12, P13, P14, L1, P15, N1, N2, N3, N4, N5, N6, N7, I1, I2, I3, I4, I5, I6, I7, reduceIte, reduceCtorEq]
    simp only [PP, P1, P2, P3, P4, P5, P6, P7, P8, P9, P10, P11, P12, P13, P14, L1, P15, N1, N2, N3, N4, N5, N6, N7, I1, I2, I3, I4, I5, I6, I7, reduceIte, reduceCtorEq, c0]
    refine SemC_true T.awake ?_
    simp only [PP, P1, P2, P3, P4, P5, P6, P7, P8, P9, P10, P11, P12, P13, P14, L1, P15, N1, N2, N3, N4, N5, N6, N7, I1, I2, I3, I4, I5, I6, I7, reduceIte, reduceCtorEq]
    refine solve_q T B ho (fun ws ss e hR => ?_)
    simp only [PP, P1, P2, P3, P4, P5, P6, P7, P8, P9, P10, P11, P12, P13, P14, L1, P15, N1, N2, N3, N4, N5, N6, N7, I1, I2, I3, I4, I5, I6, I7, reduceIte, reduceCtorEq]
    refine regions_p T B ho (fun ws2 ss2 e2 hR2 => ?_)
    obtain ⟨rfl, rfl⟩ := hR.eq ho hR2
    rcases hR with ⟨q1, rfl, rfl, rfl⟩ | ⟨c1, rfl, L⟩
    · simp only [PP, P1, P2, P3, P4, P5, P6, P7, P8, P9, P10, P11, P12, P13, P14, L1, P15, N1, N2, N3, N4, N5, N6, N7, I1, I2, I3, I4, I5, I6, I7, reduceIte, reduceCtorEq, q1]
    · have V := valid_of c1
      have n0 := V.n0
      have n1 := V.n1
      have lw := L.lw
      have ls := L.ls
      have cn : ¬ (ow.length : Int) = 0 := by omega
      have hsum : IntKind.i64.wrap (((wL ws 0 ow.length).length : Int) + ((wL ws 1 ow.length).length : Int)) = ow.length := by
        have h := wL_sum L
        rw [wrap64 (by omega) (by omega)]; omega
      simp only [PP, P1, P2, P3, P4, P5, P6, P7, P8, P9, P10, P11, P12, P13, P14, L1, P15, N1, N2, N3, N4, N5, N6, N7, I1, I2, I3, I4, I5, I6, I7, reduceIte, reduceCtorEq, cn, lw, ls, hsum]
      refine refCheck_p T B ?_
      simp only [PP, P1, P2, P3, P4, P5, P6, P7, P8, P9, P10, P11, P12, P13, P14, L1, P15, N1, N2, N3, N4, N5, N6, N7, I1, I2, I3, I4, I5, I6, I7, reduceIte, reduceCtorEq, c1]
      refine loop1 (fun (p : Nat) => p ≤ 2) (fun p => [.junk, slI false false .u8 mvs, p8 fr, .ptr 0 0 0, .junk, .junk, .junk, .ptr 1 0 0, .junk, slI false true .i64 (natI (wL ws 0 ow.length)), slI false true .i64 (natI (wL ws 1 ow.length)), .junk, p8 p, .junk, .junk, .junk, .junk, .junk, .junk, .junk, .junk, .junk, .junk, .junk, .junk, .junk, .junk, .junk, .junk, .junk, .junk, .junk, .junk, .junk, .junk, .junk, .junk, .junk, .junk, .junk, .junk, .junk, .junk, .junk, .junk, .junk, .junk, .junk, .junk, .junk, .junk, .junk, .junk, .junk, .junk, .junk, .junk, .junk, .junk, .junk, .junk, .junk, .junk, .junk, .junk, .junk, .junk, .junk, .junk, .junk, .junk, .junk, .junk, .junk, .junk, .junk, .junk, .junk, .junk, .junk, .junk, .junk, .junk, .junk, .junk, .junk, .junk, .junk, .junk, .junk, .junk, .junk, .junk, .junk, .junk, .junk, .junk, .junk, .junk, .junk, .junk, .junk, .junk, .junk, .junk, .junk, .junk, .junk, .junk, .junk, .junk, .junk, .junk, .junk, .junk, .junk, .junk, .junk, .junk, .junk, .junk, .junk, .junk, .junk, .junk, .junk, .junk, .junk, .junk, .junk, .junk, .junk, .junk, .junk, .junk, .junk, .junk, .junk, .junk, .junk, .junk, .junk, .junk, .junk, .junk, .junk, .junk, .junk, .junk, .junk, .junk, .junk, .junk, .junk, .junk, .junk, .junk, .junk, .junk, .junk, .junk, .junk, .junk, .junk, .junk, .junk, .junk, .junk, .junk, .junk, .junk, .junk, .junk, .junk, .junk, .junk, .junk, .junk, .junk, .junk, .junk, .junk, .junk, .junk, .junk, .junk, .junk, .junk, .junk, .junk, .junk, .junk, .junk, .junk, .junk, .junk, .junk, .junk, .junk, .junk, .junk, .junk, .junk, .junk, .junk, .junk, .junk, .junk, .junk, .junk, .junk, .junk, .junk, .junk, .junk, .junk, .junk, .junk, .junk, .junk, .junk, .junk, .junk, .junk, .junk, .junk, .junk, .junk, .junk, .junk, .junk, .junk, .junk, .junk, .junk, .junk, .junk, .junk, .junk, .junk, .junk, .junk, .junk, .junk, .junk, .junk, .junk, .junk, .junk, .junk, .junk, .junk, .junk, .junk, .junk, .junk, .junk, .junk, .junk, .junk, .junk, .junk, .junk, .junk, .junk, .junk, .junk, .junk])
        (fun _ => [.cells 0 0 [slI false false .u8 ow, slI false false .i64 pr, slR false false false false .i64 su], .cells 0 1 [slI false true .u8 ws, slI false true .i64 ss]]) (fun p => 2 - p) 0 (by omega) (by simp only [PWeak_nil, PWeak_junk, PWeak_same, Int.cast_ofNat_Int, List.length_append, List.length_cons, List.length_nil, Nat.zero_add]) rfl ?_
      intro p hle ih
      refine SemW_go (by kernel_rfl) ?_
      simp only [PP, P1, P2, P3, P4, P5, P6, P7, P8, P9, P10, P11, P12, P13, P14, L1, P15, N1, N2, N3, N4, N5, N6, N7, I1, I2, I3, I4, I5, I6, I7, reduceIte, reduceCtorEq]
      refine QIf.intro (fun c => ?_) (fun c => ?_)
      · have hp2 : p = 0 ∨ p = 1 := by omega
        simp only [PP, P1, P2, P3, P4, P5, P6, P7, P8, P9, P10, P11, P12, P13, P14, L1, P15, N1, N2, N3, N4, N5, N6, N7, I1, I2, I3, I4, I5, I6, I7, reduceIte, reduceCtorEq, c]
        rcases hp2 with rfl | rfl
        · have hwp : IntKind.u8.wrap 1 = 1 := rfl
          have hwq : IntKind.u8.wrap 1 = 1 := rfl
          have hrl := wL_len ws 0 ow.length
          have hri := wL_rise ws 0 ow.length
          have kb : (natI (wL ws 0 ow.length)).length < big := by show _ < 1000000000000; rw [List.length_map]; omega
          have hw1 : wrongM ow pr su 1 (natI (wL ws 0 ow.length)) = 0 := by
            unfold wrongM; rw [if_pos c1, if_neg (by omega), if_pos (posM_of hri.1 hri.2)]
          have hw2 : wrongM ow pr su 0 (natI (wL ws 0 ow.length)) = 0 := by
            unfold wrongM; rw [if_pos c1, if_neg (by omega), if_pos (posM_of hri.1 hri.2)]
          have htr : trapM ow pr su 1 (natI (wL ws 0 ow.length)) = .tuple [.bool true, p64 0] := by
            unfold trapM; rw [if_pos hw1, show (1 : Int) = 1 - 0 from rfl, region_trap V L (p := 0) (by omega)]
          have hat := region_attr V L (p := 0) (by omega) ho
          simp only [PP, P1, P2, P3, P4, P5, P6, P7, P8, P9, P10, P11, P12, P13, P14, L1, P15, N1, N2, N3, N4, N5, N6, N7, I1, I2, I3, I4, I5, I6, I7, reduceIte, reduceCtorEq, hwq]
          refine trap_p T B kb ?_
          rw [htr]
          simp only [PP, P1, P2, P3, P4, P5, P6, P7, P8, P9, P10, P11, P12, P13, P14, L1, P15, N1, N2, N3, N4, N5, N6, N7, I1, I2, I3, I4, I5, I6, I7, reduceIte, reduceCtorEq]
          refine attract_p T B kb (by omega) ho ?_
          unfold attrM
          rw [if_pos hw2]
          simp only [PP, P1, P2, P3, P4, P5, P6, P7, P8, P9, P10, P11, P12, P13, P14, L1, P15, N1, N2, N3, N4, N5, N6, N7, I1, I2, I3, I4, I5, I6, I7, reduceIte, reduceCtorEq, tabL_len]
          refine loop1 (fun (k : Nat) => k ≤ ow.length) (fun k => [.junk, slI false false .u8 mvs, p8 fr, .ptr 0 0 0, .junk, .junk, .junk, .ptr 1 0 0, .junk, slI false true .i64 (natI (wL ws 0 ow.length)), slI false true .i64 (natI (wL ws 1 ow.length)), .junk, p8 0, .junk, .junk, .junk, slI false true .i64 (tabL ow.length (rkOf ow su 0 (natI (wL ws 0 ow.length)))), .junk, .junk, p64 k, .junk, .junk, .junk, .junk, .junk, .junk, .junk, .junk, .junk, .junk, .junk, .junk, .junk, .junk, .junk, .junk, .junk, .junk, .junk, .junk, .junk, .junk, .junk, .junk, .junk, .junk, .junk, .junk, .junk, .junk, .junk, .junk, .junk, .junk, .junk, .junk, .junk, .junk, .junk, .junk, .junk, .junk, .junk, .junk, .junk, .junk, .junk, .junk, .junk, .junk, .junk, .junk, .junk, .junk, .junk, .junk, .junk, .junk, .junk, .junk, .junk, .junk, .junk, .junk, .junk, .junk, .junk, .junk, .junk, .junk, .junk, .junk, .junk, .junk, .junk, .junk, .junk, .junk, .junk, .junk, .junk, .junk, .junk, .junk, .junk, .junk, .junk, .junk, .junk, .junk, .junk, .junk, .junk, .junk, .junk, .junk, .junk, .junk, .junk, .junk, .junk, .junk, .junk, .junk, .junk, .junk, .junk, .junk, .junk, .junk, .junk, .junk, .junk, .junk, .junk, .junk, .junk, .junk, .junk, .junk, .junk, .junk, .junk, .junk, .junk, .junk, .junk, .junk, .junk, .junk, .junk, .junk, .junk, .junk, .junk, .junk, .junk, .junk, .junk, .junk, .junk, .junk, .junk, .junk, .junk, .junk, .junk, .junk, .junk, .junk, .junk, .junk, .junk, .junk, .junk, .junk, .junk, .junk, .junk, .junk, .junk, .junk, .junk, .junk, .junk, .junk, .junk, .junk, .junk, .junk, .junk, .junk, .junk, .junk, .junk, .junk, .junk, .junk, .junk, .junk, .junk, .junk, .junk, .junk, .junk, .junk, .junk, .junk, .junk, .junk, .junk, .junk, .junk, .junk, .junk, .junk, .junk, .junk, .junk, .junk, .junk, .junk, .junk, .junk, .junk, .junk, .junk, .junk, .junk, .junk, .junk, .junk, .junk, .junk, .junk, .junk, .junk, .junk, .junk, .junk, .junk, .junk, .junk, .junk, .junk, .junk, .junk, .junk, .junk, .junk, .junk, .junk, .junk, .junk, .junk, .junk, .junk, .junk, .junk, .junk, .junk, .junk, .junk, .junk, .junk, .junk, .junk, .junk])
            (fun _ => [.cells 0 0 [slI false false .u8 ow, slI false false .i64 pr, slR false false false false .i64 su], .cells 0 1 [slI false true .u8 ws, slI false true .i64 ss]]) (fun k => ow.length - k) 0 (by omega) (by simp only [PWeak_nil, PWeak_junk, PWeak_same, Int.cast_ofNat_Int, tabL_len]) rfl ?_
          intro k hkl ih2
          refine SemW_go (by kernel_rfl) ?_
          simp only [PP, P1, P2, P3, P4, P5, P6, P7, P8, P9, P10, P11, P12, P13, P14, L1, P15, N1, N2, N3, N4, N5, N6, N7, I1, I2, I3, I4, I5, I6, I7, reduceIte, reduceCtorEq, tabL_len]
          refine QIf.intro (fun d => ?_) (fun d => ?_)
          · have hk : k < ow.length := by omega
            have k0 : (0 : Int) ≤ k := by omega
            have kn : (k : Int) < ow.length := by omega
            have hwk := wrap_succ (k := k) (by show _ < 1000000000000; omega)
            obtain ⟨x, g1⟩ := some_of (xs := ws) (k := k) (by omega)
            have g2 := tabL_get (R := rkOf ow su 0 (natI (wL ws 0 ow.length))) hk
            have hx := hat k hk
            rw [getD_some g1] at hx
            have hdx : decide (0 ≤ rkOf ow su 0 (natI (wL ws 0 ow.length)) k) = decide (x = 0) := by simp only [hx]
            simp only [PP, P1, P2, P3, P4, P5, P6, P7, P8, P9, P10, P11, P12, P13, P14, L1, P15, N1, N2, N3, N4, N5, N6, N7, I1, I2, I3, I4, I5, I6, I7, reduceIte, reduceCtorEq, d, k0, kn, g1, g2, lw, tabL_len, hdx, hwk]
            exact SemW_weak (ih2 (k + 1) (by omega) (by omega)) (by simp only [PWeak_nil, PWeak_junk, PWeak_same, Int.cast_ofNat_Int, List.length_append, List.length_cons, List.length_nil, Nat.zero_add])
          · simp only [PP, P1, P2, P3, P4, P5, P6, P7, P8, P9, P10, P11, P12, P13, P14, L1, P15, N1, N2, N3, N4, N5, N6, N7, I1, I2, I3, I4, I5, I6, I7, reduceIte, reduceCtorEq, d, hwp]
            exact SemW_weak (ih 1 (by omega) (by omega)) (by simp only [PWeak_nil, PWeak_junk, PWeak_same, Int.cast_ofNat_Int, List.length_append, List.length_cons, List.length_nil, Nat.zero_add])
        · have hwp : IntKind.u8.wrap 2 = 2 := rfl
          have hwq : IntKind.u8.wrap 0 = 0 := rfl
          have hrl := wL_len ws 1 ow.length
          have hri := wL_rise ws 1 ow.length
          have kb : (natI (wL ws 1 ow.length)).length < big := by show _ < 1000000000000; rw [List.length_map]; omega
          have hw1 : wrongM ow pr su 0 (natI (wL ws 1 ow.length)) = 0 := by
            unfold wrongM; rw [if_pos c1, if_neg (by omega), if_pos (posM_of hri.1 hri.2)]
          have hw2 : wrongM ow pr su 1 (natI (wL ws 1 ow.length)) = 0 := by
            unfold wrongM; rw [if_pos c1, if_neg (by omega), if_pos (posM_of hri.1 hri.2)]
          have htr : trapM ow pr su 0 (natI (wL ws 1 ow.length)) = .tuple [.bool true, p64 0] := by
            unfold trapM; rw [if_pos hw1, show (0 : Int) = 1 - 1 from rfl, region_trap V L (p := 1) (by omega)]
          have hat := region_attr V L (p := 1) (by omega) ho
          simp only [PP, P1, P2, P3, P4, P5, P6, P7, P8, P9, P10, P11, P12, P13, P14, L1, P15, N1, N2, N3, N4, N5, N6, N7, I1, I2, I3, I4, I5, I6, I7, reduceIte, reduceCtorEq, hwq]
          refine trap_p T B kb ?_
          rw [htr]
          simp only [PP, P1, P2, P3, P4, P5, P6, P7, P8, P9, P10, P11, P12, P13, P14, L1, P15, N1, N2, N3, N4, N5, N6, N7, I1, I2, I3, I4, I5, I6, I7, reduceIte, reduceCtorEq]
          refine attract_p T B kb (by omega) ho ?_
          unfold attrM
          rw [if_pos hw2]
          simp only [PP, P1, P2, P3, P4, P5, P6, P7, P8, P9, P10, P11, P12, P13, P14, L1, P15, N1, N2, N3, N4, N5, N6, N7, I1, I2, I3, I4, I5, I6, I7, reduceIte, reduceCtorEq, tabL_len]
          refine loop1 (fun (k : Nat) => k ≤ ow.length) (fun k => [.junk, slI false false .u8 mvs, p8 fr, .ptr 0 0 0, .junk, .junk, .junk, .ptr 1 0 0, .junk, slI false true .i64 (natI (wL ws 0 ow.length)), slI false true .i64 (natI (wL ws 1 ow.length)), .junk, p8 1, .junk, .junk, .junk, slI false true .i64 (tabL ow.length (rkOf ow su 1 (natI (wL ws 1 ow.length)))), .junk, .junk, p64 k, .junk, .junk, .junk, .junk, .junk, .junk, .junk, .junk, .junk, .junk, .junk, .junk, .junk, .junk, .junk, .junk, .junk, .junk, .junk, .junk, .junk, .junk, .junk, .junk, .junk, .junk, .junk, .junk, .junk, .junk, .junk, .junk, .junk, .junk, .junk, .junk, .junk, .junk, .junk, .junk, .junk, .junk, .junk, .junk, .junk, .junk, .junk, .junk, .junk, .junk, .junk, .junk, .junk, .junk, .junk, .junk, .junk, .junk, .junk, .junk, .junk, .junk, .junk, .junk, .junk, .junk, .junk, .junk, .junk, .junk, .junk, .junk, .junk, .junk, .junk, .junk, .junk, .junk, .junk, .junk, .junk, .junk, .junk, .junk, .junk, .junk, .junk, .junk, .junk, .junk, .junk, .junk, .junk, .junk, .junk, .junk, .junk, .junk, .junk, .junk, .junk, .junk, .junk, .junk, .junk, .junk, .junk, .junk, .junk, .junk, .junk, .junk, .junk, .junk, .junk, .junk, .junk, .junk, .junk, .junk, .junk, .junk, .junk, .junk, .junk, .junk, .junk, .junk, .junk, .junk, .junk, .junk, .junk, .junk, .junk, .junk, .junk, .junk, .junk, .junk, .junk, .junk, .junk, .junk, .junk, .junk, .junk, .junk, .junk, .junk, .junk, .junk, .junk, .junk, .junk, .junk, .junk, .junk, .junk, .junk, .junk, .junk, .junk, .junk, .junk, .junk, .junk, .junk, .junk, .junk, .junk, .junk, .junk, .junk, .junk, .junk, .junk, .junk, .junk, .junk, .junk, .junk, .junk, .junk, .junk, .junk, .junk, .junk, .junk, .junk, .junk, .junk, .junk, .junk, .junk, .junk, .junk, .junk, .junk, .junk, .junk, .junk, .junk, .junk, .junk, .junk, .junk, .junk, .junk, .junk, .junk, .junk, .junk, .junk, .junk, .junk, .junk, .junk, .junk, .junk, .junk, .junk, .junk, .junk, .junk, .junk, .junk, .junk, .junk, .junk, .junk, .junk, .junk, .junk, .junk, .junk, .junk, .junk, .junk, .junk, .junk, .junk, .junk, .junk, .junk, .junk, .junk, .junk])
            (fun _ => [.cells 0 0 [slI false false .u8 ow, slI false false .i64 pr, slR false false false false .i64 su], .cells 0 1 [slI false true .u8 ws, slI false true .i64 ss]]) (fun k => ow.length - k) 0 (by omega) (by simp only [PWeak_nil, PWeak_junk, PWeak_same, Int.cast_ofNat_Int, tabL_len]) rfl ?_
          intro k hkl ih2
          refine SemW_go (by kernel_rfl) ?_
          simp only [PP, P1, P2, P3, P4, P5, P6, P7, P8, P9, P10, P11, P12, P13, P14, L1, P15, N1, N2, N3, N4, N5, N6, N7, I1, I2, I3, I4, I5, I6, I7, reduceIte, reduceCtorEq, tabL_len]
          refine QIf.intro (fun d => ?_) (fun d => ?_)
          · have hk : k < ow.length := by omega
            have k0 : (0 : Int) ≤ k := by omega
            have kn : (k : Int) < ow.length := by omega
            have hwk := wrap_succ (k := k) (by show _ < 1000000000000; omega)
            obtain ⟨x, g1⟩ := some_of (xs := ws) (k := k) (by omega)
            have g2 := tabL_get (R := rkOf ow su 1 (natI (wL ws 1 ow.length))) hk
            have hx := hat k hk
            rw [getD_some g1] at hx
            have hdx : decide (0 ≤ rkOf ow su 1 (natI (wL ws 1 ow.length)) k) = decide (x = 1) := by simp only [hx]
            simp only [PP, P1, P2, P3, P4, P5, P6, P7, P8, P9, P10, P11, P12, P13, P14, L1, P15, N1, N2, N3, N4, N5, N6, N7, I1, I2, I3, I4, I5, I6, I7, reduceIte, reduceCtorEq, d, k0, kn, g1, g2, lw, tabL_len, hdx, hwk]
            exact SemW_weak (ih2 (k + 1) (by omega) (by omega)) (by simp only [PWeak_nil, PWeak_junk, PWeak_same, Int.cast_ofNat_Int, List.length_append, List.length_cons, List.length_nil, Nat.zero_add])
          · simp only [PP, P1, P2, P3, P4, P5, P6, P7, P8, P9, P10, P11, P12, P13, P14, L1, P15, N1, N2, N3, N4, N5, N6, N7, I1, I2, I3, I4, I5, I6, I7, reduceIte, reduceCtorEq, d, hwp]
            exact SemW_weak (ih 2 (by omega) (by omega)) (by simp only [PWeak_nil, PWeak_junk, PWeak_same, Int.cast_ofNat_Int, List.length_append, List.length_cons, List.length_nil, Nat.zero_add])
      · simp only [PP, P1, P2, P3, P4, P5, P6, P7, P8, P9, P10, P11, P12, P13, P14, L1, P15, N1, N2, N3, N4, N5, N6, N7, I1, I2, I3, I4, I5, I6, I7, reduceIte, reduceCtorEq, c]
        have b0 : (0 : Int) ≤ ow.length := by omega
        have b1' : (ow.length : Int) * 8 ≤ 140737488355328 := by omega
        have b2' : (ow.length : Int) ≤ 9223372036854775807 := by omega
        have w0 : IntKind.i64.wrap fr = fr := wrap64 (by omega) (by omega)
        obtain ⟨q, hq, hqn⟩ : ∃ q : Nat, fr.tmod ow.length = q ∧ q < ow.length := by
          have h1 := Int.tmod_nonneg (a := fr) (ow.length : Int) hf0
          have h2 := Int.tmod_lt_of_pos fr (b := (ow.length : Int)) (by omega)
          exact ⟨(fr.tmod ow.length).toNat, by omega, by omega⟩
        have q0 : (0 : Int) ≤ q := by omega
        have q1 : (q : Int) < ow.length := by omega
        simp only [PP, P1, P2, P3, P4, P5, P6, P7, P8, P9, P10, P11, P12, P13, P14, L1, P15, N1, N2, N3, N4, N5, N6, N7, I1, I2, I3, I4, I5, I6, I7, reduceIte, reduceCtorEq, w0, prem cn, hq, b0, b1', b2', Int.le_refl]
        clear ih
        obtain ⟨p, g8⟩ := some_of (xs := ws) (k := q) (by omega)
        have hwq : ws.getD q 0 = p := getD_some g8
        have hp01 : p = 0 ∨ p = 1 := L.w01 p (List.mem_of_getElem? g8)
        refine SemW_gh ?_
        refine loop3 (fun (v ver : Nat) (a : List Int) => v ≤ ow.length ∧ a.length = ow.length ∧ ∀ u, u < v → a[u]? = some (detF ow ws ss su mvs p u))
          (fun v ver a => [.junk, slI false false .u8 mvs, .junk, .ptr 0 0 0, .junk, .junk, .junk, .ptr 1 0 0, .junk, .junk, .junk, .junk, .junk, .junk, .junk, .junk, .junk, .junk, .junk, .junk, p64 q, .ref 2 0 1 0 ow.length, p64 v, .junk, .junk, .junk, .junk, .junk, .junk, .junk, .junk, .junk, .junk, .junk, .junk, .junk, .junk, .junk, .junk, .junk, .junk, .junk, .junk, .junk, .junk, .junk, .junk, .junk, .junk, .junk, .junk, .junk, .junk, .junk, .junk, .junk, .junk, .junk, .junk, .junk, .junk, .junk, .junk, .junk, .junk, .junk, .junk, .junk, .junk, .junk, .junk, .junk, .junk, .junk, .junk, .junk, .junk, .junk, .junk, .junk, .junk, .junk, .junk, .junk, .junk, .junk, .junk, .junk, .junk, .junk, .junk, .junk, .junk, .junk, .junk, .junk, .junk, .junk, .junk, .junk, .junk, .junk, .junk, .junk, .junk, .junk, .junk, .junk, .junk, .junk, .junk, .junk, .junk, .junk, .junk, .junk, .junk, .junk, .junk, .junk, .junk, .junk, .junk, .junk, .junk, .junk, .junk, .junk, .junk, .junk, .junk, .junk, .junk, .junk, .junk, .junk, .junk, .junk, .junk, .junk, .junk, .junk, .junk, .junk, .junk, .junk, .junk, .junk, .junk, .junk, .junk, .junk, .junk, .junk, .junk, .junk, .junk, .junk, .junk, .junk, .junk, .junk, .junk, .junk, .junk, .junk, .junk, .junk, .junk, .junk, .junk, .junk, .junk, .junk, .junk, .junk, .junk, .junk, .junk, .junk, .junk, .junk, .junk, .junk, .junk, .junk, .junk, .junk, .junk, .junk, .junk, .junk, .junk, .junk, .junk, .junk, .junk, .junk, .junk, .junk, .junk, .junk, .junk, .junk, .junk, .junk, .junk, .junk, .junk, .junk, .junk, .junk, .junk, .junk, .junk, .junk, .junk, .junk, .junk, .junk, .junk, .junk, .junk, .junk, .junk, .junk, .junk, .junk, .junk, .junk, .junk, .junk, .junk, .junk, .junk, .junk, .junk, .junk, .junk, .junk, .junk, .junk, .junk, .junk, .junk, .junk, .junk, .junk, .junk, .junk, .junk, .junk, .junk, .junk, .junk, .junk, .junk, .junk, .junk, .junk, .junk, .junk, .junk, .junk, .junk, .junk, .junk, .junk])
          (fun v ver a => [.cells 0 0 [slI false false .u8 ow, slI false false .i64 pr, slR false false false false .i64 su], .cells 0 1 [slI false true .u8 ws, slI false true .i64 ss], .cells 0 ver (a.map (PV.int .i64))])
          (fun v _ _ => ow.length - v) 0 0 (List.replicate ow.length 0) ⟨by omega, by simp, by intro u h; omega⟩ (by simp only [PWeak_nil, PWeak_junk, PWeak_same, Int.cast_ofNat_Int, List.length_append, List.length_cons, List.length_nil, Nat.zero_add]) (by simp only [List.map_replicate]) ?_
        intro v ver a ⟨hle, ha, hget⟩ ih
        refine SemW_go (by kernel_rfl) ?_
        simp only [PP, P1, P2, P3, P4, P5, P6, P7, P8, P9, P10, P11, P12, P13, P14, L1, P15, N1, N2, N3, N4, N5, N6, N7, I1, I2, I3, I4, I5, I6, I7, reduceIte, reduceCtorEq]
        refine QIf.intro (fun d => ?_) (fun d => ?_)
        · have hv : v < ow.length := by omega
          have hwv := wrap_succ (k := v) (by show _ < 1000000000000; omega)
          have v0 : (0 : Int) ≤ v := by omega
          have vn : (v : Int) < ow.length := by omega
          have hvs : v < su.length := by have := V.s; omega
          have hvl : (v : Int) < su.length := by omega
          have i1 : v + 1 ≤ ow.length := hv
          obtain ⟨_, _, _, hr0, _⟩ := V.row v hvs
          obtain ⟨row, g2⟩ := some_of (xs := su) (k := v) hvs
          have hr0 : 0 < row.length := by rw [List.getElem?_eq_getElem hvs] at g2; cases g2; exact hr0
          have e2 : su.getD v [] = row := by simp [List.getD, g2]
          obtain ⟨o, g5⟩ := some_of (xs := ow) (k := v) hv
          obtain ⟨w, g6⟩ := some_of (xs := ws) (k := v) (by omega)
          obtain ⟨s, g7⟩ := some_of (xs := ss) (k := v) (by omega)
          simp only [PP, P1, P2, P3, P4, P5, P6, P7, P8, P9, P10, P11, P12, P13, P14, L1, P15, N1, N2, N3, N4, N5, N6, N7, I1, I2, I3, I4, I5, I6, I7, reduceIte, reduceCtorEq, d, v0]
          refine QIf.intro (fun c => ?_) (fun c => ?_)
          · obtain ⟨m, gm⟩ := some_of (xs := mvs) (k := v) (by omega)
            have gmv : mvs.getD v 0 = m := getD_some gm
            obtain ⟨m0, m1⟩ := hm m (List.mem_of_getElem? gm)
            have hwm : IntKind.i64.wrap m = m := wrap64 (by omega) (by omega)
            simp only [PP, P1, P2, P3, P4, P5, P6, P7, P8, P9, P10, P11, P12, P13, P14, L1, P15, N1, N2, N3, N4, N5, N6, N7, I1, I2, I3, I4, I5, I6, I7, reduceIte, reduceCtorEq, c, gm, v0]
            have hrl : (row.length : Int) ≠ 0 := by omega
            have t1 := Int.tmod_nonneg (a := m) (row.length : Int) (by omega)
            have t2 := Int.tmod_lt_of_pos (m) (b := (row.length : Int)) (by omega)
            obtain ⟨x, g4⟩ := some_of (xs := row) (k := ((m : Int).tmod (row.length : Int)).toNat) (by omega)
            have hfx : detF ow ws ss su mvs p v = if o = p ∧ w = p then s else x := by
              unfold detF
              rw [gmv, e2, getD_some g4, getD_some g5, getD_some g6, getD_some g7]
            simp only [PP, P1, P2, P3, P4, P5, P6, P7, P8, P9, P10, P11, P12, P13, P14, L1, P15, N1, N2, N3, N4, N5, N6, N7, I1, I2, I3, I4, I5, I6, I7, reduceIte, reduceCtorEq, hwm, v0, g2, prem hrl, t1, t2, g4, hvl, i1, vn, d, g5, g6, g8, ha, lw, q0, q1]
            refine QIf.intro (fun q => ?_) (fun q => ?_)
            · simp only [PP, P1, P2, P3, P4, P5, P6, P7, P8, P9, P10, P11, P12, P13, P14, L1, P15, N1, N2, N3, N4, N5, N6, N7, I1, I2, I3, I4, I5, I6, I7, reduceIte, reduceCtorEq, q, g6, g8, v0, vn, lw, ls, q0, q1]
              refine QIf.intro (fun q2 => ?_) (fun q2 => ?_)
              · rw [if_pos ⟨q, q2⟩] at hfx
                simp only [PP, P1, P2, P3, P4, P5, P6, P7, P8, P9, P10, P11, P12, P13, P14, L1, P15, N1, N2, N3, N4, N5, N6, N7, I1, I2, I3, I4, I5, I6, I7, reduceIte, reduceCtorEq, q, q2, v0, vn, g7, ls, i1, ha, hwv]
                refine SemW_to (ih (v + 1) (ver + 1 + 1) ((a.set v x).set v s) ⟨by omega, by simp [ha], fun u hu => ?_⟩ (by omega)) (by simp only [PWeak_nil, PWeak_junk, PWeak_same, Int.cast_ofNat_Int, List.length_append, List.length_cons, List.length_nil, Nat.zero_add]) (by simp only [← List.map_set])
                by_cases e : u = v
                · subst e; rw [set_at (by simp; omega), hfx]
                · rw [set_low e, set_low e]; exact hget u (by omega)
              · rw [if_neg (fun h => q2 h.2)] at hfx
                simp only [PP, P1, P2, P3, P4, P5, P6, P7, P8, P9, P10, P11, P12, P13, P14, L1, P15, N1, N2, N3, N4, N5, N6, N7, I1, I2, I3, I4, I5, I6, I7, reduceIte, reduceCtorEq, q2, hwv]
                refine SemW_to (ih (v + 1) (ver + 1) (a.set v x) ⟨by omega, by simp [ha], fun u hu => ?_⟩ (by omega)) (by simp only [PWeak_nil, PWeak_junk, PWeak_same, Int.cast_ofNat_Int, List.length_append, List.length_cons, List.length_nil, Nat.zero_add]) (by simp only [← List.map_set])
                by_cases e : u = v
                · subst e; rw [set_at (by omega), hfx]
                · rw [set_low e]; exact hget u (by omega)
            · rw [if_neg (fun h => q h.1)] at hfx
              simp only [PP, P1, P2, P3, P4, P5, P6, P7, P8, P9, P10, P11, P12, P13, P14, L1, P15, N1, N2, N3, N4, N5, N6, N7, I1, I2, I3, I4, I5, I6, I7, reduceIte, reduceCtorEq, q, hwv]
              refine SemW_to (ih (v + 1) (ver + 1) (a.set v x) ⟨by omega, by simp [ha], fun u hu => ?_⟩ (by omega)) (by simp only [PWeak_nil, PWeak_junk, PWeak_same, Int.cast_ofNat_Int, List.length_append, List.length_cons, List.length_nil, Nat.zero_add]) (by simp only [← List.map_set])
              by_cases e : u = v
              · subst e; rw [set_at (by omega), hfx]
              · rw [set_low e]; exact hget u (by omega)
          · have gmv : mvs.getD v 0 = 0 := by rw [List.getD, List.getElem?_eq_none (by omega)]; rfl
            simp only [PP, P1, P2, P3, P4, P5, P6, P7, P8, P9, P10, P11, P12, P13, P14, L1, P15, N1, N2, N3, N4, N5, N6, N7, I1, I2, I3, I4, I5, I6, I7, reduceIte, reduceCtorEq, c]
            have hrl : (row.length : Int) ≠ 0 := by omega
            have t1 := Int.tmod_nonneg (a := 0) (row.length : Int) (by omega)
            have t2 := Int.tmod_lt_of_pos (0 : Int) (b := (row.length : Int)) (by omega)
            obtain ⟨x, g4⟩ := some_of (xs := row) (k := ((0 : Int).tmod (row.length : Int)).toNat) (by omega)
            have hfx : detF ow ws ss su mvs p v = if o = p ∧ w = p then s else x := by
              unfold detF
              rw [gmv, e2, getD_some g4, getD_some g5, getD_some g6, getD_some g7]
            simp only [PP, P1, P2, P3, P4, P5, P6, P7, P8, P9, P10, P11, P12, P13, P14, L1, P15, N1, N2, N3, N4, N5, N6, N7, I1, I2, I3, I4, I5, I6, I7, reduceIte, reduceCtorEq, v0, g2, prem hrl, t1, t2, g4, hvl, i1, vn, d, g5, g6, g8, ha, lw, q0, q1]
            refine QIf.intro (fun q => ?_) (fun q => ?_)
            · simp only [PP, P1, P2, P3, P4, P5, P6, P7, P8, P9, P10, P11, P12, P13, P14, L1, P15, N1, N2, N3, N4, N5, N6, N7, I1, I2, I3, I4, I5, I6, I7, reduceIte, reduceCtorEq, q, g6, g8, v0, vn, lw, ls, q0, q1]
              refine QIf.intro (fun q2 => ?_) (fun q2 => ?_)
              · rw [if_pos ⟨q, q2⟩] at hfx
                simp only [PP, P1, P2, P3, P4, P5, P6, P7, P8, P9, P10, P11, P12, P13, P14, L1, P15, N1, N2, N3, N4, N5, N6, N7, I1, I2, I3, I4, I5, I6, I7, reduceIte, reduceCtorEq, q, q2, v0, vn, g7, ls, i1, ha, hwv]
                refine SemW_to (ih (v + 1) (ver + 1 + 1) ((a.set v x).set v s) ⟨by omega, by simp [ha], fun u hu => ?_⟩ (by omega)) (by simp only [PWeak_nil, PWeak_junk, PWeak_same, Int.cast_ofNat_Int, List.length_append, List.length_cons, List.length_nil, Nat.zero_add]) (by simp only [← List.map_set])
                by_cases e : u = v
                · subst e; rw [set_at (by simp; omega), hfx]
                · rw [set_low e, set_low e]; exact hget u (by omega)
              · rw [if_neg (fun h => q2 h.2)] at hfx
                simp only [PP, P1, P2, P3, P4, P5, P6, P7, P8, P9, P10, P11, P12, P13, P14, L1, P15, N1, N2, N3, N4, N5, N6, N7, I1, I2, I3, I4, I5, I6, I7, reduceIte, reduceCtorEq, q2, hwv]
                refine SemW_to (ih (v + 1) (ver + 1) (a.set v x) ⟨by omega, by simp [ha], fun u hu => ?_⟩ (by omega)) (by simp only [PWeak_nil, PWeak_junk, PWeak_same, Int.cast_ofNat_Int, List.length_append, List.length_cons, List.length_nil, Nat.zero_add]) (by simp only [← List.map_set])
                by_cases e : u = v
                · subst e; rw [set_at (by omega), hfx]
                · rw [set_low e]; exact hget u (by omega)
            · rw [if_neg (fun h => q h.1)] at hfx
              simp only [PP, P1, P2, P3, P4, P5, P6, P7, P8, P9, P10, P11, P12, P13, P14, L1, P15, N1, N2, N3, N4, N5, N6, N7, I1, I2, I3, I4, I5, I6, I7, reduceIte, reduceCtorEq, q, hwv]
              refine SemW_to (ih (v + 1) (ver + 1) (a.set v x) ⟨by omega, by simp [ha], fun u hu => ?_⟩ (by omega)) (by simp only [PWeak_nil, PWeak_junk, PWeak_same, Int.cast_ofNat_Int, List.length_append, List.length_cons, List.length_nil, Nat.zero_add]) (by simp only [← List.map_set])
              by_cases e : u = v
              · subst e; rw [set_at (by omega), hfx]
              · rw [set_low e]; exact hget u (by omega)
        · have hvn : v = ow.length := by omega
          subst hvn
          have hat := tabL_of ha hget
          subst hat
          simp only [PP, P1, P2, P3, P4, P5, P6, P7, P8, P9, P10, P11, P12, P13, P14, L1, P15, N1, N2, N3, N4, N5, N6, N7, I1, I2, I3, I4, I5, I6, I7, reduceIte, reduceCtorEq, d, tabL_len]
          refine Gh.step (GStep.freeze (b := [.junk, .junk, .junk, .ptr 0 0 0, .junk, .junk, .junk, .ptr 1 0 0, .junk, .junk, .junk, .junk, .junk, .junk, .junk, .junk, .junk, .junk, .junk, .junk, p64 q, slI false true .i64 (tabL ow.length (detF ow ws ss su mvs p)), .junk, .junk, .junk, .junk, .junk, .junk, .junk, .junk, .junk, .junk, .junk, .junk, .junk, .junk, .junk, .junk, .junk, .junk, .junk, .junk, .junk, .junk, .junk, .junk, .junk, .junk, .junk, .junk, .junk, .junk, .junk, .junk, .junk, .junk, .junk, .junk, .junk, .junk, .junk, .junk, .junk, .junk, .junk, .junk, .junk, .junk, .junk, .junk, .junk, .junk, .junk, .junk, .junk, .junk, .junk, .junk, .junk, .junk, .junk, .junk, .junk, .junk, .junk, .junk, .junk, .junk, .junk, .junk, .junk, .junk, .junk, .junk, .junk, .junk, .junk, .junk, .junk, .junk, .junk, .junk, .junk, .junk, .junk, .junk, .junk, .junk, .junk, .junk, .junk, .junk, .junk, .junk, .junk, .junk, .junk, .junk, .junk, .junk, .junk, .junk, .junk, .junk, .junk, .junk, .junk, .junk, .junk, .junk, .junk, .junk, .junk, .junk, .junk, .junk, .junk, .junk, .junk, .junk, .junk, .junk, .junk, .junk, .junk, .junk, .junk, .junk, .junk, .junk, .junk, .junk, .junk, .junk, .junk, .junk, .junk, .junk, .junk, .junk, .junk, .junk, .junk, .junk, .junk, .junk, .junk, .junk, .junk, .junk, .junk, .junk, .junk, .junk, .junk, .junk, .junk, .junk, .junk, .junk, .junk, .junk, .junk, .junk, .junk, .junk, .junk, .junk, .junk, .junk, .junk, .junk, .junk, .junk, .junk, .junk, .junk, .junk, .junk, .junk, .junk, .junk, .junk, .junk, .junk, .junk, .junk, .junk, .junk, .junk, .junk, .junk, .junk, .junk, .junk, .junk, .junk, .junk, .junk, .junk, .junk, .junk, .junk, .junk, .junk, .junk, .junk, .junk, .junk, .junk, .junk, .junk, .junk, .junk, .junk, .junk, .junk, .junk, .junk, .junk, .junk, .junk, .junk, .junk, .junk, .junk, .junk, .junk, .junk, .junk, .junk, .junk, .junk, .junk, .junk, .junk, .junk, .junk, .junk, .junk, .junk, .junk, .junk, .junk, .junk, .junk, .junk, .junk]) 2 (Nat.zero_le _) rfl (by
            simp only [PFrz_junk, PFrz_same]
            rw [PFrz_ref (by rw [List.length_map, tabL_len]; omega) (by rw [Nat.mul_one, psub_tab]; unfold slI; rw [tabL_len])]
            simp only [PFrz_nil, PFrz_junk, PFrz_same]) rfl) (Gh.same ?_)
          have hF := fun v hv => detF_mem V L hp01 (fun x hx => (hm x hx).1) (v := v) hv
          obtain ⟨hf, hfn, mm, kk, hpl⟩ := full_play V hqn (detF ow ws ss su mvs p) hF
          obtain ⟨hwin, hmem, hne⟩ := det_wins V L hp01 (fun x hx => (hm x hx).1) hqn hwq hpl
          simp only [PP, P1, P2, P3, P4, P5, P6, P7, P8, P9, P10, P11, P12, P13, P14, L1, P15, N1, N2, N3, N4, N5, N6, N7, I1, I2, I3, I4, I5, I6, I7, reduceIte, reduceCtorEq]
          refine play_p T B (by show _ < 1000000000000; rw [tabL_len]; omega) ?_
          unfold playM
          rw [if_pos (playE_full c1 hqn hF)]
          have hln : (playL (tabL ow.length (detF ow ws ss su mvs p)) (ow.length + 1) q []).2.length ≤ ow.length := by
            have := hpl.len; have := hpl.mn; omega
          generalize playL (tabL ow.length (detF ow ws ss su mvs p)) (ow.length + 1) q [] = pl at hwin hmem hne hln ⊢
          obtain ⟨pre, lp⟩ := pl
          simp only at hwin hmem hne hln ⊢
          have hne' : ¬ (lp.length : Int) = 0 := fun h => hne (List.length_eq_zero_iff.1 (by omega))
          have hwm : winM ow pr su lp = .tuple [p8 p, p64 0] := by
            unfold winM
            rw [if_pos c1, if_neg hne', winL_of hmem, par_u8 mxP_ge, hwin]
          simp only [PP, P1, P2, P3, P4, P5, P6, P7, P8, P9, P10, P11, P12, P13, P14, L1, P15, N1, N2, N3, N4, N5, N6, N7, I1, I2, I3, I4, I5, I6, I7, reduceIte, reduceCtorEq]
          refine winner_p T B (by show _ < 1000000000000; omega) ?_
          rw [hwm]
          simp only [PP, P1, P2, P3, P4, P5, P6, P7, P8, P9, P10, P11, P12, P13, P14, L1, P15, N1, N2, N3, N4, N5, N6, N7, I1, I2, I3, I4, I5, I6, I7, reduceIte, reduceCtorEq, q0, q1, g8, lw]
end
end Go.Am.Ar
set_option linter.unusedVariables false
set_option linter.unusedSimpArgs false
namespace Go.Am.Ar
abbrev gameTy : Ty := .pair (.slice (.int .u8)) (.pair (.slice (.int .i64)) (.pair (.slice (.slice (.int .i64))) .unit))
structure Nums (ow pr : List Int) (su : List (List Int)) : Prop where
  o : ∀ x ∈ ow, 0 ≤ x ∧ x ≤ 255
  p : ∀ x ∈ pr, -9223372036854775808 ≤ x ∧ x ≤ 9223372036854775807
  s : ∀ r ∈ su, ∀ x ∈ r, -9223372036854775808 ≤ x ∧ x ≤ 9223372036854775807
  lo : ow.length ≤ 9223372036854775807
  lp : pr.length ≤ 9223372036854775807
  ls : su.length ≤ 9223372036854775807
  lr : ∀ r ∈ su, r.length ≤ 9223372036854775807
theorem arg_game {v : AV} {h : H} (hs : ShV gameTy v h) : ∃ (ow pr : List Int) (su : List (List Int)), RepV (wH h) (gmP false false false false false false false false ow pr su) v ∧ Nums ow pr su := by
  obtain ⟨avs, hs, rfl⟩ := hs
  obtain ⟨c1, c2, rfl, h1, c3, c4, rfl, h2, c5, c6, rfl, h3, h4⟩ := hs
  have h4 : c6 = [] := h4
  subst h4
  obtain ⟨vo, ow, rfl, p1, q1, r1⟩ := sh_intsP h1
  obtain ⟨vp, pr, rfl, p2, q2, r2⟩ := sh_intsP h2
  obtain ⟨vs, su, rfl, p3, q3, r3⟩ := sh_rowsP h3
  refine ⟨ow, pr, su, ?_, ⟨r1, r2, fun r hr => (r3 r hr).2, q1, q2, q3, fun r hr => (r3 r hr).1⟩⟩
  have := RepL.cons p1 (.cons p2 (.cons p3 (.nil (wH h))))
  exact .agg this.len this.get
theorem arg_ints {k : IntKind} {v : AV} {h : H} (hs : ShV (.slice (.int k)) v h) : ∃ (xs : List Int), RepV (wH h) (slI false false k xs) v ∧ xs.length ≤ 9223372036854775807 ∧ ∀ x ∈ xs, k.min ≤ x ∧ x ≤ k.max := by
  obtain ⟨avs, hs, rfl⟩ := hs
  obtain ⟨v, xs, rfl, p, q, r⟩ := sh_intsP hs
  exact ⟨xs, p, q, r⟩
theorem arg_int {k : IntKind} {v : AV} {h : H} (hs : ShV (.int k) v h) : ∃ (x : Int), v = .int k x ∧ RepV (wH h) (.int k x) v ∧ k.min ≤ x ∧ x ≤ k.max := by
  obtain ⟨avs, hs, rfl⟩ := hs
  obtain ⟨x, rfl, p⟩ := hs
  exact ⟨x, rfl, .int k x, p⟩
theorem run_of_C {tab : FuncId → Option AF} {g : FuncId} {args : List AV} {h : H} (hc : C (lim tab) g args h fun v _ => v = .bool true) : ∃ n h', (run tab n).call g args h = some (.bool true, h') := by
  unfold C at hc
  obtain ⟨v, h', he, rfl⟩ := hc
  obtain ⟨n, hn⟩ := (lim_call_iff tab).1 he
  exact ⟨n, h', hn⟩
theorem shVs1 {A : Ty} {args : List AV} {h : H} (hs : ShVs [A] args h) : ∃ a, args = [a] ∧ ShV A a h := by
  match args, hs with
  | [a], ⟨h1, _⟩ => exact ⟨a, rfl, h1⟩
theorem shVs2 {A B : Ty} {args : List AV} {h : H} (hs : ShVs [A, B] args h) : ∃ a b, args = [a, b] ∧ ShV A a h ∧ ShV B b h := by
  match args, hs with
  | [a, b], ⟨h1, h2, _⟩ => exact ⟨a, b, rfl, h1, h2⟩
theorem shVs3 {A B D : Ty} {args : List AV} {h : H} (hs : ShVs [A, B, D] args h) : ∃ a b d, args = [a, b, d] ∧ ShV A a h ∧ ShV B b h ∧ ShV D d h := by
  match args, hs with
  | [a, b, d], ⟨h1, h2, h3, _⟩ => exact ⟨a, b, d, rfl, h1, h2, h3⟩
theorem shVs4 {A B D E : Ty} {args : List AV} {h : H} (hs : ShVs [A, B, D, E] args h) : ∃ a b d e, args = [a, b, d, e] ∧ ShV A a h ∧ ShV B b h ∧ ShV D d h ∧ ShV E e h := by
  match args, hs with
  | [a, b, d, e], ⟨h1, h2, h3, h4, _⟩ => exact ⟨a, b, d, e, rfl, h1, h2, h3, h4⟩
theorem shVs5 {A B D E F : Ty} {args : List AV} {h : H} (hs : ShVs [A, B, D, E, F] args h) : ∃ a b d e f, args = [a, b, d, e, f] ∧ ShV A a h ∧ ShV B b h ∧ ShV D d h ∧ ShV E e h ∧ ShV F f h := by
  match args, hs with
  | [a, b, d, e, f], ⟨h1, h2, h3, h4, h5, _⟩ => exact ⟨a, b, d, e, f, rfl, h1, h2, h3, h4, h5⟩
end Go.Am.Ar
set_option linter.unusedVariables false
namespace Go.Am.Ar
theorem zdet_all {tab : FuncId → Option AF} (T : HasA tab) (args : List AV) (h : H) (hs : ShVs [gameTy, .slice (.int .u8), .int .u8] args h) :
    ∃ n h', (run tab n).call 8 args h = some (.bool true, h') := by
  obtain ⟨a, b, c, rfl, ha, hb, hc⟩ := shVs3 hs
  obtain ⟨ow, pr, su, r1, N⟩ := arg_game ha
  obtain ⟨mvs, r2, m1, m2⟩ := arg_ints hb
  obtain ⟨fr, rfl, r3, f0, f1⟩ := arg_int hc
  exact run_of_C (law_of_sem (.cons r1 (.cons r2 (.cons r3 (.nil _)))) (zdet_p T (fun x hx => (N.o x hx).1) m2 f0 f1 m1))
end Go.Am.Ar
