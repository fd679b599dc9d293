/- The law that plays which follow the strategy of an attractor visit the set in time, and what goes with it. -/
import Derived.Test.YtjknfmndhbafoaaArenaReachesG2
import Derived.Test.YtjknfmndhbafoaaArenaReachesG0
import Derived.Test.YtjknfmndhbafoaaPmL
set_option linter.unusedVariables false
set_option linter.unusedSimpArgs false
set_option maxRecDepth 10000
namespace Go.Am.Ar
open Go.Am renaming pchk → P1, pold → P2, PKNo → P3, ppack → P4, PObj.under → P5, pput → P6, ptset → P7, ptget → P8, pev → P9, ofAV → P10, ofAV1 → P11, ppad → P12, pfill → P13, prepl → P14, AO.effect → P15
open List renaming replicate → L1
open Nat renaming reduceAdd → N1, reduceSub → N2, reduceMul → N3, reduceLT → N4, reduceLeDiff → N5, reduceEqDiff → N6, reduceBEq → N7
open Int renaming reduceToNat → I1, reduceLT → I2, reduceLE → I3, reduceEq → I4, reduceAdd → I5, reduceSub → I6, reduceNeg → I7
/-- The move at a position: the strategy's, or else the one that a number chooses. -/
def fullI (ow : List Int) (su : List (List Int)) (side : Int) (keep mvs : List Int) (v : Nat) : Int :=
  if 0 ≤ stratOf ow su side (rkOf ow su side keep) v then stratOf ow su side (rkOf ow su side keep) v else (su.getD v []).getD ((mvs.getD v 0).tmod ((su.getD v []).length : Int)).toNat 0
theorem firstS_mem {R : Nat → Int} {r : Int} : ∀ {row : List Int}, 0 ≤ firstS R r row → firstS R r row ∈ row ∧ R (firstS R r row).toNat = r
  | [], h => by simp [firstS] at h
  | u :: l, h => by
    unfold firstS at h ⊢
    split
    · rename_i q; exact ⟨by simp, q⟩
    · rename_i q
      rw [if_neg q] at h
      obtain ⟨h1, h2⟩ := firstS_mem h
      exact ⟨by simp [h1], h2⟩
theorem fullI_mem {ow pr : List Int} {su : List (List Int)} {side : Int} {keep mvs : List Int} (V : Valid ow pr su) (hm : ∀ x ∈ mvs, 0 ≤ x) {v : Nat} (hv : v < ow.length) : fullI ow su side keep mvs v ∈ su.getD v [] := by
  unfold fullI
  split
  · rename_i h
    unfold stratOf at h ⊢
    split
    · rename_i q; rw [if_pos q] at h; exact (firstS_mem h).1
    · rename_i q; rw [if_neg q] at h; omega
  · have hvs : v < su.length := by have := V.s; omega
    obtain ⟨_, _, _, hl, _⟩ := V.row v hvs
    have hm0 : 0 ≤ mvs.getD v 0 := by
      rw [List.getD]
      cases h : mvs[v]? with
      | none => simp
      | some x => exact hm x (List.mem_of_getElem? h)
    rw [List.getD, List.getElem?_eq_getElem hvs, Option.getD_some]
    have h1 := Int.tmod_nonneg (a := mvs.getD v 0) (su[v].length : Int) hm0
    have h2 := Int.tmod_lt_of_pos (mvs.getD v 0) (b := (su[v].length : Int)) (by omega)
    have h3 : ((mvs.getD v 0).tmod (su[v].length : Int)).toNat < su[v].length := by omega
    rw [List.getD, List.getElem?_eq_getElem h3]
    exact List.getElem_mem h3
theorem wrong_check {ow pr : List Int} {su : List (List Int)} {side : Int} {keep : List Int} (h : wrongM ow pr su side keep = 0) : checkM ow pr su = 0 := by
  unfold wrongM at h
  split at h
  · rename_i h0; exact h0
  · rename_i h0; exact absurd h h0
theorem movM_of {su : List (List Int)} : ∀ {l : List Int} {k : Nat}, (∀ (i : Nat) (u : Int), l[i]? = some u → u ∈ su.getD (k + i) []) → movM su k l = true
  | [], k, h => rfl
  | x :: l, k, h => by
    unfold movM
    rw [if_pos (by simpa using h 0 x rfl)]
    exact movM_of fun i u q => by rw [show k + 1 + i = k + (i + 1) by omega]; exact h (i + 1) u (by simpa using q)
theorem playE_full {ow pr : List Int} {su : List (List Int)} {q : Nat} {F : Nat → Int} (c : checkM ow pr su = 0) (hqn : q < ow.length) (hF : ∀ v, v < ow.length → F v ∈ su.getD v []) : playE ow pr su (tabL ow.length F) q = 0 := by
  unfold playE
  rw [if_pos c, if_neg (by omega), if_neg (by omega), if_pos (by rw [tabL_len]), if_pos (movM_of fun i u h => ?_)]
  have hi := getSome_lt h
  rw [tabL_len] at hi
  rw [tabL_get hi] at h
  cases h
  rw [Nat.zero_add]
  exact hF i hi
theorem su_range {ow pr : List Int} {su : List (List Int)} (V : Valid ow pr su) {v : Nat} {u : Int} (hv : v < ow.length) (h : u ∈ su.getD v []) : 0 ≤ u ∧ u < ow.length := by
  have hvs : v < su.length := by have := V.s; omega
  obtain ⟨_, _, _, _, hp⟩ := V.row v hvs
  rw [List.getD, List.getElem?_eq_getElem hvs] at h
  have := (posM_rise hp).2 u h
  omega
/-- A play of total moves. -/
theorem full_play {ow pr : List Int} {su : List (List Int)} (V : Valid ow pr su) {q : Nat} (hqn : q < ow.length) (F : Nat → Int) (hF : ∀ v, v < ow.length → F v ∈ su.getD v []) :
    (∀ v, v < ow.length → F v = ((F v).toNat : Int)) ∧ (∀ v, v < ow.length → (F v).toNat < ow.length) ∧ ∃ m k, IsPlay (fun v => (F v).toNat) q ow.length (playL (tabL ow.length F) (ow.length + 1) q []).1 (playL (tabL ow.length F) (ow.length + 1) q []).2 m k := by
  have h1 : ∀ v, v < ow.length → F v = ((F v).toNat : Int) := fun v hv => by have := su_range V hv (hF v hv); omega
  have h2 : ∀ v, v < ow.length → (F v).toNat < ow.length := fun v hv => by have := su_range V hv (hF v hv); omega
  exact ⟨h1, h2, play_spec (fun v hv => by rw [tabL_get hv, ← h1 v hv]) h2 hqn⟩
theorem firstS_some {R : Nat → Int} {r : Int} : ∀ {row : List Int}, (∀ u ∈ row, 0 ≤ u) → (∃ u ∈ row, R u.toNat = r) → 0 ≤ firstS R r row
  | [], _, ⟨u, h, _⟩ => by cases h
  | x :: l, hn, ⟨u, h1, h2⟩ => by
    unfold firstS
    split
    · exact hn x (by simp)
    · rename_i q
      rcases List.mem_cons.1 h1 with rfl | h1
      · exact absurd h2 q
      · exact firstS_some (fun u hu => hn u (by simp [hu])) ⟨u, h1, h2⟩
theorem full_falls {ow pr : List Int} {su : List (List Int)} {side : Int} {keep mvs : List Int} (V : Valid ow pr su) (hrk : IsRank ow.length (fun v => Pf ow side v = true) (Sf su) (fun v => Zf keep v = true) (rkOf ow su side keep))
    (hfm : ∀ v, v < ow.length → fullI ow su side keep mvs v ∈ su.getD v []) : ∀ v, v < ow.length → 0 < rkOf ow su side keep v → 0 ≤ rkOf ow su side keep (fullI ow su side keep mvs v).toNat ∧ rkOf ow su side keep (fullI ow su side keep mvs v).toNat < rkOf ow su side keep v := by
  intro v hv h0
  by_cases hp : Pf ow side v = true
  · have ho : ow.getD v 0 = side := of_decide_eq_true hp
    obtain ⟨u, hu, h1⟩ := hrk.p v hv hp h0
    obtain ⟨y, hy, rfl⟩ := List.mem_map.1 hu
    have hs : stratOf ow su side (rkOf ow su side keep) v = firstS (rkOf ow su side keep) (rkOf ow su side keep v - 1) (su.getD v []) := by
      unfold stratOf; rw [if_pos ⟨h0, ho⟩]
    have h2 := firstS_some (R := rkOf ow su side keep) (fun u hu => (su_range V hv hu).1) ⟨y, hy, h1⟩
    have h3 := (firstS_mem h2).2
    have hfu : fullI ow su side keep mvs v = firstS (rkOf ow su side keep) (rkOf ow su side keep v - 1) (su.getD v []) := by
      unfold fullI; rw [hs, if_pos h2]
    rw [hfu, h3]
    omega
  · exact hrk.o v hv hp h0 _ (List.mem_map.2 ⟨_, hfm v hv, rfl⟩)
section
variable {tab : FuncId → Option AF} (T : HasA tab)
include T

theorem reaches_p {ow pr keep mvs : List Int} {side fr : Int} {su : List (List Int)} (hs0 : 0 ≤ side) (ho : ∀ x ∈ ow, 0 ≤ x) (hm : ∀ x ∈ mvs, 0 ≤ x ∧ x ≤ 255) (hf0 : 0 ≤ fr) (hf1 : fr ≤ 255) (hml : mvs.length ≤ 9223372036854775807) :
    SemC tab 4 [gmP false false false false false false false false ow pr su, p8 side, slI false false .i64 keep, slI false false .u8 mvs, p8 fr] [] fun r _ => r = .bool true := by
  refine SemC_fn T.h4 ?_
  simp only [af4, PP, P1, P2, P3, P4, P5, P6, P7, P8, P9, P10, P11, P12, P13, P14, L1, P15, N1, N2, N3, N4, N5, N6, N7, I1, I2, I3, I4, I5, I6, I7, reduceIte, reduceCtorEq]
  refine long_p T (ls := [keep]) (by show 1 < 1000000000000; omega) ?_
  simp only [PP, P1, P2, P3, P4, P5, P6, P7, P8, P9, P10, P11, P12, P13, P14, L1, P15, N1, N2, N3, N4, N5, N6, N7, I1, I2, I3, I4, I5, I6, I7, reduceIte, reduceCtorEq]
  cases hl : longM ow pr su [keep] with
  | true =>
    simp only [PP, P1, P2, P3, P4, P5, P6, P7, P8, P9, P10, P11, P12, P13, P14, L1, P15, N1, N2, N3, N4, N5, N6, N7, I1, I2, I3, I4, I5, I6, I7, reduceIte, reduceCtorEq]
    refine SemC_true T.awake ?_
    simp only [PP, P1, P2, P3, P4, P5, P6, P7, P8, P9, P10, P11, P12, P13, P14, L1, P15, N1, N2, N3, N4, N5, N6, N7, I1, I2, I3, I4, I5, I6, I7, reduceIte, reduceCtorEq]
  | false =>
    have S := longM_false hl
    have B := S.bnd
    have hkl := S.l keep (by simp)
    have hkb : keep.length < big := by show _ < 1000000000000; omega
    simp only [PP, P1, P2, P3, P4, P5, P6, P7, P8, P9, P10, P11, P12, P13, P14, L1, P15, N1, N2, N3, N4, N5, N6, N7, I1, I2, I3, I4, I5, I6, I7, reduceIte, reduceCtorEq]
    refine QIf.intro (fun c0 => ?_) (fun c0 => ?_)
    · simp only [PP, P1, P2, P3, P4, P5, P6, P7, P8, P9, P10, P11, P12, P13, P14, L1, P15, N1, N2, N3, N4, N5, N6, N7, I1, I2, I3, I4, I5, I6, I7, reduceIte, reduceCtorEq, c0]
      refine SemC_true T.awake ?_
      simp only [PP, P1, P2, P3, P4, P5, P6, P7, P8, P9, P10, P11, P12, P13, P14, L1, P15, N1, N2, N3, N4, N5, N6, N7, I1, I2, I3, I4, I5, I6, I7, reduceIte, reduceCtorEq]
    simp only [PP, P1, P2, P3, P4, P5, P6, P7, P8, P9, P10, P11, P12, P13, P14, L1, P15, N1, N2, N3, N4, N5, N6, N7, I1, I2, I3, I4, I5, I6, I7, reduceIte, reduceCtorEq, c0]
    refine SemC_true T.awake ?_
    simp only [PP, P1, P2, P3, P4, P5, P6, P7, P8, P9, P10, P11, P12, P13, P14, L1, P15, N1, N2, N3, N4, N5, N6, N7, I1, I2, I3, I4, I5, I6, I7, reduceIte, reduceCtorEq]
    refine attract_p T B hkb hs0 ho ?_
    unfold attrM
    by_cases c1 : wrongM ow pr su side keep = 0
    · rw [if_pos c1]
      obtain ⟨V, hside, hpm⟩ := wrong_zero c1
      have n0 := V.n0
      have n1 := V.n1
      have b0 : (0 : Int) ≤ ow.length := by omega
      have b1' : (ow.length : Int) * 8 ≤ 140737488355328 := by omega
      have b2' : (ow.length : Int) ≤ 9223372036854775807 := by omega
      simp only [PP, P1, P2, P3, P4, P5, P6, P7, P8, P9, P10, P11, P12, P13, P14, L1, P15, N1, N2, N3, N4, N5, N6, N7, I1, I2, I3, I4, I5, I6, I7, reduceIte, reduceCtorEq, tabL_len]
      refine wrong_p T B hkb ?_
      simp only [PP, P1, P2, P3, P4, P5, P6, P7, P8, P9, P10, P11, P12, P13, P14, L1, P15, N1, N2, N3, N4, N5, N6, N7, I1, I2, I3, I4, I5, I6, I7, reduceIte, reduceCtorEq, c1, b0, b1', b2', Int.le_refl]
      refine SemW_gh ?_
      refine loop3 (fun (v ver : Nat) (a : List Int) => v ≤ ow.length ∧ a.length = ow.length ∧ ∀ u, u < v → a[u]? = some (fullI ow su side keep mvs u))
        (fun v ver a => [.junk, .junk, slI false false .i64 keep, slI false false .u8 mvs, p8 fr, .ptr 0 0 0, .junk, .junk, .junk, .junk, .junk, slI false true .i64 (tabL ow.length (rkOf ow su side keep)), slI false true .i64 (tabL ow.length (stratOf ow su side (rkOf ow su side keep))), .junk, .ref 1 0 1 0 ow.length, p64 v, .junk, .junk, .junk, .junk, .junk, .junk, .junk, .junk, .junk, .junk, .junk, .junk, .junk, .junk, .junk, .junk, .junk, .junk, .junk, .junk, .junk, .junk, .junk, .junk, .junk, .junk, .junk, .junk, .junk, .junk, .junk, .junk, .junk, .junk, .junk, .junk, .junk, .junk, .junk, .junk, .junk, .junk, .junk, .junk, .junk, .junk, .junk, .junk, .junk, .junk, .junk, .junk, .junk, .junk, .junk, .junk, .junk, .junk, .junk, .junk, .junk, .junk, .junk, .junk, .junk, .junk, .junk, .junk, .junk, .junk, .junk, .junk, .junk, .junk, .junk, .junk, .junk, .junk, .junk, .junk, .junk, .junk, .junk, .junk, .junk, .junk, .junk, .junk, .junk, .junk, .junk, .junk, .junk, .junk, .junk, .junk, .junk, .junk, .junk, .junk, .junk, .junk, .junk, .junk, .junk, .junk, .junk, .junk, .junk, .junk, .junk, .junk, .junk, .junk, .junk, .junk, .junk, .junk, .junk, .junk, .junk, .junk, .junk, .junk, .junk, .junk, .junk, .junk, .junk, .junk, .junk, .junk, .junk, .junk, .junk, .junk, .junk, .junk, .junk, .junk, .junk, .junk, .junk, .junk, .junk, .junk, .junk, .junk, .junk, .junk, .junk, .junk, .junk, .junk])
        (fun v ver a => [.cells 0 0 [slI false false .u8 ow, slI false false .i64 pr, slR false false false false .i64 su], .cells 0 ver (a.map (PV.int .i64))])
        (fun v _ _ => ow.length - v) 0 0 (List.replicate ow.length 0) ⟨by omega, by simp, by intro u h; omega⟩ (by simp only [PWeak_nil, PWeak_junk, PWeak_same, Int.cast_ofNat_Int, List.length_append, List.length_cons, List.length_nil, Nat.zero_add]) (by simp only [List.map_replicate]) ?_
      intro v ver a ⟨hle, ha, hget⟩ ih
      refine SemW_go (by kernel_rfl) ?_
      simp only [PP, P1, P2, P3, P4, P5, P6, P7, P8, P9, P10, P11, P12, P13, P14, L1, P15, N1, N2, N3, N4, N5, N6, N7, I1, I2, I3, I4, I5, I6, I7, reduceIte, reduceCtorEq]
      refine QIf.intro (fun d => ?_) (fun d => ?_)
      · have hv : v < ow.length := by omega
        have hwv := wrap_succ (k := v) (by show _ < 1000000000000; omega)
        have v0 : (0 : Int) ≤ v := by omega
        have hvs : v < su.length := by have := V.s; omega
        have hvl : (v : Int) < su.length := by omega
        have i1 : v + 1 ≤ a.length := by omega
        obtain ⟨_, _, _, hr0, _⟩ := V.row v hvs
        obtain ⟨row, g2⟩ := some_of (xs := su) (k := v) hvs
        have hr0 : 0 < row.length := by rw [List.getElem?_eq_getElem hvs] at g2; cases g2; exact hr0
        have e2 : su.getD v [] = row := by simp [List.getD, g2]
        have gs := tabL_get (R := stratOf ow su side (rkOf ow su side keep)) hv
        simp only [PP, P1, P2, P3, P4, P5, P6, P7, P8, P9, P10, P11, P12, P13, P14, L1, P15, N1, N2, N3, N4, N5, N6, N7, I1, I2, I3, I4, I5, I6, I7, reduceIte, reduceCtorEq, d, v0]
        refine QIf.intro (fun c => ?_) (fun c => ?_)
        · obtain ⟨m, gm⟩ := some_of (xs := mvs) (k := v) (by omega)
          have gmv : mvs.getD v 0 = m := getD_some gm
          obtain ⟨m0, m1⟩ := hm m (List.mem_of_getElem? gm)
          have hwm : IntKind.i64.wrap m = m := wrap64 (by omega) (by omega)
          simp only [PP, P1, P2, P3, P4, P5, P6, P7, P8, P9, P10, P11, P12, P13, P14, L1, P15, N1, N2, N3, N4, N5, N6, N7, I1, I2, I3, I4, I5, I6, I7, reduceIte, reduceCtorEq, c, gm, v0]
          have hrl : (row.length : Int) ≠ 0 := by omega
          have t1 := Int.tmod_nonneg (a := m) (row.length : Int) (by omega)
          have t2 := Int.tmod_lt_of_pos (m) (b := (row.length : Int)) (by omega)
          obtain ⟨x, g4⟩ := some_of (xs := row) (k := ((m : Int).tmod (row.length : Int)).toNat) (by omega)
          have hfx : fullI ow su side keep mvs v = if 0 ≤ stratOf ow su side (rkOf ow su side keep) v then stratOf ow su side (rkOf ow su side keep) v else x := by
            unfold fullI
            rw [gmv, e2, getD_some g4]
          simp only [PP, P1, P2, P3, P4, P5, P6, P7, P8, P9, P10, P11, P12, P13, P14, L1, P15, N1, N2, N3, N4, N5, N6, N7, I1, I2, I3, I4, I5, I6, I7, reduceIte, reduceCtorEq, hwm, v0, g2, gs, prem hrl, t1, t2, g4, hvl, i1, tabL_len, d]
          refine QIf.intro (fun q => ?_) (fun q => ?_)
          · rw [if_pos q] at hfx
            simp only [PP, P1, P2, P3, P4, P5, P6, P7, P8, P9, P10, P11, P12, P13, P14, L1, P15, N1, N2, N3, N4, N5, N6, N7, I1, I2, I3, I4, I5, I6, I7, reduceIte, reduceCtorEq, q, v0, gs, hvl, i1, tabL_len, d, hwv]
            refine SemW_to (ih (v + 1) (ver + 1 + 1) ((a.set v x).set v (stratOf ow su side (rkOf ow su side keep) v)) ⟨by omega, by simp [ha], fun u hu => ?_⟩ (by omega)) (by simp only [PWeak_nil, PWeak_junk, PWeak_same, Int.cast_ofNat_Int, List.length_append, List.length_cons, List.length_nil, Nat.zero_add]) (by simp only [← List.map_set])
            by_cases e : u = v
            · subst e; rw [set_at (by simp; omega), hfx]
            · rw [set_low e, set_low e]; exact hget u (by omega)
          · rw [if_neg q] at hfx
            simp only [PP, P1, P2, P3, P4, P5, P6, P7, P8, P9, P10, P11, P12, P13, P14, L1, P15, N1, N2, N3, N4, N5, N6, N7, I1, I2, I3, I4, I5, I6, I7, reduceIte, reduceCtorEq, q, hwv]
            refine SemW_to (ih (v + 1) (ver + 1) (a.set v x) ⟨by omega, by simp [ha], fun u hu => ?_⟩ (by omega)) (by simp only [PWeak_nil, PWeak_junk, PWeak_same, Int.cast_ofNat_Int, List.length_append, List.length_cons, List.length_nil, Nat.zero_add]) (by simp only [← List.map_set])
            by_cases e : u = v
            · subst e; rw [set_at (by omega), hfx]
            · rw [set_low e]; exact hget u (by omega)
        · have gmv : mvs.getD v 0 = 0 := by rw [List.getD, List.getElem?_eq_none (by omega)]; rfl
          simp only [PP, P1, P2, P3, P4, P5, P6, P7, P8, P9, P10, P11, P12, P13, P14, L1, P15, N1, N2, N3, N4, N5, N6, N7, I1, I2, I3, I4, I5, I6, I7, reduceIte, reduceCtorEq, c]
          have hrl : (row.length : Int) ≠ 0 := by omega
          have t1 := Int.tmod_nonneg (a := 0) (row.length : Int) (by omega)
          have t2 := Int.tmod_lt_of_pos (0 : Int) (b := (row.length : Int)) (by omega)
          obtain ⟨x, g4⟩ := some_of (xs := row) (k := ((0 : Int).tmod (row.length : Int)).toNat) (by omega)
          have hfx : fullI ow su side keep mvs v = if 0 ≤ stratOf ow su side (rkOf ow su side keep) v then stratOf ow su side (rkOf ow su side keep) v else x := by
            unfold fullI
            rw [gmv, e2, getD_some g4]
          simp only [PP, P1, P2, P3, P4, P5, P6, P7, P8, P9, P10, P11, P12, P13, P14, L1, P15, N1, N2, N3, N4, N5, N6, N7, I1, I2, I3, I4, I5, I6, I7, reduceIte, reduceCtorEq, v0, g2, gs, prem hrl, t1, t2, g4, hvl, i1, tabL_len, d]
          refine QIf.intro (fun q => ?_) (fun q => ?_)
          · rw [if_pos q] at hfx
            simp only [PP, P1, P2, P3, P4, P5, P6, P7, P8, P9, P10, P11, P12, P13, P14, L1, P15, N1, N2, N3, N4, N5, N6, N7, I1, I2, I3, I4, I5, I6, I7, reduceIte, reduceCtorEq, q, v0, gs, hvl, i1, tabL_len, d, hwv]
            refine SemW_to (ih (v + 1) (ver + 1 + 1) ((a.set v x).set v (stratOf ow su side (rkOf ow su side keep) v)) ⟨by omega, by simp [ha], fun u hu => ?_⟩ (by omega)) (by simp only [PWeak_nil, PWeak_junk, PWeak_same, Int.cast_ofNat_Int, List.length_append, List.length_cons, List.length_nil, Nat.zero_add]) (by simp only [← List.map_set])
            by_cases e : u = v
            · subst e; rw [set_at (by simp; omega), hfx]
            · rw [set_low e, set_low e]; exact hget u (by omega)
          · rw [if_neg q] at hfx
            simp only [PP, P1, P2, P3, P4, P5, P6, P7, P8, P9, P10, P11, P12, P13, P14, L1, P15, N1, N2, N3, N4, N5, N6, N7, I1, I2, I3, I4, I5, I6, I7, reduceIte, reduceCtorEq, q, hwv]
            refine SemW_to (ih (v + 1) (ver + 1) (a.set v x) ⟨by omega, by simp [ha], fun u hu => ?_⟩ (by omega)) (by simp only [PWeak_nil, PWeak_junk, PWeak_same, Int.cast_ofNat_Int, List.length_append, List.length_cons, List.length_nil, Nat.zero_add]) (by simp only [← List.map_set])
            by_cases e : u = v
            · subst e; rw [set_at (by omega), hfx]
            · rw [set_low e]; exact hget u (by omega)
      · have hvn : v = ow.length := by omega
        subst hvn
        have hat := tabL_of ha hget
        subst hat
        simp only [PP, P1, P2, P3, P4, P5, P6, P7, P8, P9, P10, P11, P12, P13, P14, L1, P15, N1, N2, N3, N4, N5, N6, N7, I1, I2, I3, I4, I5, I6, I7, reduceIte, reduceCtorEq, d, tabL_len]
        refine Gh.step (GStep.freeze (b := [.junk, .junk, slI false false .i64 keep, .junk, p8 fr, .ptr 0 0 0, .junk, .junk, .junk, .junk, .junk, slI false true .i64 (tabL ow.length (rkOf ow su side keep)), .junk, .junk, slI false true .i64 (tabL ow.length (fullI ow su side keep mvs)), .junk, .junk, .junk, .junk, .junk, .junk, .junk, .junk, .junk, .junk, .junk, .junk, .junk, .junk, .junk, .junk, .junk, .junk, .junk, .junk, .junk, .junk, .junk, .junk, .junk, .junk, .junk, .junk, .junk, .junk, .junk, .junk, .junk, .junk, .junk, .junk, .junk, .junk, .junk, .junk, .junk, .junk, .junk, .junk, .junk, .junk, .junk, .junk, .junk, .junk, .junk, .junk, .junk, .junk, .junk, .junk, .junk, .junk, .junk, .junk, .junk, .junk, .junk, .junk, .junk, .junk, .junk, .junk, .junk, .junk, .junk, .junk, .junk, .junk, .junk, .junk, .junk, .junk, .junk, .junk, .junk, .junk, .junk, .junk, .junk, .junk, .junk, .junk, .junk, .junk, .junk, .junk, .junk, .junk, .junk, .junk, .junk, .junk, .junk, .junk, .junk, .junk, .junk, .junk, .junk, .junk, .junk, .junk, .junk, .junk, .junk, .junk, .junk, .junk, .junk, .junk, .junk, .junk, .junk, .junk, .junk, .junk, .junk, .junk, .junk, .junk, .junk, .junk, .junk, .junk, .junk, .junk, .junk, .junk, .junk, .junk, .junk, .junk, .junk, .junk, .junk, .junk, .junk, .junk, .junk, .junk, .junk, .junk, .junk, .junk, .junk, .junk, .junk, .junk, .junk]) 1 (Nat.zero_le _) rfl (by
          simp only [PFrz_junk, PFrz_same]
          rw [PFrz_ref (by rw [List.length_map, tabL_len]; omega) (by rw [Nat.mul_one, psub_tab]; unfold slI; rw [tabL_len])]
          simp only [PFrz_nil, PFrz_junk, PFrz_same]) rfl) (Gh.same ?_)
        have cn : ¬ (ow.length : Int) = 0 := by omega
        have w0 : IntKind.i64.wrap fr = fr := wrap64 (by omega) (by omega)
        obtain ⟨q, hq, hqn⟩ : ∃ q : Nat, fr.tmod ow.length = q ∧ q < ow.length := by
          have h1 := Int.tmod_nonneg (a := fr) (ow.length : Int) hf0
          have h2 := Int.tmod_lt_of_pos fr (b := (ow.length : Int)) (by omega)
          exact ⟨(fr.tmod ow.length).toNat, by omega, by omega⟩
        have hfm := fun v (hv : v < ow.length) => fullI_mem (ow := ow) (keep := keep) (side := side) V (fun x hx => (hm x hx).1) hv
        obtain ⟨hf, hfn, mm, kk, hp⟩ := full_play V hqn (fullI ow su side keep mvs) hfm
        have hS2 : ∀ v, v < ow.length → Sf su v ≠ [] ∧ ∀ u ∈ Sf su v, u < ow.length := fun v hv => ⟨(Sf_ok V hv).1, (Sf_ok V hv).2.1⟩
        have hrk : IsRank ow.length (fun v => Pf ow side v = true) (Sf su) (fun v => Zf keep v = true) (rkOf ow su side keep) := rk_isRank hS2
        simp only [PP, P1, P2, P3, P4, P5, P6, P7, P8, P9, P10, P11, P12, P13, P14, L1, P15, N1, N2, N3, N4, N5, N6, N7, I1, I2, I3, I4, I5, I6, I7, reduceIte, reduceCtorEq, tabL_len, cn, w0, prem cn, hq]
        refine play_p T B (by show _ < 1000000000000; rw [tabL_len]; omega) ?_
        unfold playM
        have hE : playE ow pr su (tabL ow.length (fullI ow su side keep mvs)) q = 0 := playE_full (wrong_check c1) hqn hfm
        rw [if_pos hE]
        obtain ⟨l1, l2⟩ := hp.len
        have lk := hp.km
        have ln := hp.mn
        generalize playL (tabL ow.length (fullI ow su side keep mvs)) (ow.length + 1) q [] = pl at hp l1 l2 ⊢
        obtain ⟨pre, lp⟩ := pl
        simp only at hp l1 l2 ⊢
        have lnz : ¬ (lp.length : Int) = 0 := by omega
        have q0 : (0 : Int) ≤ q := by omega
        have q1 : (q : Int) < ow.length := by omega
        have g1 := tabL_get (R := rkOf ow su side keep) hqn
        simp only [PP, P1, P2, P3, P4, P5, P6, P7, P8, P9, P10, P11, P12, P13, P14, L1, P15, N1, N2, N3, N4, N5, N6, N7, I1, I2, I3, I4, I5, I6, I7, reduceIte, reduceCtorEq, tabL_len, lnz, q0, q1, g1]
        refine QIf.intro (fun e1 => ?_) (fun e1 => ?_)
        · simp only [PP, P1, P2, P3, P4, P5, P6, P7, P8, P9, P10, P11, P12, P13, P14, L1, P15, N1, N2, N3, N4, N5, N6, N7, I1, I2, I3, I4, I5, I6, I7, reduceIte, reduceCtorEq, e1]
        simp only [PP, P1, P2, P3, P4, P5, P6, P7, P8, P9, P10, P11, P12, P13, P14, L1, P15, N1, N2, N3, N4, N5, N6, N7, I1, I2, I3, I4, I5, I6, I7, reduceIte, reduceCtorEq, e1]
        refine SemC_fn T.h12 ?_
        have b3 : pre.length * 8 ≤ 140737488355328 := by omega
        have b4 : pre.length ≤ 9223372036854775807 := by omega
        have b5 : (pre.length + lp.length) * 8 ≤ 140737488355328 := by omega
        have b6 : pre.length + lp.length ≤ 9223372036854775807 := by omega
        have b7 : 0 < lp.length := by omega
        simp only [af12, PP, P1, P2, P3, P4, P5, P6, P7, P8, P9, P10, P11, P12, P13, P14, L1, P15, N1, N2, N3, N4, N5, N6, N7, I1, I2, I3, I4, I5, I6, I7, reduceIte, reduceCtorEq, b3, b4, b5, b6, b7]
        have hps : psub (pre.map (PV.int .i64)) 0 pre.length = pre.map (PV.int .i64) := psub_all _ _ (by simp)
        simp only [hps, ← List.map_append]
        obtain ⟨i, x, hi1, hi2, hxn, hx0⟩ := hp.fall (R := rkOf ow su side keep) hfn hqn (full_falls V hrk hfm) (Int.not_lt.1 e1)
        have hxk : (x : Int) ∈ keep := of_decide_eq_true ((hrk.z x hxn).1 hx0)
        have hpl := List.length_append (as := pre) (bs := lp)
        generalize pre ++ lp = path at hi2 hpl ⊢
        refine SemW_re (GStep.freeze (b := [.junk, .junk, slI false false .i64 keep, .junk, .junk, .junk, .junk, .junk, .junk, .junk, .junk, slI false true .i64 (tabL ow.length (rkOf ow su side keep)), .junk, .junk, .junk, .junk, .junk, p64 q, .junk, .junk, .junk, slI false true .i64 path, p64 0, .junk, .junk, .junk, .junk, .junk, .junk, .junk, .junk, .junk, .junk, .junk, .junk, .junk, .junk, .junk, .junk, .junk, .junk, .junk, .junk, .junk, .junk, .junk, .junk, .junk, .junk, .junk, .junk, .junk, .junk, .junk, .junk, .junk, .junk, .junk, .junk, .junk, .junk, .junk, .junk, .junk, .junk, .junk, .junk, .junk, .junk, .junk, .junk, .junk, .junk, .junk, .junk, .junk, .junk, .junk, .junk, .junk, .junk, .junk, .junk, .junk, .junk, .junk, .junk, .junk, .junk, .junk, .junk, .junk, .junk, .junk, .junk, .junk, .junk, .junk, .junk, .junk, .junk, .junk, .junk, .junk, .junk, .junk, .junk, .junk, .junk, .junk, .junk, .junk, .junk, .junk, .junk, .junk, .junk, .junk, .junk, .junk, .junk, .junk, .junk, .junk, .junk, .junk, .junk, .junk, .junk, .junk, .junk, .junk, .junk, .junk, .junk, .junk, .junk, .junk, .junk, .junk, .junk, .junk, .junk, .junk, .junk, .junk, .junk, .junk, .junk, .junk, .junk, .junk, .junk, .junk, .junk, .junk, .junk, .junk, .junk, .junk, .junk, .junk, .junk, .junk, .junk, .junk, .junk, .junk, .junk, .junk]) 2 (Nat.zero_le _) rfl (by
          simp only [PFrz_junk, PFrz_same]
          rw [PFrz_ref (by rw [List.length_map, hpl]; omega) (by rw [Nat.mul_one, ← hpl, psub_map])]
          simp only [PFrz_nil, PFrz_junk, PFrz_same]) rfl) ?_
        refine loop1 (fun (k : Nat) => k ≤ i) (fun k => [.junk, .junk, slI false false .i64 keep, .junk, .junk, .junk, .junk, .junk, .junk, .junk, .junk, slI false true .i64 (tabL ow.length (rkOf ow su side keep)), .junk, .junk, .junk, .junk, .junk, p64 q, .junk, .junk, .junk, slI false true .i64 path, p64 k, .junk, .junk, .junk, .junk, .junk, .junk, .junk, .junk, .junk, .junk, .junk, .junk, .junk, .junk, .junk, .junk, .junk, .junk, .junk, .junk, .junk, .junk, .junk, .junk, .junk, .junk, .junk, .junk, .junk, .junk, .junk, .junk, .junk, .junk, .junk, .junk, .junk, .junk, .junk, .junk, .junk, .junk, .junk, .junk, .junk, .junk, .junk, .junk, .junk, .junk, .junk, .junk, .junk, .junk, .junk, .junk, .junk, .junk, .junk, .junk, .junk, .junk, .junk, .junk, .junk, .junk, .junk, .junk, .junk, .junk, .junk, .junk, .junk, .junk, .junk, .junk, .junk, .junk, .junk, .junk, .junk, .junk, .junk, .junk, .junk, .junk, .junk, .junk, .junk, .junk, .junk, .junk, .junk, .junk, .junk, .junk, .junk, .junk, .junk, .junk, .junk, .junk, .junk, .junk, .junk, .junk, .junk, .junk, .junk, .junk, .junk, .junk, .junk, .junk, .junk, .junk, .junk, .junk, .junk, .junk, .junk, .junk, .junk, .junk, .junk, .junk, .junk, .junk, .junk, .junk, .junk, .junk, .junk, .junk, .junk, .junk, .junk, .junk, .junk, .junk, .junk, .junk, .junk, .junk, .junk, .junk, .junk]) (fun _ => [.cells 0 0 [slI false false .u8 ow, slI false false .i64 pr, slR false false false false .i64 su], .gone, .gone]) (fun k => i - k) 0 (by omega) (by simp only [PWeak_nil, PWeak_junk, PWeak_same, Int.cast_ofNat_Int, List.length_append, List.length_cons, List.length_nil, Nat.zero_add]) rfl ?_
        intro k hki ih
        have hil := getSome_lt hi2
        have k0 : (0 : Int) ≤ k := by omega
        have k1 : (k : Int) < path.length := by omega
        have k2 : (k : Int) ≤ rkOf ow su side keep q := by omega
        have hwk := wrap_succ (k := k) (by show _ < 1000000000000; omega)
        obtain ⟨y, g3⟩ := some_of (xs := path) (k := k) (by omega)
        refine SemW_go (by kernel_rfl) ?_
        simp only [PP, P1, P2, P3, P4, P5, P6, P7, P8, P9, P10, P11, P12, P13, P14, L1, P15, N1, N2, N3, N4, N5, N6, N7, I1, I2, I3, I4, I5, I6, I7, reduceIte, reduceCtorEq, k0, k1, k2, g1, q0, q1, g3, tabL_len]
        refine hasInt_p T hkb ?_
        by_cases hy : y ∈ keep
        · simp only [PP, P1, P2, P3, P4, P5, P6, P7, P8, P9, P10, P11, P12, P13, P14, L1, P15, N1, N2, N3, N4, N5, N6, N7, I1, I2, I3, I4, I5, I6, I7, reduceIte, reduceCtorEq, hy]
        · simp only [PP, P1, P2, P3, P4, P5, P6, P7, P8, P9, P10, P11, P12, P13, P14, L1, P15, N1, N2, N3, N4, N5, N6, N7, I1, I2, I3, I4, I5, I6, I7, reduceIte, reduceCtorEq, hy, hwk]
          refine SemW_weak (ih (k + 1) ?_ ?_) (by simp only [PWeak_nil, PWeak_junk, PWeak_same, Int.cast_ofNat_Int, List.length_append, List.length_cons, List.length_nil, Nat.zero_add])
          · rcases Nat.lt_or_ge k i with h | h
            · omega
            · have : k = i := by omega
              subst this
              rw [hi2] at g3; cases g3; exact absurd hxk hy
          · rcases Nat.lt_or_ge k i with h | h
            · omega
            · have : k = i := by omega
              subst this
              rw [hi2] at g3; cases g3; exact absurd hxk hy
    · rw [if_neg c1]
      simp only [PP, P1, P2, P3, P4, P5, P6, P7, P8, P9, P10, P11, P12, P13, P14, L1, P15, N1, N2, N3, N4, N5, N6, N7, I1, I2, I3, I4, I5, I6, I7, reduceIte, reduceCtorEq, c1]
end
end Go.Am.Ar

set_option linter.unusedVariables false
set_option linter.unusedSimpArgs false
namespace Go.Am.Ar

/-- The type of games. -/
abbrev gameTy : Ty := .pair (.slice (.int .u8)) (.pair (.slice (.int .i64)) (.pair (.slice (.slice (.int .i64))) .unit))

/-- What is known of the numbers of a game that a law gets. -/
structure Nums (ow pr : List Int) (su : List (List Int)) : Prop where
  o : ∀ x ∈ ow, 0 ≤ x ∧ x ≤ 255
  p : ∀ x ∈ pr, -9223372036854775808 ≤ x ∧ x ≤ 9223372036854775807
  s : ∀ r ∈ su, ∀ x ∈ r, -9223372036854775808 ≤ x ∧ x ≤ 9223372036854775807
  lo : ow.length ≤ 9223372036854775807
  lp : pr.length ≤ 9223372036854775807
  ls : su.length ≤ 9223372036854775807
  lr : ∀ r ∈ su, r.length ≤ 9223372036854775807

theorem arg_game {v : AV} {h : H} (hs : ShV gameTy v h) : ∃ (ow pr : List Int) (su : List (List Int)), RepV (wH h) (gmP false false false false false false false false ow pr su) v ∧ Nums ow pr su := by
  obtain ⟨avs, hs, rfl⟩ := hs
  obtain ⟨c1, c2, rfl, h1, c3, c4, rfl, h2, c5, c6, rfl, h3, h4⟩ := hs
  have h4 : c6 = [] := h4
  subst h4
  obtain ⟨vo, ow, rfl, p1, q1, r1⟩ := sh_intsP h1
  obtain ⟨vp, pr, rfl, p2, q2, r2⟩ := sh_intsP h2
  obtain ⟨vs, su, rfl, p3, q3, r3⟩ := sh_rowsP h3
  refine ⟨ow, pr, su, ?_, ⟨r1, r2, fun r hr => (r3 r hr).2, q1, q2, q3, fun r hr => (r3 r hr).1⟩⟩
  have := RepL.cons p1 (.cons p2 (.cons p3 (.nil (wH h))))
  exact .agg this.len this.get
theorem arg_ints {k : IntKind} {v : AV} {h : H} (hs : ShV (.slice (.int k)) v h) : ∃ (xs : List Int), RepV (wH h) (slI false false k xs) v ∧ xs.length ≤ 9223372036854775807 ∧ ∀ x ∈ xs, k.min ≤ x ∧ x ≤ k.max := by
  obtain ⟨avs, hs, rfl⟩ := hs
  obtain ⟨v, xs, rfl, p, q, r⟩ := sh_intsP hs
  exact ⟨xs, p, q, r⟩
theorem arg_int {k : IntKind} {v : AV} {h : H} (hs : ShV (.int k) v h) : ∃ (x : Int), v = .int k x ∧ RepV (wH h) (.int k x) v ∧ k.min ≤ x ∧ x ≤ k.max := by
  obtain ⟨avs, hs, rfl⟩ := hs
  obtain ⟨x, rfl, p⟩ := hs
  exact ⟨x, rfl, .int k x, p⟩

theorem run_of_C {tab : FuncId → Option AF} {g : FuncId} {args : List AV} {h : H} (hc : C (lim tab) g args h fun v _ => v = .bool true) : ∃ n h', (run tab n).call g args h = some (.bool true, h') := by
  unfold C at hc
  obtain ⟨v, h', he, rfl⟩ := hc
  obtain ⟨n, hn⟩ := (lim_call_iff tab).1 he
  exact ⟨n, h', hn⟩
theorem shVs2 {A B : Ty} {args : List AV} {h : H} (hs : ShVs [A, B] args h) : ∃ a b, args = [a, b] ∧ ShV A a h ∧ ShV B b h := by
  match args, hs with
  | [a, b], ⟨h1, h2, _⟩ => exact ⟨a, b, rfl, h1, h2⟩
theorem shVs3 {A B D : Ty} {args : List AV} {h : H} (hs : ShVs [A, B, D] args h) : ∃ a b d, args = [a, b, d] ∧ ShV A a h ∧ ShV B b h ∧ ShV D d h := by
  match args, hs with
  | [a, b, d], ⟨h1, h2, h3, _⟩ => exact ⟨a, b, d, rfl, h1, h2, h3⟩
theorem shVs4 {A B D E : Ty} {args : List AV} {h : H} (hs : ShVs [A, B, D, E] args h) : ∃ a b d e, args = [a, b, d, e] ∧ ShV A a h ∧ ShV B b h ∧ ShV D d h ∧ ShV E e h := by
  match args, hs with
  | [a, b, d, e], ⟨h1, h2, h3, h4, _⟩ => exact ⟨a, b, d, e, rfl, h1, h2, h3, h4⟩
theorem shVs5 {A B D E F : Ty} {args : List AV} {h : H} (hs : ShVs [A, B, D, E, F] args h) : ∃ a b d e f, args = [a, b, d, e, f] ∧ ShV A a h ∧ ShV B b h ∧ ShV D d h ∧ ShV E e h ∧ ShV F f h := by
  match args, hs with
  | [a, b, d, e, f], ⟨h1, h2, h3, h4, h5, _⟩ => exact ⟨a, b, d, e, f, rfl, h1, h2, h3, h4, h5⟩
end Go.Am.Ar

set_option linter.unusedVariables false
namespace Go.Am.Ar
theorem reaches_all {tab : FuncId → Option AF} (T : HasA tab) (args : List AV) (h : H) (hs : ShVs [gameTy, .int .u8, .slice (.int .i64), .slice (.int .u8), .int .u8] args h) :
    ∃ n h', (run tab n).call 4 args h = some (.bool true, h') := by
  obtain ⟨a, b, c, d, e, rfl, ha, hb, hc, hd, he⟩ := shVs5 hs
  obtain ⟨ow, pr, su, r1, N⟩ := arg_game ha
  obtain ⟨side, rfl, r2, s0, s1⟩ := arg_int hb
  obtain ⟨keep, r3, _, _⟩ := arg_ints hc
  obtain ⟨mvs, r4, m1, m2⟩ := arg_ints hd
  obtain ⟨fr, rfl, r5, f0, f1⟩ := arg_int he
  exact run_of_C (law_of_sem (.cons r1 (.cons r2 (.cons r3 (.cons r4 (.cons r5 (.nil _)))))) (reaches_p T s0 (fun x hx => (N.o x hx).1) m2 f0 f1 m1))
end Go.Am.Ar
