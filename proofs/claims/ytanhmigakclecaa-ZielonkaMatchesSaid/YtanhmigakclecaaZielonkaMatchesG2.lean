/- Contract: the recursive solver (package zielonka), and what goes with it. -/
import Derived.Test.YtanhmigakclecaaZielonkaMatchesG1
set_option linter.unusedVariables false
set_option linter.unusedSimpArgs false
set_option maxRecDepth 10000
namespace Go.Am.Ar
open Go.Am renaming pchk → P1, pold → P2, PKNo → P3, ppack → P4, PObj.under → P5, pput → P6, ptset → P7, ptget → P8, pev → P9, ofAV → P10, ofAV1 → P11, ppad → P12, pfill → P13, prepl → P14, AO.effect → P15
open List renaming replicate → L1
open Nat renaming reduceAdd → N1, reduceSub → N2, reduceMul → N3, reduceLT → N4, reduceLeDiff → N5, reduceEqDiff → N6, reduceBEq → N7
open Int renaming reduceToNat → I1, reduceLT → I2, reduceLE → I3, reduceEq → I4, reduceAdd → I5, reduceSub → I6, reduceNeg → I7
abbrev zP (pr : List Int) (v : Nat) : Int := pr.getD v 0
structure ZRes (ow pr : List Int) (su : List (List Int)) (inL : List Bool) (st0 st : List Int) (w0 w1 : List Bool) : Prop where
  l0 : w0.length = ow.length
  l1 : w1.length = ow.length
  ls : st.length = ow.length
  nn : ∀ x ∈ st, 0 ≤ x
  all : ∀ v, bm inL v ↔ bm w0 v ∨ bm w1 v
  dis : ∀ v, bm w0 v → bm w1 v → False
  p0 : SolIn (zO ow) (Sf su) (zP pr) (bm inL) 0 (bm w0) (stN st)
  p1 : SolIn (zO ow) (Sf su) (zP pr) (bm inL) 1 (bm w1) (stN st)
  same : ∀ v, ¬ bm inL v → stN st v = stN st0 v
theorem par8 {m : Int} (h : 0 ≤ m) : IntKind.u8.wrap (m.tmod 2) = m % 2 := by
  rw [Int.tmod_eq_emod_of_nonneg h]
  simp only [IntKind.wrap, IntKind.signed, IntKind.bits]
  simp
  omega
theorem idxFrom_some {p : Int → Bool} : ∀ {row : List Int} {j : Nat}, (∃ u ∈ row, p u = true) → ∃ i u, idxFrom p j row = ((j + i : Nat) : Int) ∧ row[i]? = some u ∧ p u = true
  | [], j, h => by obtain ⟨u, hu, _⟩ := h; cases hu
  | x :: l, j, h => by
    unfold idxFrom
    by_cases e : p x = true
    · rw [if_pos e]; exact ⟨0, x, rfl, rfl, e⟩
    · rw [if_neg e]
      obtain ⟨u, hu, hp⟩ := h
      rcases List.mem_cons.1 hu with rfl | hu
      · exact absurd hp e
      · obtain ⟨i, y, h1, h2, h3⟩ := idxFrom_some (p := p) (row := l) (j := j + 1) ⟨u, hu, hp⟩
        exact ⟨i + 1, y, by rw [h1]; congr 1; omega, by simpa using h2, h3⟩
section
variable {tab : FuncId → Option AF} (T : HasA tab)
include T
set_option maxHeartbeats 2000000 in
theorem solve_z {o0 o1 : PObj} {f1 p1 f2 p2 f3 p3 f4 p4 : Bool} {ow pr : List Int} {su : List (List Int)} (V : Valid ow pr su) (B : Bnd ow pr su) (ho : ∀ x ∈ ow, 0 ≤ x) (h0 : cutOk 4 o0 = true) (h1 : cutOk 4 o1 = true) :
    ∀ (m : Nat) (inL : List Bool) (st0 : List Int) (ver0 : Nat) (K : PV → Mem → Prop), inL.count true < m → inL.length = ow.length → st0.length = ow.length → (∀ x ∈ st0, 0 ≤ x) → (∀ v, bm inL v → ∃ u ∈ Sf su v, bm inL u) →
      (∀ ver st w0 w1, ZRes ow pr su inL st0 st w0 w1 → K (.agg [slB false true w0, slB false true w1]) [o0, o1, .cells 0 ver (st.map (PV.int .i64)), .cells 0 0 (zSol f1 p1 f2 p2 f3 p3 f4 p4 ow pr su)]) →
      SemC tab 34 [.ptr 3 0 0, slB false true inL] [o0, o1, .cells 0 ver0 (st0.map (PV.int .i64)), .cells 0 0 (zSol f1 p1 f2 p2 f3 p3 f4 p4 ow pr su)] K := by
  intro m
  induction m with
  | zero => intro inL st0 ver0 K hc; omega
  | succ m IH =>
  intro inL st0 ver0 K hcnt hi hs hs0 htot hk
  have n0 := V.n0
  have n1 := V.n1
  have hp := V.p
  have hsl := V.s
  have b0 : (0 : Int) ≤ ow.length := by omega
  have b1 : (ow.length : Int) * 1 ≤ 140737488355328 := by omega
  have b2 : (ow.length : Int) ≤ 9223372036854775807 := by omega
  refine SemC_res (SemC_fn T.h34 ?_)
  simp only [af34, PP, P1, P2, P3, P4, P5, P6, P7, P8, P9, P10, P11, P12, P13, P14, L1, P15, N1, N2, N3, N4, N5, N6, N7, I1, I2, I3, I4, I5, I6, I7, reduceIte, reduceCtorEq, hi, b0, b1, b2, Int.le_refl]
  refine loop2 (fun (k : Nat) (top : Int) => k ≤ ow.length ∧ (∀ v, v < k → bm inL v → zP pr v ≤ top) ∧ ((top = -1 ∧ ∀ v, v < k → ¬ bm inL v) ∨ ∃ v, v < k ∧ bm inL v ∧ zP pr v = top))
    (fun k top => [.ptr 3 0 0, .junk, .junk, .ptr 4 0 0, .ptr 5 0 0, p64 top, .junk, .junk, .junk, .junk, .junk, .junk, .junk, .junk, .junk, .junk, .junk, .junk, .junk, .junk, .junk, .junk, .junk, p64 ow.length, p64 k, .junk, .junk, .junk, .junk, .junk, .junk, .junk, .junk, .junk, .junk, .junk, .junk, .junk, .junk, .junk, .junk, .junk, .junk, .junk, .junk, .junk, .junk, .junk, .junk, .junk, .junk, .junk, .junk, .junk, .junk, .junk, .junk, .junk, .junk, .junk, .junk, .junk, .junk, .junk, .junk, .junk, .junk, .junk, .junk, .junk, .junk, .junk, .junk, .junk, .junk, .junk, .junk, .junk, .junk, .junk, .junk, .junk, .junk, .junk, .junk, .junk, .junk, .junk, .junk, .junk, .junk, .junk, .junk, .junk, .junk, .junk, .junk, .junk, .junk, .junk, .junk, .junk, .junk, .junk, .junk, .junk, .junk, .junk, .junk, .junk, .junk, .junk, .junk, .junk, .junk, .junk, .junk, .junk, .junk, .junk, .junk, .junk, .junk, .junk, .junk, .junk, .junk, .junk, .junk, .junk, .junk, .junk, .junk, .junk, .junk, .junk, .junk, .junk, .junk, .junk, .junk, .junk, .junk, .junk, .junk, .junk, .junk, .junk, .junk, .junk, .junk, .junk, .junk, .junk, .junk, .junk, .junk, .junk, .junk, .junk, .junk, .junk, .junk, .junk, .junk, .junk, .junk, .junk, .junk, .junk, .junk, .junk, .junk, .junk, .junk, .junk, .junk, .junk, .junk, .junk, .junk, .junk])
    (fun k top => [o0, o1, .cells 0 ver0 (st0.map (PV.int .i64)), .cells 0 0 (zSol f1 p1 f2 p2 f3 p3 f4 p4 ow pr su), .cells 0 0 [slB false true inL], .cells 0 1 [.ref 6 0 1 0 ow.length, .ref 7 0 1 0 ow.length], .cells 0 0 (List.replicate ow.length (.bool false)), .cells 0 0 (List.replicate ow.length (.bool false))])
    (fun k _ => ow.length - k) 0 (-1) ⟨by omega, fun v h => by omega, .inl ⟨rfl, fun v h => by omega⟩⟩ (by simp only [PWeak_nil, PWeak_junk, PWeak_same, Int.cast_ofNat_Int, List.length_append, List.length_cons, List.length_nil, Nat.zero_add]) (by simp only [slB, hi]) ?_
  intro k top ⟨hle, htop, hex⟩ ih
  refine SemW_go (by kernel_rfl) ?_
  simp only [PP, P1, P2, P3, P4, P5, P6, P7, P8, P9, P10, P11, P12, P13, P14, L1, P15, N1, N2, N3, N4, N5, N6, N7, I1, I2, I3, I4, I5, I6, I7, reduceIte, reduceCtorEq]
  refine QIf.intro (fun c => ?_) (fun c => ?_)
  · have hk' : k < ow.length := by omega
    have k0 : (0 : Int) ≤ k := by omega
    have kp : (k : Int) < pr.length := by omega
    have hwk := wrap_succ (k := k) (by show _ < 1000000000000; omega)
    obtain ⟨x, g1⟩ := some_of (xs := inL) (k := k) (by omega)
    obtain ⟨q, g2⟩ := some_of (xs := pr) (k := k) (by omega)
    have eq : zP pr k = q := getD_some g2
    have q0 : 0 ≤ q := by have := (V.row k (by omega)).1; rw [← eq]; exact this
    simp only [PP, P1, P2, P3, P4, P5, P6, P7, P8, P9, P10, P11, P12, P13, P14, L1, P15, N1, N2, N3, N4, N5, N6, N7, I1, I2, I3, I4, I5, I6, I7, reduceIte, reduceCtorEq, c, k0, g1, hi]
    cases x
    · have hnb : ¬ bm inL k := fun h => by rw [bm_of g1] at h; cases h
      simp only [PP, P1, P2, P3, P4, P5, P6, P7, P8, P9, P10, P11, P12, P13, P14, L1, P15, N1, N2, N3, N4, N5, N6, N7, I1, I2, I3, I4, I5, I6, I7, reduceIte, reduceCtorEq, hwk]
      refine SemW_weak (ih (k + 1) top ⟨by omega, fun v hv hb => ?_, ?_⟩ (by omega)) (by simp only [PWeak_nil, PWeak_junk, PWeak_same, Int.cast_ofNat_Int, List.length_append, List.length_cons, List.length_nil, Nat.zero_add])
      · by_cases e : v = k
        · subst e; exact absurd hb hnb
        · exact htop v (by omega) hb
      · rcases hex with ⟨e1, e2⟩ | ⟨v, e1, e2, e3⟩
        · refine .inl ⟨e1, fun v hv hb => ?_⟩
          by_cases e : v = k
          · subst e; exact hnb hb
          · exact e2 v (by omega) hb
        · exact .inr ⟨v, by omega, e2, e3⟩
    · simp only [PP, P1, P2, P3, P4, P5, P6, P7, P8, P9, P10, P11, P12, P13, P14, L1, P15, N1, N2, N3, N4, N5, N6, N7, I1, I2, I3, I4, I5, I6, I7, reduceIte, reduceCtorEq, g2, k0, kp, hwk]
      refine SemW_weak (ih (k + 1) (max top q) ⟨by omega, fun v hv hb => ?_, ?_⟩ (by omega)) (by simp only [PWeak_nil, PWeak_junk, PWeak_same, Int.cast_ofNat_Int, List.length_append, List.length_cons, List.length_nil, Nat.zero_add])
      · by_cases e : v = k
        · subst e; rw [eq]; omega
        · have := htop v (by omega) hb; omega
      · rcases Int.le_total top q with hq | hq
        · exact .inr ⟨k, by omega, (bm_of g1).2 rfl, by rw [eq]; omega⟩
        · rcases hex with ⟨e1, e2⟩ | ⟨v, e1, e2, e3⟩
          · omega
          · exact .inr ⟨v, by omega, e2, by rw [e3]; omega⟩
  have hkn : k = ow.length := by omega
  subst hkn
  simp only [PP, P1, P2, P3, P4, P5, P6, P7, P8, P9, P10, P11, P12, P13, P14, L1, P15, N1, N2, N3, N4, N5, N6, N7, I1, I2, I3, I4, I5, I6, I7, reduceIte, reduceCtorEq, c]
  refine QIf.intro (fun c2 => ?_) (fun c2 => ?_)
  · simp only [PP, P1, P2, P3, P4, P5, P6, P7, P8, P9, P10, P11, P12, P13, P14, L1, P15, N1, N2, N3, N4, N5, N6, N7, I1, I2, I3, I4, I5, I6, I7, reduceIte, reduceCtorEq, c2]
    have hno : ∀ v, ¬ bm inL v := fun v hb => by
      have hv := bm_lt hb
      rw [hi] at hv
      rcases hex with ⟨_, e⟩ | ⟨w, e1, e2, e3⟩
      · exact e v hv hb
      · have := (V.row w (by omega)).1
        have e3 : pr.getD w 0 = top := e3
        omega
    have hnr : ∀ v, ¬ bm (List.replicate ow.length false) v := fun v h => by
      unfold bm at h
      rw [List.getElem?_replicate] at h
      split at h <;> simp at h
    have hsol : ∀ p : Int, SolIn (zO ow) (Sf su) (zP pr) (bm inL) p (bm (List.replicate ow.length false)) (stN st0) := fun p =>
      ⟨fun v h => absurd h (hnr v), fun v h => absurd h (hnr v), fun v h => absurd h (hnr v), fun cc kk _ _ h => absurd (h 0) (hnr _)⟩
    refine ⟨.agg [slB false true (List.replicate ow.length false), slB false true (List.replicate ow.length false)], _, pfrz_agg2 (pfrz1_refB (by omega) (by simp; rfl) (by simp)) (pfrz1_refB (by omega) (by simp; rfl) (by simp)), pfrzM_all (by simp only [PP, P1, P2, P3, P4, P5, P6, P7, P8, P9, P10, P11, P12, P13, P14, L1, P15, N1, N2, N3, N4, N5, N6, N7, I1, I2, I3, I4, I5, I6, I7, reduceIte, reduceCtorEq, cutOk_cells, h0, h1, underL_ints]), hk ver0 st0 _ _ ⟨by simp, by simp, hs, hs0, fun v => ⟨fun h => absurd h (hno v), fun h => absurd (h.elim id id) (hnr v)⟩, fun v h => absurd h (hnr v), hsol 0, hsol 1, fun _ _ => rfl⟩⟩
  have t0 : 0 ≤ top := by omega
  have h2 : (2 : Int) ≠ 0 := by omega
  simp only [PP, P1, P2, P3, P4, P5, P6, P7, P8, P9, P10, P11, P12, P13, P14, L1, P15, N1, N2, N3, N4, N5, N6, N7, I1, I2, I3, I4, I5, I6, I7, reduceIte, reduceCtorEq, c2, prem h2, par8 t0, hi, b0, b1, b2, Int.le_refl]
  refine SemW_gh ?_
  refine loop3 (fun (k ver : Nat) (w : List Bool) => k ≤ ow.length ∧ w.length = ow.length ∧ ∀ v, v < k → (w[v]? = some true ↔ bm inL v ∧ zP pr v = top))
    (fun k ver w => [.ptr 3 0 0, .junk, .junk, .ptr 4 0 0, .ptr 5 0 0, p64 top, .junk, p8 (top % 2), .ref 8 0 1 0 ow.length, .junk, .junk, .junk, .junk, .junk, .junk, .junk, .junk, .junk, .junk, .junk, .junk, .junk, .junk, .junk, .junk, .junk, .junk, .junk, .junk, .junk, .junk, .junk, .junk, .junk, .junk, .junk, .junk, .junk, .junk, .junk, .junk, .junk, .junk, .junk, .junk, .junk, .junk, .junk, .junk, .junk, .junk, .junk, p64 ow.length, p64 k, .junk, .junk, .junk, .junk, .junk, .junk, .junk, .junk, .junk, .junk, .junk, .junk, .junk, .junk, .junk, .junk, .junk, .junk, .junk, .junk, .junk, .junk, .junk, .junk, .junk, .junk, .junk, .junk, .junk, .junk, .junk, .junk, .junk, .junk, .junk, .junk, .junk, .junk, .junk, .junk, .junk, .junk, .junk, .junk, .junk, .junk, .junk, .junk, .junk, .junk, .junk, .junk, .junk, .junk, .junk, .junk, .junk, .junk, .junk, .junk, .junk, .junk, .junk, .junk, .junk, .junk, .junk, .junk, .junk, .junk, .junk, .junk, .junk, .junk, .junk, .junk, .junk, .junk, .junk, .junk, .junk, .junk, .junk, .junk, .junk, .junk, .junk, .junk, .junk, .junk, .junk, .junk, .junk, .junk, .junk, .junk, .junk, .junk, .junk, .junk, .junk, .junk, .junk, .junk, .junk, .junk, .junk, .junk, .junk, .junk, .junk, .junk, .junk, .junk, .junk, .junk, .junk, .junk, .junk, .junk, .junk, .junk, .junk, .junk, .junk, .junk, .junk, .junk])
    (fun k ver w => [o0, o1, .cells 0 ver0 (st0.map (PV.int .i64)), .cells 0 0 (zSol f1 p1 f2 p2 f3 p3 f4 p4 ow pr su), .cells 0 0 [slB false true inL], .cells 0 1 [.ref 6 0 1 0 ow.length, .ref 7 0 1 0 ow.length], .cells 0 0 (List.replicate ow.length (.bool false)), .cells 0 0 (List.replicate ow.length (.bool false)), .cells 0 ver (w.map PV.bool)])
    (fun k _ _ => ow.length - k) 0 0 (List.replicate ow.length false) ⟨by omega, by simp, by intro v h; omega⟩ (by simp only [PWeak_nil, PWeak_junk, PWeak_same, Int.cast_ofNat_Int, List.length_append, List.length_cons, List.length_nil, Nat.zero_add]) (by simp only [List.map_replicate]) ?_
  intro k ver w ⟨hle, hw, hget⟩ ih2
  refine SemW_go (by kernel_rfl) ?_
  simp only [PP, P1, P2, P3, P4, P5, P6, P7, P8, P9, P10, P11, P12, P13, P14, L1, P15, N1, N2, N3, N4, N5, N6, N7, I1, I2, I3, I4, I5, I6, I7, reduceIte, reduceCtorEq]
  refine QIf.intro (fun d => ?_) (fun d => ?_)
  · have hk' : k < ow.length := by omega
    have k0 : (0 : Int) ≤ k := by omega
    have kp : (k : Int) < pr.length := by omega
    have hwk := wrap_succ (k := k) (by show _ < 1000000000000; omega)
    obtain ⟨x, g1⟩ := some_of (xs := inL) (k := k) (by omega)
    obtain ⟨q, g2⟩ := some_of (xs := pr) (k := k) (by omega)
    have eq : zP pr k = q := getD_some g2
    have k1 : k + 1 ≤ ow.length := hk'
    have up : ∀ z : Bool, (z = true ↔ bm inL k ∧ zP pr k = top) → k + 1 ≤ ow.length ∧ (w.set k z).length = ow.length ∧ ∀ v, v < k + 1 → ((w.set k z)[v]? = some true ↔ bm inL v ∧ zP pr v = top) := fun z hz => by
      refine ⟨by omega, by simp [hw], fun v hv => ?_⟩
      by_cases e : v = k
      · subst e; rw [List.getElem?_set_self (by omega), ← hz]; simp
      · rw [List.getElem?_set_ne (by omega)]; exact hget v (by omega)
    cases x
    · have hnb : ¬ bm inL k := fun h => by rw [bm_of g1] at h; cases h
      simp only [PP, P1, P2, P3, P4, P5, P6, P7, P8, P9, P10, P11, P12, P13, P14, L1, P15, N1, N2, N3, N4, N5, N6, N7, I1, I2, I3, I4, I5, I6, I7, reduceIte, reduceCtorEq, d, k0, g1, hi, hw, k1, hwk]
      exact SemW_to (ih2 (k + 1) (ver + 1) (w.set k false) (up false ⟨fun h => (by cases h), fun h => absurd h.1 hnb⟩) (by omega)) (by simp only [PWeak_nil, PWeak_junk, PWeak_same, Int.cast_ofNat_Int, List.length_append, List.length_cons, List.length_nil, Nat.zero_add]) (by simp only [← List.map_set])
    · simp only [PP, P1, P2, P3, P4, P5, P6, P7, P8, P9, P10, P11, P12, P13, P14, L1, P15, N1, N2, N3, N4, N5, N6, N7, I1, I2, I3, I4, I5, I6, I7, reduceIte, reduceCtorEq, d, k0, g1, g2, kp, hi, hw, k1, hwk]
      exact SemW_to (ih2 (k + 1) (ver + 1) (w.set k (decide (q = top))) (up _ ⟨fun h => ⟨(bm_of g1).2 rfl, by rw [eq]; exact of_decide_eq_true h⟩, fun h => decide_eq_true (by rw [← eq]; exact h.2)⟩) (by omega)) (by simp only [PWeak_nil, PWeak_junk, PWeak_same, Int.cast_ofNat_Int, List.length_append, List.length_cons, List.length_nil, Nat.zero_add]) (by simp only [← List.map_set])
  have hkn : k = ow.length := by omega
  subst hkn
  simp only [PP, P1, P2, P3, P4, P5, P6, P7, P8, P9, P10, P11, P12, P13, P14, L1, P15, N1, N2, N3, N4, N5, N6, N7, I1, I2, I3, I4, I5, I6, I7, reduceIte, reduceCtorEq, d]
  refine Gh.step (GStep.freeze (b := [.ptr 3 0 0, .junk, .junk, .ptr 4 0 0, .ptr 5 0 0, p64 top, .junk, p8 (top % 2), slB false true w, .junk, .junk, .junk, .junk, .junk, .junk, .junk, .junk, .junk, .junk, .junk, .junk, .junk, .junk, .junk, .junk, .junk, .junk, .junk, .junk, .junk, .junk, .junk, .junk, .junk, .junk, .junk, .junk, .junk, .junk, .junk, .junk, .junk, .junk, .junk, .junk, .junk, .junk, .junk, .junk, .junk, .junk, .junk, .junk, .junk, .junk, .junk, .junk, .junk, .junk, .junk, .junk, .junk, .junk, .junk, .junk, .junk, .junk, .junk, .junk, .junk, .junk, .junk, .junk, .junk, .junk, .junk, .junk, .junk, .junk, .junk, .junk, .junk, .junk, .junk, .junk, .junk, .junk, .junk, .junk, .junk, .junk, .junk, .junk, .junk, .junk, .junk, .junk, .junk, .junk, .junk, .junk, .junk, .junk, .junk, .junk, .junk, .junk, .junk, .junk, .junk, .junk, .junk, .junk, .junk, .junk, .junk, .junk, .junk, .junk, .junk, .junk, .junk, .junk, .junk, .junk, .junk, .junk, .junk, .junk, .junk, .junk, .junk, .junk, .junk, .junk, .junk, .junk, .junk, .junk, .junk, .junk, .junk, .junk, .junk, .junk, .junk, .junk, .junk, .junk, .junk, .junk, .junk, .junk, .junk, .junk, .junk, .junk, .junk, .junk, .junk, .junk, .junk, .junk, .junk, .junk, .junk, .junk, .junk, .junk, .junk, .junk, .junk, .junk, .junk, .junk, .junk, .junk, .junk, .junk, .junk, .junk, .junk]) 8 (by omega) rfl (by
    simp only [PFrz_junk, PFrz_same]
    rw [PFrz_ref (by rw [List.length_map, hw]; omega) (by rw [Nat.mul_one, psub_all _ _ (by simp [hw])]; unfold slB; rw [hw])]
    simp only [PFrz_nil, PFrz_junk, PFrz_same]) rfl) (Gh.same ?_)
  have htg : ∀ v, bm w v ↔ bm inL v ∧ zP pr v = top := fun v => by
    constructor
    · intro h
      have := bm_lt h
      exact (hget v (by omega)).1 h
    · intro h
      have := bm_lt h.1
      exact (hget v (by omega)).2 h
  have hwt : ∀ v, bm w v → bm inL v := fun v h => ((htg v).1 h).1
  obtain ⟨vt, vt1, vt2, vt3⟩ : ∃ v, v < ow.length ∧ bm inL v ∧ zP pr v = top := hex.resolve_left (by omega)
  have hO : ∀ v, bm inL v → zO ow v = 0 ∨ zO ow v = 1 := fun v hv => by
    have h1 := bm_lt hv
    rw [hi] at h1
    have h2 := (V.row v (by omega)).2.2.1
    have h3 : 0 ≤ ow.getD v 0 := by rw [List.getD, List.getElem?_eq_getElem h1]; exact ho _ (List.getElem_mem h1)
    show ow.getD v 0 = 0 ∨ ow.getD v 0 = 1
    omega
  have hmx : ∀ v, bm inL v → zP pr v ≤ top := fun v hv => htop v (by have := bm_lt hv; omega) hv
  have hw1 : IntKind.u8.wrap 1 = 1 := rfl
  have hw0 : IntKind.u8.wrap 0 = 0 := rfl
  rcases (show top % 2 = 0 ∨ top % 2 = 1 by omega) with hp2 | hp2
  · simp only [PP, P1, P2, P3, P4, P5, P6, P7, P8, P9, P10, P11, P12, P13, P14, L1, P15, N1, N2, N3, N4, N5, N6, N7, I1, I2, I3, I4, I5, I6, I7, reduceIte, reduceCtorEq, hp2]
    refine SemC_prefix (m := 4) (by simp) (by simp only [PP, P1, P2, P3, P4, P5, P6, P7, P8, P9, P10, P11, P12, P13, P14, L1, P15, N1, N2, N3, N4, N5, N6, N7, I1, I2, I3, I4, I5, I6, I7, reduceIte, reduceCtorEq, slB]) (by simp only [PP, P1, P2, P3, P4, P5, P6, P7, P8, P9, P10, P11, P12, P13, P14, L1, P15, N1, N2, N3, N4, N5, N6, N7, I1, I2, I3, I4, I5, I6, I7, reduceIte, reduceCtorEq, cutOk_cells, h0, h1, underL_ints]) ?_
    refine attract_z T V B h0 h1 hi hw hs hs0 hwt ?_
    intro ver1 A st1 r1 lA ls1 nn1 att
    refine ⟨under_slB _ _ _ _ _ _, rfl, by simp only [PP, P1, P2, P3, P4, P5, P6, P7, P8, P9, P10, P11, P12, P13, P14, L1, P15, N1, N2, N3, N4, N5, N6, N7, I1, I2, I3, I4, I5, I6, I7, reduceIte, reduceCtorEq, cutOk_cells, h0, h1, underL_ints], ?_⟩
    simp only [PP, P1, P2, P3, P4, P5, P6, P7, P8, P9, P10, P11, P12, P13, P14, L1, P15, N1, N2, N3, N4, N5, N6, N7, I1, I2, I3, I4, I5, I6, I7, reduceIte, reduceCtorEq]
    refine ⟨by split <;> rfl, ?_⟩
    refine minus_z T hi lA (by omega) ?_
    simp only [PP, P1, P2, P3, P4, P5, P6, P7, P8, P9, P10, P11, P12, P13, P14, L1, P15, N1, N2, N3, N4, N5, N6, N7, I1, I2, I3, I4, I5, I6, I7, reduceIte, reduceCtorEq]
    refine SemC_prefix (m := 4) (by simp) (by simp only [PP, P1, P2, P3, P4, P5, P6, P7, P8, P9, P10, P11, P12, P13, P14, L1, P15, N1, N2, N3, N4, N5, N6, N7, I1, I2, I3, I4, I5, I6, I7, reduceIte, reduceCtorEq, slB]) (by simp only [PP, P1, P2, P3, P4, P5, P6, P7, P8, P9, P10, P11, P12, P13, P14, L1, P15, N1, N2, N3, N4, N5, N6, N7, I1, I2, I3, I4, I5, I6, I7, reduceIte, reduceCtorEq, cutOk_cells, h0, h1, underL_ints]) ?_
    have vtA := att.tgt vt ((htg vt).2 ⟨vt2, vt3⟩)
    have hcm := count_minus hi vt2 vtA
    have mA : ∀ v, bm (minusL inL A ow.length) v ↔ bm inL v ∧ ¬ bm A v := fun v => bm_minus hi
    refine IH (minusL inL A ow.length) st1 ver1 _ (by omega) (minusL_len _ _ _) ls1 nn1 (fun v hv => ?_) ?_
    · obtain ⟨u, q1, q2⟩ := att.tot htot v ((mA v).1 hv)
      exact ⟨u, q1, (mA u).2 q2⟩
    intro ver2 st2 wa wb Z2
    refine ⟨by simp only [PP, P1, P2, P3, P4, P5, P6, P7, P8, P9, P10, P11, P12, P13, P14, L1, P15, N1, N2, N3, N4, N5, N6, N7, I1, I2, I3, I4, I5, I6, I7, reduceIte, reduceCtorEq, slB], rfl, by simp only [PP, P1, P2, P3, P4, P5, P6, P7, P8, P9, P10, P11, P12, P13, P14, L1, P15, N1, N2, N3, N4, N5, N6, N7, I1, I2, I3, I4, I5, I6, I7, reduceIte, reduceCtorEq, cutOk_cells, h0, h1, underL_ints], ?_⟩
    simp only [PP, P1, P2, P3, P4, P5, P6, P7, P8, P9, P10, P11, P12, P13, P14, L1, P15, N1, N2, N3, N4, N5, N6, N7, I1, I2, I3, I4, I5, I6, I7, reduceIte, reduceCtorEq]
    refine ⟨by split <;> split <;> rfl, ?_⟩
    simp only [PP, P1, P2, P3, P4, P5, P6, P7, P8, P9, P10, P11, P12, P13, P14, L1, P15, N1, N2, N3, N4, N5, N6, N7, I1, I2, I3, I4, I5, I6, I7, reduceIte, reduceCtorEq, hw1]
    have lq : wb.length < big := by show _ < 1000000000000; have := Z2.l1; omega
    refine empty_p T lq ?_
    by_cases hemp : true ∈ wb
    · simp only [PP, P1, P2, P3, P4, P5, P6, P7, P8, P9, P10, P11, P12, P13, P14, L1, P15, N1, N2, N3, N4, N5, N6, N7, I1, I2, I3, I4, I5, I6, I7, reduceIte, reduceCtorEq, hemp]
      simp only [PP, P1, P2, P3, P4, P5, P6, P7, P8, P9, P10, P11, P12, P13, P14, L1, P15, N1, N2, N3, N4, N5, N6, N7, I1, I2, I3, I4, I5, I6, I7, reduceIte, reduceCtorEq, hw1]
      obtain ⟨ve, hve⟩ := mem_bm.1 hemp
      have eA : (bm (minusL inL A ow.length)) = fun v => bm inL v ∧ ¬ bm A v := funext fun v => propext (mA v)
      have sub := Z2.p1
      rw [eA] at sub
      have hWi : ∀ v, bm wb v → bm inL v := fun v h => ((sub.sub v h).1)
      refine SemC_prefix (m := 4) (by simp) (by simp only [PP, P1, P2, P3, P4, P5, P6, P7, P8, P9, P10, P11, P12, P13, P14, L1, P15, N1, N2, N3, N4, N5, N6, N7, I1, I2, I3, I4, I5, I6, I7, reduceIte, reduceCtorEq, slB]) (by simp only [PP, P1, P2, P3, P4, P5, P6, P7, P8, P9, P10, P11, P12, P13, P14, L1, P15, N1, N2, N3, N4, N5, N6, N7, I1, I2, I3, I4, I5, I6, I7, reduceIte, reduceCtorEq, cutOk_cells, h0, h1, underL_ints]) ?_
      refine attract_z T V B h0 h1 hi Z2.l1 Z2.ls Z2.nn hWi ?_
      intro ver3 L st3 r3 lL ls3 nn3 att3
      refine ⟨under_slB _ _ _ _ _ _, rfl, by simp only [PP, P1, P2, P3, P4, P5, P6, P7, P8, P9, P10, P11, P12, P13, P14, L1, P15, N1, N2, N3, N4, N5, N6, N7, I1, I2, I3, I4, I5, I6, I7, reduceIte, reduceCtorEq, cutOk_cells, h0, h1, underL_ints], ?_⟩
      simp only [PP, P1, P2, P3, P4, P5, P6, P7, P8, P9, P10, P11, P12, P13, P14, L1, P15, N1, N2, N3, N4, N5, N6, N7, I1, I2, I3, I4, I5, I6, I7, reduceIte, reduceCtorEq]
      refine minus_z T hi lL (by omega) ?_
      simp only [PP, P1, P2, P3, P4, P5, P6, P7, P8, P9, P10, P11, P12, P13, P14, L1, P15, N1, N2, N3, N4, N5, N6, N7, I1, I2, I3, I4, I5, I6, I7, reduceIte, reduceCtorEq]
      refine SemC_prefix (m := 4) (by simp) (by simp only [PP, P1, P2, P3, P4, P5, P6, P7, P8, P9, P10, P11, P12, P13, P14, L1, P15, N1, N2, N3, N4, N5, N6, N7, I1, I2, I3, I4, I5, I6, I7, reduceIte, reduceCtorEq, slB]) (by simp only [PP, P1, P2, P3, P4, P5, P6, P7, P8, P9, P10, P11, P12, P13, P14, L1, P15, N1, N2, N3, N4, N5, N6, N7, I1, I2, I3, I4, I5, I6, I7, reduceIte, reduceCtorEq, cutOk_cells, h0, h1, underL_ints]) ?_
      have hcm2 := count_minus hi (hWi ve hve) (att3.tgt ve hve)
      have mL : ∀ v, bm (minusL inL L ow.length) v ↔ bm inL v ∧ ¬ bm L v := fun v => bm_minus hi
      refine IH (minusL inL L ow.length) st3 ver3 _ (by omega) (minusL_len _ _ _) ls3 nn3 (fun v hv => ?_) ?_
      · obtain ⟨u, q1, q2⟩ := att3.tot htot v ((mL v).1 hv)
        exact ⟨u, q1, (mL u).2 q2⟩
      intro ver4 st4 xa xb Z4
      refine ⟨by simp only [PP, P1, P2, P3, P4, P5, P6, P7, P8, P9, P10, P11, P12, P13, P14, L1, P15, N1, N2, N3, N4, N5, N6, N7, I1, I2, I3, I4, I5, I6, I7, reduceIte, reduceCtorEq, slB], rfl, by simp only [PP, P1, P2, P3, P4, P5, P6, P7, P8, P9, P10, P11, P12, P13, P14, L1, P15, N1, N2, N3, N4, N5, N6, N7, I1, I2, I3, I4, I5, I6, I7, reduceIte, reduceCtorEq, cutOk_cells, h0, h1, underL_ints], ?_⟩
      have nz : ¬ ow.length = 0 := by omega
      have b3 : ow.length ≤ 140737488355328 := by omega
      have b4 : ow.length ≤ 9223372036854775807 := by omega
      have lxq : xb.length = ow.length := Z4.l1
      simp only [PP, P1, P2, P3, P4, P5, P6, P7, P8, P9, P10, P11, P12, P13, P14, L1, P15, N1, N2, N3, N4, N5, N6, N7, I1, I2, I3, I4, I5, I6, I7, reduceIte, reduceCtorEq, hw1]
      refine SemC_fn T.h59 ?_
      simp only [af59, PP, P1, P2, P3, P4, P5, P6, P7, P8, P9, P10, P11, P12, P13, P14, L1, P15, N1, N2, N3, N4, N5, N6, N7, I1, I2, I3, I4, I5, I6, I7, reduceIte, reduceCtorEq, lxq, nz, b3, b4, hw1, lL]
      have eL : (bm (minusL inL L ow.length)) = fun v => bm inL v ∧ ¬ bm L v := funext fun v => propext (mL v)
      have subp := Z4.p0
      have subq := Z4.p1
      rw [eL] at subp subq
      obtain ⟨z1, z2⟩ := zk_two (D := bm inL) (p := 0) (q := 1) (by omega) hO att sub att3 subp subq (fun v h => Z4.same v fun q => h ((mL v).1 q))
      refine loop3 (fun (k ver : Nat) (x : List Bool) => k ≤ ow.length ∧ x.length = ow.length ∧ ∀ v, bm x v ↔ bm xb v ∨ (v < k ∧ bm L v))
        (fun k ver x => [.junk, .junk, .junk, .junk, .ptr 5 0 0, .junk, .junk, p8 0, .junk, .junk, .junk, .junk, .junk, slB false true L, .junk, .junk, .junk, .junk, .junk, .junk, .junk, .junk, .junk, .junk, .junk, .junk, .junk, .junk, .junk, .junk, .junk, .junk, .junk, .junk, .junk, .junk, .junk, .junk, .junk, .junk, .junk, .junk, .junk, .junk, .junk, .junk, .junk, .junk, .junk, .junk, .junk, .junk, .junk, .junk, .junk, .junk, .junk, .junk, .junk, .junk, .junk, .junk, .junk, .junk, .junk, .junk, .junk, .junk, .junk, .junk, .junk, .junk, .junk, .junk, .junk, .junk, .junk, .junk, .junk, .junk, .junk, .junk, .junk, .junk, .junk, .junk, .junk, .junk, .junk, .junk, .junk, .junk, .junk, .junk, .junk, .junk, .junk, .junk, .junk, .junk, .junk, .junk, .junk, .junk, .junk, .junk, .junk, .junk, .junk, .junk, .junk, .junk, .junk, .junk, .junk, .junk, .junk, .junk, .junk, .junk, .junk, .junk, .junk, .junk, .junk, .junk, .junk, .junk, .junk, .junk, .junk, .junk, .junk, .junk, .junk, .junk, .junk, .junk, .junk, .junk, .junk, .junk, .junk, .junk, .junk, .junk, .junk, .junk, .junk, .junk, .junk, .junk, .junk, .junk, .junk, .junk, .junk, p64 ow.length, p64 k, .junk, .junk, .junk, .junk, .junk, .junk, .junk, .junk, .junk, .junk, .junk, .junk, .junk, .junk, .junk, .junk, .junk, .junk, .junk, .junk, .junk, .junk, .junk])
        (fun k ver x => [o0, o1, .cells 0 ver4 (st4.map (PV.int .i64)), .cells 0 0 (zSol f1 p1 f2 p2 f3 p3 f4 p4 ow pr su), .cells 0 0 [slB false true inL], .cells 0 3 [slB false true xa, .ref 10 0 1 0 ow.length], .cells 0 0 (List.replicate ow.length (.bool false)), .cells 0 0 (List.replicate ow.length (.bool false)), .gone, .cells 0 1 [slB false true wa, slB false true wb], .cells 0 ver (x.map PV.bool)])
        (fun k _ _ => ow.length - k) 0 0 xb ⟨by omega, lxq, fun v => ⟨.inl, fun h => h.elim id fun q => by omega⟩⟩ (by simp only [PWeak_nil, PWeak_junk, PWeak_same, Int.cast_ofNat_Int, List.length_append, List.length_cons, List.length_nil, Nat.zero_add]) (by simp only [PP, P1, P2, P3, P4, P5, P6, P7, P8, P9, P10, P11, P12, P13, P14, L1, P15, N1, N2, N3, N4, N5, N6, N7, I1, I2, I3, I4, I5, I6, I7, reduceIte, reduceCtorEq]) ?_
      intro k ver x ⟨hle, lx, hx⟩ ih3
      refine SemW_go (by kernel_rfl) ?_
      simp only [PP, P1, P2, P3, P4, P5, P6, P7, P8, P9, P10, P11, P12, P13, P14, L1, P15, N1, N2, N3, N4, N5, N6, N7, I1, I2, I3, I4, I5, I6, I7, reduceIte, reduceCtorEq]
      refine QIf.intro (fun e => ?_) (fun e => ?_)
      · have hk' : k < ow.length := by omega
        have k0 : (0 : Int) ≤ k := by omega
        have kn : (k : Int) < ow.length := by omega
        have k1 : k + 1 ≤ ow.length := hk'
        have hwk := wrap_succ (k := k) (by show _ < 1000000000000; omega)
        obtain ⟨y, g1⟩ := some_of (xs := x) (k := k) (by omega)
        obtain ⟨z, g2⟩ := some_of (xs := L) (k := k) (by omega)
        have up : ∀ b : Bool, (b = true ↔ bm x k ∨ bm L k) → k + 1 ≤ ow.length ∧ (x.set k b).length = ow.length ∧ ∀ v, bm (x.set k b) v ↔ bm xb v ∨ (v < k + 1 ∧ bm L v) := fun b hb => by
          refine ⟨by omega, by simp [lx], fun v => ?_⟩
          by_cases e : v = k
          · subst e
            have : bm (x.set v b) v ↔ b = true := by unfold bm; rw [List.getElem?_set_self (by omega)]; simp
            rw [this, hb, hx v]
            constructor
            · rintro (h | h)
              · exact h.imp id fun q => ⟨by omega, q.2⟩
              · exact .inr ⟨by omega, h⟩
            · rintro (h | h)
              · exact .inl (.inl h)
              · exact .inr h.2
          · have : bm (x.set k b) v ↔ bm x v := by unfold bm; rw [List.getElem?_set_ne (by omega)]
            rw [this, hx v]
            exact ⟨fun h => h.imp id fun q => ⟨by omega, q.2⟩, fun h => h.imp id fun q => ⟨by omega, q.2⟩⟩
        cases y
        · have hy : ¬ bm x k := fun h => by rw [bm_of g1] at h; cases h
          simp only [PP, P1, P2, P3, P4, P5, P6, P7, P8, P9, P10, P11, P12, P13, P14, L1, P15, N1, N2, N3, N4, N5, N6, N7, I1, I2, I3, I4, I5, I6, I7, reduceIte, reduceCtorEq, e, hw1, k0, kn, g1, g2, lx, lL, k1, hwk]
          exact SemW_to (ih3 (k + 1) (ver + 1) (x.set k z) (up z ⟨fun h => .inr ((bm_of g2).2 h), fun h => h.elim (fun q => absurd q hy) (bm_of g2).1⟩) (by omega)) (by simp only [PWeak_nil, PWeak_junk, PWeak_same, Int.cast_ofNat_Int, List.length_append, List.length_cons, List.length_nil, Nat.zero_add]) (by simp only [← List.map_set])
        · simp only [PP, P1, P2, P3, P4, P5, P6, P7, P8, P9, P10, P11, P12, P13, P14, L1, P15, N1, N2, N3, N4, N5, N6, N7, I1, I2, I3, I4, I5, I6, I7, reduceIte, reduceCtorEq, e, hw1, k0, kn, g1, lx, k1, hwk]
          exact SemW_to (ih3 (k + 1) (ver + 1) (x.set k true) (up true ⟨fun _ => .inl ((bm_of g1).2 rfl), fun _ => rfl⟩) (by omega)) (by simp only [PWeak_nil, PWeak_junk, PWeak_same, Int.cast_ofNat_Int, List.length_append, List.length_cons, List.length_nil, Nat.zero_add]) (by simp only [← List.map_set])
      · have hkn : k = ow.length := by omega
        subst hkn
        have hx : ∀ v, bm x v ↔ bm xb v ∨ bm L v := fun v => (hx v).trans ⟨fun h => h.imp id And.right, fun h => h.imp id fun q => ⟨by have := bm_lt q; omega, q⟩⟩
        simp only [PP, P1, P2, P3, P4, P5, P6, P7, P8, P9, P10, P11, P12, P13, P14, L1, P15, N1, N2, N3, N4, N5, N6, N7, I1, I2, I3, I4, I5, I6, I7, reduceIte, reduceCtorEq, e]
        have z2' : SolIn (zO ow) (Sf su) (zP pr) (bm inL) 1 (bm x) (stN st4) := by
          have e2 : bm x = fun v => bm xb v ∨ bm L v := funext fun v => propext (hx v)
          rw [e2]; exact z2
        have hsm : ∀ v, ¬ bm inL v → stN st4 v = stN st0 v := fun v h => by
          have q1 : ¬ bm L v := fun q => h (att3.sub v q)
          rw [Z4.same v (fun q => h ((mL v).1 q).1), att3.same v (.inl q1), Z2.same v (fun q => h ((mA v).1 q).1), att.same v (.inl fun q => h (att.sub v q))]
        refine ⟨.agg [slB false true xa, slB false true x], _, pfrz_agg2 (pfrz1_slB _ _ _ _ _) (pfrz1_refB (by omega) rfl lx), pfrzM_all (by simp only [PP, P1, P2, P3, P4, P5, P6, P7, P8, P9, P10, P11, P12, P13, P14, L1, P15, N1, N2, N3, N4, N5, N6, N7, I1, I2, I3, I4, I5, I6, I7, reduceIte, reduceCtorEq, cutOk_cells, h0, h1, underL_ints]), hk ver4 st4 _ _ ⟨Z4.l0, lx, Z4.ls, Z4.nn, fun v => ⟨fun h => ?_, fun h => h.elim (fun q => ((mL v).1 ((Z4.all v).2 (.inl q))).1) fun q => ((hx v).1 q).elim (fun q => ((mL v).1 ((Z4.all v).2 (.inr q))).1) (att3.sub v)⟩, fun v q1 q2 => ((hx v).1 q2).elim (Z4.dis v q1) fun q => ((mL v).1 ((Z4.all v).2 (.inl q1))).2 q, z1, z2', hsm⟩⟩
        by_cases hl : bm L v
        · exact .inr ((hx v).2 (.inr hl))
        · exact (Z4.all v).1 ((mL v).2 ⟨h, hl⟩) |>.elim .inl fun q => .inr ((hx v).2 (.inl q))
    · simp only [PP, P1, P2, P3, P4, P5, P6, P7, P8, P9, P10, P11, P12, P13, P14, L1, P15, N1, N2, N3, N4, N5, N6, N7, I1, I2, I3, I4, I5, I6, I7, reduceIte, reduceCtorEq, hemp]
      have eA : (bm (minusL inL A ow.length)) = fun v => bm inL v ∧ ¬ bm A v := funext fun v => propext (mA v)
      have eW : bm wa = fun v => bm inL v ∧ ¬ bm A v := funext fun v => propext (by
        rw [← mA v, Z2.all v]
        exact ⟨.inl, fun h => h.resolve_right (not_mem_bm hemp v)⟩)
      have sub := Z2.p0
      rw [eA, eW] at sub
      have hsame2 : ∀ v, ¬ (bm inL v ∧ ¬ bm A v) → stN st2 v = stN st1 v := fun v h => Z2.same v (fun q => h ((mA v).1 q))
      refine loop3 (fun (k ver : Nat) (st : List Int) => k ≤ ow.length ∧ st.length = ow.length ∧ (∀ x ∈ st, 0 ≤ x) ∧ (∀ v, v < k → bm w v → zO ow v = 0 → stN st v ∈ Sf su v ∧ bm inL (stN st v)) ∧ ∀ v, ¬ (v < k ∧ bm w v ∧ zO ow v = 0) → stN st v = stN st2 v)
        (fun k ver st => [.ptr 3 0 0, .junk, .junk, .ptr 4 0 0, .ptr 5 0 0, .junk, .junk, p8 0, slB false true w, .junk, .junk, .junk, .junk, .junk, .junk, .junk, .junk, .junk, .junk, .junk, .junk, .junk, .junk, .junk, .junk, .junk, .junk, .junk, .junk, .junk, .junk, .junk, .junk, .junk, .junk, .junk, .junk, .junk, .junk, .junk, .junk, .junk, .junk, .junk, .junk, .junk, .junk, .junk, .junk, .junk, .junk, .junk, .junk, .junk, .junk, .junk, .junk, .junk, .junk, .junk, .junk, .junk, .junk, .junk, .junk, .junk, .junk, .junk, .junk, .junk, .junk, .junk, .junk, .junk, .junk, .junk, .junk, .junk, .junk, .junk, .junk, .junk, .junk, .junk, .junk, .junk, .junk, .junk, .junk, .junk, .junk, .junk, .junk, .junk, slR f3 p3 f4 p4 .i64 su, p64 su.length, p64 k, .junk, .junk, .junk, .junk, .junk, .junk, .junk, .junk, .junk, .junk, .junk, .junk, .junk, .junk, .junk, .junk, .junk, .junk, .junk, .junk, .junk, .junk, .junk, .junk, .junk, .junk, .junk, .junk, .junk, .junk, .junk, .junk, .junk, .junk, .junk, .junk, .junk, .junk, .junk, .junk, .junk, .junk, .junk, .junk, .junk, .junk, .junk, .junk, .junk, .junk, .junk, .junk, .junk, .junk, .junk, .junk, .junk, .junk, .junk, .junk, .junk, .junk, .junk, .junk, .junk, .junk, .junk, .junk, .junk, .junk, .junk, .junk, .junk, .junk, .junk, .junk, .junk, .junk, .junk, .junk, .junk, .junk, .junk, .junk, .junk])
        (fun k ver st => [o0, o1, .cells 0 ver (st.map (PV.int .i64)), .cells 0 0 (zSol f1 p1 f2 p2 f3 p3 f4 p4 ow pr su), .cells 0 0 [slB false true inL], .cells 0 1 [.ref 6 0 1 0 ow.length, .ref 7 0 1 0 ow.length], .cells 0 0 (List.replicate ow.length (.bool false)), .cells 0 0 (List.replicate ow.length (.bool false)), .gone, .cells 0 1 [slB false true wa, slB false true wb]])
        (fun k _ _ => ow.length - k) 0 ver2 st2 ⟨by omega, Z2.ls, Z2.nn, fun v h => by omega, fun _ _ => rfl⟩ (by simp only [PWeak_nil, PWeak_junk, PWeak_same, Int.cast_ofNat_Int, List.length_append, List.length_cons, List.length_nil, Nat.zero_add]) rfl ?_
      intro k ver st ⟨hle, ls, nn, hst, hoth⟩ ih3
      refine SemW_go (by kernel_rfl) ?_
      simp only [PP, P1, P2, P3, P4, P5, P6, P7, P8, P9, P10, P11, P12, P13, P14, L1, P15, N1, N2, N3, N4, N5, N6, N7, I1, I2, I3, I4, I5, I6, I7, reduceIte, reduceCtorEq]
      refine QIf.intro (fun e => ?_) (fun e => ?_)
      · have hk' : k < ow.length := by omega
        have k0 : (0 : Int) ≤ k := by omega
        have kn : (k : Int) < ow.length := by omega
        have hwk := wrap_succ (k := k) (by show _ < 1000000000000; omega)
        obtain ⟨x, g1⟩ := some_of (xs := w) (k := k) (by omega)
        obtain ⟨o, g2⟩ := some_of (xs := ow) (k := k) hk'
        obtain ⟨row, g3⟩ := some_of (xs := su) (k := k) (by omega)
        have eo : zO ow k = o := getD_some g2
        have e1 : su.getD k [] = row := by simp [List.getD, g3]
        have keep : ¬ (bm w k ∧ zO ow k = 0) → k + 1 ≤ ow.length ∧ st.length = ow.length ∧ (∀ x ∈ st, 0 ≤ x) ∧ (∀ v, v < k + 1 → bm w v → zO ow v = 0 → stN st v ∈ Sf su v ∧ bm inL (stN st v)) ∧ ∀ v, ¬ (v < k + 1 ∧ bm w v ∧ zO ow v = 0) → stN st v = stN st2 v := fun hn =>
          ⟨by omega, ls, nn, fun v hv q1 q2 => by
            by_cases e : v = k
            · subst e; exact absurd ⟨q1, q2⟩ hn
            · exact hst v (by omega) q1 q2, fun v hv => hoth v fun q => hv ⟨by omega, q.2⟩⟩
        simp only [PP, P1, P2, P3, P4, P5, P6, P7, P8, P9, P10, P11, P12, P13, P14, L1, P15, N1, N2, N3, N4, N5, N6, N7, I1, I2, I3, I4, I5, I6, I7, reduceIte, reduceCtorEq, e, k0, g3, g1, hw, kn]
        cases x
        · have hnb : ¬ bm w k := fun h => by rw [bm_of g1] at h; cases h
          simp only [PP, P1, P2, P3, P4, P5, P6, P7, P8, P9, P10, P11, P12, P13, P14, L1, P15, N1, N2, N3, N4, N5, N6, N7, I1, I2, I3, I4, I5, I6, I7, reduceIte, reduceCtorEq, hwk]
          exact SemW_weak (ih3 (k + 1) ver st (keep fun h => hnb h.1) (by omega)) (by simp only [PWeak_nil, PWeak_junk, PWeak_same, Int.cast_ofNat_Int, List.length_append, List.length_cons, List.length_nil, Nat.zero_add])
        simp only [PP, P1, P2, P3, P4, P5, P6, P7, P8, P9, P10, P11, P12, P13, P14, L1, P15, N1, N2, N3, N4, N5, N6, N7, I1, I2, I3, I4, I5, I6, I7, reduceIte, reduceCtorEq, k0, kn, g2]
        refine QIf.intro (fun e2 => ?_) (fun e2 => ?_)
        · have hrb : row.length < big := B.r _ (List.mem_of_getElem? g3)
          have hbk : bm w k := (bm_of g1).2 rfl
          obtain ⟨u1, q1, q2⟩ := htot k (hwt k hbk)
          have q1 : u1 ∈ (su.getD k []).map Int.toNat := q1
          rw [e1] at q1
          obtain ⟨y1, q3, rfl⟩ := List.mem_map.1 q1
          have rr : ∀ u ∈ row, 0 ≤ u ∧ u < ow.length := fun u hu => su_range V hk' (by rw [e1]; exact hu)
          obtain ⟨i, u, r1, r2, r3⟩ := idxFrom_some (p := fun u => inL.getD u.toNat false) (j := 0) (row := row) ⟨y1, q3, by rw [List.getD, q2]; rfl⟩
          have il := getSome_lt r2
          have ur := rr u (List.mem_of_getElem? r2)
          have bu : bm inL u.toNat := by
            have hul : u.toNat < inL.length := by omega
            rw [List.getD, List.getElem?_eq_getElem hul] at r3
            unfold bm; rw [List.getElem?_eq_getElem hul]; simpa using r3
          simp only [PP, P1, P2, P3, P4, P5, P6, P7, P8, P9, P10, P11, P12, P13, P14, L1, P15, N1, N2, N3, N4, N5, N6, N7, I1, I2, I3, I4, I5, I6, I7, reduceIte, reduceCtorEq, e2]
          refine indexFunc_p T (fun u => inL.getD u.toNat false) hrb (fun u hu K' hK' => ?_) ?_
          · obtain ⟨z, gz⟩ := some_of (xs := inL) (k := u.toNat) (by have := rr u hu; omega)
            have ez : inL.getD u.toNat false = z := by simp [List.getD, gz]
            refine SemC_fn T.h58 ?_
            simp only [af58, PP, P1, P2, P3, P4, P5, P6, P7, P8, P9, P10, P11, P12, P13, P14, L1, P15, N1, N2, N3, N4, N5, N6, N7, I1, I2, I3, I4, I5, I6, I7, reduceIte, reduceCtorEq, (rr u hu).1, (rr u hu).2, gz, hi]
            rw [ez] at hK'
            exact hK'
          · have i0 : (0 : Int) ≤ ((0 + i : Nat) : Int) := by omega
            have i1 : ((0 + i : Nat) : Int) < row.length := by omega
            have st3 : k + 1 ≤ ow.length := hk'
            rw [r1]
            simp only [PP, P1, P2, P3, P4, P5, P6, P7, P8, P9, P10, P11, P12, P13, P14, L1, P15, N1, N2, N3, N4, N5, N6, N7, I1, I2, I3, I4, I5, I6, I7, reduceIte, reduceCtorEq] at i0 i1 ⊢
            simp only [PP, P1, P2, P3, P4, P5, P6, P7, P8, P9, P10, P11, P12, P13, P14, L1, P15, N1, N2, N3, N4, N5, N6, N7, I1, I2, I3, I4, I5, I6, I7, reduceIte, reduceCtorEq, i0, i1, r2, k0, kn, ls, st3, hwk]
            refine SemW_to (ih3 (k + 1) (ver + 1) (st.set k u) ⟨by omega, by simp [ls], fun y hy => ?_, fun v hv b1 b2 => ?_, fun v hv => ?_⟩ (by omega)) (by simp only [PWeak_nil, PWeak_junk, PWeak_same, Int.cast_ofNat_Int, List.length_append, List.length_cons, List.length_nil, Nat.zero_add]) (by simp only [← List.map_set])
            · rcases List.mem_or_eq_of_mem_set hy with h | h
              · exact nn y h
              · subst h; exact ur.1
            · rw [stN_set (by omega)]
              by_cases e : v = k
              · subst e; rw [if_pos rfl]
                exact ⟨List.mem_map.2 ⟨u, by rw [e1]; exact List.mem_of_getElem? r2, rfl⟩, bu⟩
              · rw [if_neg e]; exact hst v (by omega) b1 b2
            · have e : v ≠ k := by rintro rfl; exact hv ⟨by omega, hbk, by rw [eo]; exact e2⟩
              rw [stN_set (by omega), if_neg e]
              exact hoth v fun q => hv ⟨by omega, q.2⟩
        · simp only [PP, P1, P2, P3, P4, P5, P6, P7, P8, P9, P10, P11, P12, P13, P14, L1, P15, N1, N2, N3, N4, N5, N6, N7, I1, I2, I3, I4, I5, I6, I7, reduceIte, reduceCtorEq, e2, hwk]
          exact SemW_weak (ih3 (k + 1) ver st (keep fun h => e2 (by rw [← eo]; exact h.2)) (by omega)) (by simp only [PWeak_nil, PWeak_junk, PWeak_same, Int.cast_ofNat_Int, List.length_append, List.length_cons, List.length_nil, Nat.zero_add])
      · simp only [PP, P1, P2, P3, P4, P5, P6, P7, P8, P9, P10, P11, P12, P13, P14, L1, P15, N1, N2, N3, N4, N5, N6, N7, I1, I2, I3, I4, I5, I6, I7, reduceIte, reduceCtorEq, e]
        have hz := zk_one (D := bm inL) (p := 0) (top := top) att (by exact htg) hmx hp2 sub hsame2 (fun v hx ho2 => hst v (by have := bm_lt hx; omega) hx ho2) (s3 := stN st) (fun v hx => hoth v fun q => hx q.2.1)
        have hnr : ∀ v, ¬ bm (List.replicate ow.length false) v := fun v h => by
          unfold bm at h
          rw [List.getElem?_replicate] at h
          split at h <;> simp at h
        have hemr : SolIn (zO ow) (Sf su) (zP pr) (bm inL) 1 (bm (List.replicate ow.length false)) (stN st) :=
          ⟨fun v h => absurd h (hnr v), fun v h => absurd h (hnr v), fun v h => absurd h (hnr v), fun cc kk _ _ h => absurd (h 0) (hnr _)⟩
        have hsm : ∀ v, ¬ bm inL v → stN st v = stN st0 v := fun v h => by
          rw [hoth v (fun q => h (hwt v q.2.1)), hsame2 v (fun q => h q.1), att.same v (.inl fun q => h (att.sub v q))]
        refine ⟨.agg [slB false true inL, slB false true (List.replicate ow.length false)], _, pfrz_agg2 (pfrz1_slB _ _ _ _ _) (pfrz1_refB (by omega) (by simp; rfl) (by simp)), pfrzM_all (by simp only [PP, P1, P2, P3, P4, P5, P6, P7, P8, P9, P10, P11, P12, P13, P14, L1, P15, N1, N2, N3, N4, N5, N6, N7, I1, I2, I3, I4, I5, I6, I7, reduceIte, reduceCtorEq, cutOk_cells, h0, h1, underL_ints]), hk ver st _ _ ⟨hi, by simp, ls, nn, fun v => ⟨.inl, fun h => h.resolve_right (hnr v)⟩, fun v _ h => hnr v h, hz, hemr, hsm⟩⟩
  · simp only [PP, P1, P2, P3, P4, P5, P6, P7, P8, P9, P10, P11, P12, P13, P14, L1, P15, N1, N2, N3, N4, N5, N6, N7, I1, I2, I3, I4, I5, I6, I7, reduceIte, reduceCtorEq, hp2]
    refine SemC_prefix (m := 4) (by simp) (by simp only [PP, P1, P2, P3, P4, P5, P6, P7, P8, P9, P10, P11, P12, P13, P14, L1, P15, N1, N2, N3, N4, N5, N6, N7, I1, I2, I3, I4, I5, I6, I7, reduceIte, reduceCtorEq, slB]) (by simp only [PP, P1, P2, P3, P4, P5, P6, P7, P8, P9, P10, P11, P12, P13, P14, L1, P15, N1, N2, N3, N4, N5, N6, N7, I1, I2, I3, I4, I5, I6, I7, reduceIte, reduceCtorEq, cutOk_cells, h0, h1, underL_ints]) ?_
    refine attract_z T V B h0 h1 hi hw hs hs0 hwt ?_
    intro ver1 A st1 r1 lA ls1 nn1 att
    refine ⟨under_slB _ _ _ _ _ _, rfl, by simp only [PP, P1, P2, P3, P4, P5, P6, P7, P8, P9, P10, P11, P12, P13, P14, L1, P15, N1, N2, N3, N4, N5, N6, N7, I1, I2, I3, I4, I5, I6, I7, reduceIte, reduceCtorEq, cutOk_cells, h0, h1, underL_ints], ?_⟩
    simp only [PP, P1, P2, P3, P4, P5, P6, P7, P8, P9, P10, P11, P12, P13, P14, L1, P15, N1, N2, N3, N4, N5, N6, N7, I1, I2, I3, I4, I5, I6, I7, reduceIte, reduceCtorEq]
    refine ⟨by split <;> rfl, ?_⟩
    refine minus_z T hi lA (by omega) ?_
    simp only [PP, P1, P2, P3, P4, P5, P6, P7, P8, P9, P10, P11, P12, P13, P14, L1, P15, N1, N2, N3, N4, N5, N6, N7, I1, I2, I3, I4, I5, I6, I7, reduceIte, reduceCtorEq]
    refine SemC_prefix (m := 4) (by simp) (by simp only [PP, P1, P2, P3, P4, P5, P6, P7, P8, P9, P10, P11, P12, P13, P14, L1, P15, N1, N2, N3, N4, N5, N6, N7, I1, I2, I3, I4, I5, I6, I7, reduceIte, reduceCtorEq, slB]) (by simp only [PP, P1, P2, P3, P4, P5, P6, P7, P8, P9, P10, P11, P12, P13, P14, L1, P15, N1, N2, N3, N4, N5, N6, N7, I1, I2, I3, I4, I5, I6, I7, reduceIte, reduceCtorEq, cutOk_cells, h0, h1, underL_ints]) ?_
    have vtA := att.tgt vt ((htg vt).2 ⟨vt2, vt3⟩)
    have hcm := count_minus hi vt2 vtA
    have mA : ∀ v, bm (minusL inL A ow.length) v ↔ bm inL v ∧ ¬ bm A v := fun v => bm_minus hi
    refine IH (minusL inL A ow.length) st1 ver1 _ (by omega) (minusL_len _ _ _) ls1 nn1 (fun v hv => ?_) ?_
    · obtain ⟨u, q1, q2⟩ := att.tot htot v ((mA v).1 hv)
      exact ⟨u, q1, (mA u).2 q2⟩
    intro ver2 st2 wa wb Z2
    refine ⟨by simp only [PP, P1, P2, P3, P4, P5, P6, P7, P8, P9, P10, P11, P12, P13, P14, L1, P15, N1, N2, N3, N4, N5, N6, N7, I1, I2, I3, I4, I5, I6, I7, reduceIte, reduceCtorEq, slB], rfl, by simp only [PP, P1, P2, P3, P4, P5, P6, P7, P8, P9, P10, P11, P12, P13, P14, L1, P15, N1, N2, N3, N4, N5, N6, N7, I1, I2, I3, I4, I5, I6, I7, reduceIte, reduceCtorEq, cutOk_cells, h0, h1, underL_ints], ?_⟩
    simp only [PP, P1, P2, P3, P4, P5, P6, P7, P8, P9, P10, P11, P12, P13, P14, L1, P15, N1, N2, N3, N4, N5, N6, N7, I1, I2, I3, I4, I5, I6, I7, reduceIte, reduceCtorEq]
    refine ⟨by split <;> split <;> rfl, ?_⟩
    simp only [PP, P1, P2, P3, P4, P5, P6, P7, P8, P9, P10, P11, P12, P13, P14, L1, P15, N1, N2, N3, N4, N5, N6, N7, I1, I2, I3, I4, I5, I6, I7, reduceIte, reduceCtorEq, hw0]
    have lq : wa.length < big := by show _ < 1000000000000; have := Z2.l0; omega
    refine empty_p T lq ?_
    by_cases hemp : true ∈ wa
    · simp only [PP, P1, P2, P3, P4, P5, P6, P7, P8, P9, P10, P11, P12, P13, P14, L1, P15, N1, N2, N3, N4, N5, N6, N7, I1, I2, I3, I4, I5, I6, I7, reduceIte, reduceCtorEq, hemp]
      simp only [PP, P1, P2, P3, P4, P5, P6, P7, P8, P9, P10, P11, P12, P13, P14, L1, P15, N1, N2, N3, N4, N5, N6, N7, I1, I2, I3, I4, I5, I6, I7, reduceIte, reduceCtorEq, hw0]
      obtain ⟨ve, hve⟩ := mem_bm.1 hemp
      have eA : (bm (minusL inL A ow.length)) = fun v => bm inL v ∧ ¬ bm A v := funext fun v => propext (mA v)
      have sub := Z2.p0
      rw [eA] at sub
      have hWi : ∀ v, bm wa v → bm inL v := fun v h => ((sub.sub v h).1)
      refine SemC_prefix (m := 4) (by simp) (by simp only [PP, P1, P2, P3, P4, P5, P6, P7, P8, P9, P10, P11, P12, P13, P14, L1, P15, N1, N2, N3, N4, N5, N6, N7, I1, I2, I3, I4, I5, I6, I7, reduceIte, reduceCtorEq, slB]) (by simp only [PP, P1, P2, P3, P4, P5, P6, P7, P8, P9, P10, P11, P12, P13, P14, L1, P15, N1, N2, N3, N4, N5, N6, N7, I1, I2, I3, I4, I5, I6, I7, reduceIte, reduceCtorEq, cutOk_cells, h0, h1, underL_ints]) ?_
      refine attract_z T V B h0 h1 hi Z2.l0 Z2.ls Z2.nn hWi ?_
      intro ver3 L st3 r3 lL ls3 nn3 att3
      refine ⟨under_slB _ _ _ _ _ _, rfl, by simp only [PP, P1, P2, P3, P4, P5, P6, P7, P8, P9, P10, P11, P12, P13, P14, L1, P15, N1, N2, N3, N4, N5, N6, N7, I1, I2, I3, I4, I5, I6, I7, reduceIte, reduceCtorEq, cutOk_cells, h0, h1, underL_ints], ?_⟩
      simp only [PP, P1, P2, P3, P4, P5, P6, P7, P8, P9, P10, P11, P12, P13, P14, L1, P15, N1, N2, N3, N4, N5, N6, N7, I1, I2, I3, I4, I5, I6, I7, reduceIte, reduceCtorEq]
      refine minus_z T hi lL (by omega) ?_
      simp only [PP, P1, P2, P3, P4, P5, P6, P7, P8, P9, P10, P11, P12, P13, P14, L1, P15, N1, N2, N3, N4, N5, N6, N7, I1, I2, I3, I4, I5, I6, I7, reduceIte, reduceCtorEq]
      refine SemC_prefix (m := 4) (by simp) (by simp only [PP, P1, P2, P3, P4, P5, P6, P7, P8, P9, P10, P11, P12, P13, P14, L1, P15, N1, N2, N3, N4, N5, N6, N7, I1, I2, I3, I4, I5, I6, I7, reduceIte, reduceCtorEq, slB]) (by simp only [PP, P1, P2, P3, P4, P5, P6, P7, P8, P9, P10, P11, P12, P13, P14, L1, P15, N1, N2, N3, N4, N5, N6, N7, I1, I2, I3, I4, I5, I6, I7, reduceIte, reduceCtorEq, cutOk_cells, h0, h1, underL_ints]) ?_
      have hcm2 := count_minus hi (hWi ve hve) (att3.tgt ve hve)
      have mL : ∀ v, bm (minusL inL L ow.length) v ↔ bm inL v ∧ ¬ bm L v := fun v => bm_minus hi
      refine IH (minusL inL L ow.length) st3 ver3 _ (by omega) (minusL_len _ _ _) ls3 nn3 (fun v hv => ?_) ?_
      · obtain ⟨u, q1, q2⟩ := att3.tot htot v ((mL v).1 hv)
        exact ⟨u, q1, (mL u).2 q2⟩
      intro ver4 st4 xa xb Z4
      refine ⟨by simp only [PP, P1, P2, P3, P4, P5, P6, P7, P8, P9, P10, P11, P12, P13, P14, L1, P15, N1, N2, N3, N4, N5, N6, N7, I1, I2, I3, I4, I5, I6, I7, reduceIte, reduceCtorEq, slB], rfl, by simp only [PP, P1, P2, P3, P4, P5, P6, P7, P8, P9, P10, P11, P12, P13, P14, L1, P15, N1, N2, N3, N4, N5, N6, N7, I1, I2, I3, I4, I5, I6, I7, reduceIte, reduceCtorEq, cutOk_cells, h0, h1, underL_ints], ?_⟩
      have nz : ¬ ow.length = 0 := by omega
      have b3 : ow.length ≤ 140737488355328 := by omega
      have b4 : ow.length ≤ 9223372036854775807 := by omega
      have lxq : xa.length = ow.length := Z4.l0
      simp only [PP, P1, P2, P3, P4, P5, P6, P7, P8, P9, P10, P11, P12, P13, P14, L1, P15, N1, N2, N3, N4, N5, N6, N7, I1, I2, I3, I4, I5, I6, I7, reduceIte, reduceCtorEq, hw0]
      refine SemC_fn T.h59 ?_
      simp only [af59, PP, P1, P2, P3, P4, P5, P6, P7, P8, P9, P10, P11, P12, P13, P14, L1, P15, N1, N2, N3, N4, N5, N6, N7, I1, I2, I3, I4, I5, I6, I7, reduceIte, reduceCtorEq, lxq, nz, b3, b4, hw0, lL]
      have eL : (bm (minusL inL L ow.length)) = fun v => bm inL v ∧ ¬ bm L v := funext fun v => propext (mL v)
      have subp := Z4.p1
      have subq := Z4.p0
      rw [eL] at subp subq
      obtain ⟨z1, z2⟩ := zk_two (D := bm inL) (p := 1) (q := 0) (by omega) (fun v h => (hO v h).symm) att sub att3 subp subq (fun v h => Z4.same v fun q => h ((mL v).1 q))
      refine loop3 (fun (k ver : Nat) (x : List Bool) => k ≤ ow.length ∧ x.length = ow.length ∧ ∀ v, bm x v ↔ bm xa v ∨ (v < k ∧ bm L v))
        (fun k ver x => [.junk, .junk, .junk, .junk, .ptr 5 0 0, .junk, .junk, p8 1, .junk, .junk, .junk, .junk, .junk, slB false true L, .junk, .junk, .junk, .junk, .junk, .junk, .junk, .junk, .junk, .junk, .junk, .junk, .junk, .junk, .junk, .junk, .junk, .junk, .junk, .junk, .junk, .junk, .junk, .junk, .junk, .junk, .junk, .junk, .junk, .junk, .junk, .junk, .junk, .junk, .junk, .junk, .junk, .junk, .junk, .junk, .junk, .junk, .junk, .junk, .junk, .junk, .junk, .junk, .junk, .junk, .junk, .junk, .junk, .junk, .junk, .junk, .junk, .junk, .junk, .junk, .junk, .junk, .junk, .junk, .junk, .junk, .junk, .junk, .junk, .junk, .junk, .junk, .junk, .junk, .junk, .junk, .junk, .junk, .junk, .junk, .junk, .junk, .junk, .junk, .junk, .junk, .junk, .junk, .junk, .junk, .junk, .junk, .junk, .junk, .junk, .junk, .junk, .junk, .junk, .junk, .junk, .junk, .junk, .junk, .junk, .junk, .junk, .junk, .junk, .junk, .junk, .junk, .junk, .junk, .junk, .junk, .junk, .junk, .junk, .junk, .junk, .junk, .junk, .junk, .junk, .junk, .junk, .junk, .junk, .junk, .junk, .junk, .junk, .junk, .junk, .junk, .junk, .junk, .junk, .junk, .junk, .junk, .junk, p64 ow.length, p64 k, .junk, .junk, .junk, .junk, .junk, .junk, .junk, .junk, .junk, .junk, .junk, .junk, .junk, .junk, .junk, .junk, .junk, .junk, .junk, .junk, .junk, .junk, .junk])
        (fun k ver x => [o0, o1, .cells 0 ver4 (st4.map (PV.int .i64)), .cells 0 0 (zSol f1 p1 f2 p2 f3 p3 f4 p4 ow pr su), .cells 0 0 [slB false true inL], .cells 0 3 [.ref 10 0 1 0 ow.length, slB false true xb], .cells 0 0 (List.replicate ow.length (.bool false)), .cells 0 0 (List.replicate ow.length (.bool false)), .gone, .cells 0 1 [slB false true wa, slB false true wb], .cells 0 ver (x.map PV.bool)])
        (fun k _ _ => ow.length - k) 0 0 xa ⟨by omega, lxq, fun v => ⟨.inl, fun h => h.elim id fun q => by omega⟩⟩ (by simp only [PWeak_nil, PWeak_junk, PWeak_same, Int.cast_ofNat_Int, List.length_append, List.length_cons, List.length_nil, Nat.zero_add]) (by simp only [PP, P1, P2, P3, P4, P5, P6, P7, P8, P9, P10, P11, P12, P13, P14, L1, P15, N1, N2, N3, N4, N5, N6, N7, I1, I2, I3, I4, I5, I6, I7, reduceIte, reduceCtorEq]) ?_
      intro k ver x ⟨hle, lx, hx⟩ ih3
      refine SemW_go (by kernel_rfl) ?_
      simp only [PP, P1, P2, P3, P4, P5, P6, P7, P8, P9, P10, P11, P12, P13, P14, L1, P15, N1, N2, N3, N4, N5, N6, N7, I1, I2, I3, I4, I5, I6, I7, reduceIte, reduceCtorEq]
      refine QIf.intro (fun e => ?_) (fun e => ?_)
      · have hk' : k < ow.length := by omega
        have k0 : (0 : Int) ≤ k := by omega
        have kn : (k : Int) < ow.length := by omega
        have k1 : k + 1 ≤ ow.length := hk'
        have hwk := wrap_succ (k := k) (by show _ < 1000000000000; omega)
        obtain ⟨y, g1⟩ := some_of (xs := x) (k := k) (by omega)
        obtain ⟨z, g2⟩ := some_of (xs := L) (k := k) (by omega)
        have up : ∀ b : Bool, (b = true ↔ bm x k ∨ bm L k) → k + 1 ≤ ow.length ∧ (x.set k b).length = ow.length ∧ ∀ v, bm (x.set k b) v ↔ bm xa v ∨ (v < k + 1 ∧ bm L v) := fun b hb => by
          refine ⟨by omega, by simp [lx], fun v => ?_⟩
          by_cases e : v = k
          · subst e
            have : bm (x.set v b) v ↔ b = true := by unfold bm; rw [List.getElem?_set_self (by omega)]; simp
            rw [this, hb, hx v]
            constructor
            · rintro (h | h)
              · exact h.imp id fun q => ⟨by omega, q.2⟩
              · exact .inr ⟨by omega, h⟩
            · rintro (h | h)
              · exact .inl (.inl h)
              · exact .inr h.2
          · have : bm (x.set k b) v ↔ bm x v := by unfold bm; rw [List.getElem?_set_ne (by omega)]
            rw [this, hx v]
            exact ⟨fun h => h.imp id fun q => ⟨by omega, q.2⟩, fun h => h.imp id fun q => ⟨by omega, q.2⟩⟩
        cases y
        · have hy : ¬ bm x k := fun h => by rw [bm_of g1] at h; cases h
          simp only [PP, P1, P2, P3, P4, P5, P6, P7, P8, P9, P10, P11, P12, P13, P14, L1, P15, N1, N2, N3, N4, N5, N6, N7, I1, I2, I3, I4, I5, I6, I7, reduceIte, reduceCtorEq, e, hw0, k0, kn, g1, g2, lx, lL, k1, hwk]
          exact SemW_to (ih3 (k + 1) (ver + 1) (x.set k z) (up z ⟨fun h => .inr ((bm_of g2).2 h), fun h => h.elim (fun q => absurd q hy) (bm_of g2).1⟩) (by omega)) (by simp only [PWeak_nil, PWeak_junk, PWeak_same, Int.cast_ofNat_Int, List.length_append, List.length_cons, List.length_nil, Nat.zero_add]) (by simp only [← List.map_set])
        · simp only [PP, P1, P2, P3, P4, P5, P6, P7, P8, P9, P10, P11, P12, P13, P14, L1, P15, N1, N2, N3, N4, N5, N6, N7, I1, I2, I3, I4, I5, I6, I7, reduceIte, reduceCtorEq, e, hw0, k0, kn, g1, lx, k1, hwk]
          exact SemW_to (ih3 (k + 1) (ver + 1) (x.set k true) (up true ⟨fun _ => .inl ((bm_of g1).2 rfl), fun _ => rfl⟩) (by omega)) (by simp only [PWeak_nil, PWeak_junk, PWeak_same, Int.cast_ofNat_Int, List.length_append, List.length_cons, List.length_nil, Nat.zero_add]) (by simp only [← List.map_set])
      · have hkn : k = ow.length := by omega
        subst hkn
        have hx : ∀ v, bm x v ↔ bm xa v ∨ bm L v := fun v => (hx v).trans ⟨fun h => h.imp id And.right, fun h => h.imp id fun q => ⟨by have := bm_lt q; omega, q⟩⟩
        simp only [PP, P1, P2, P3, P4, P5, P6, P7, P8, P9, P10, P11, P12, P13, P14, L1, P15, N1, N2, N3, N4, N5, N6, N7, I1, I2, I3, I4, I5, I6, I7, reduceIte, reduceCtorEq, e]
        have z2' : SolIn (zO ow) (Sf su) (zP pr) (bm inL) 0 (bm x) (stN st4) := by
          have e2 : bm x = fun v => bm xa v ∨ bm L v := funext fun v => propext (hx v)
          rw [e2]; exact z2
        have hsm : ∀ v, ¬ bm inL v → stN st4 v = stN st0 v := fun v h => by
          have q1 : ¬ bm L v := fun q => h (att3.sub v q)
          rw [Z4.same v (fun q => h ((mL v).1 q).1), att3.same v (.inl q1), Z2.same v (fun q => h ((mA v).1 q).1), att.same v (.inl fun q => h (att.sub v q))]
        refine ⟨.agg [slB false true x, slB false true xb], _, pfrz_agg2 (pfrz1_refB (by omega) rfl lx) (pfrz1_slB _ _ _ _ _), pfrzM_all (by simp only [PP, P1, P2, P3, P4, P5, P6, P7, P8, P9, P10, P11, P12, P13, P14, L1, P15, N1, N2, N3, N4, N5, N6, N7, I1, I2, I3, I4, I5, I6, I7, reduceIte, reduceCtorEq, cutOk_cells, h0, h1, underL_ints]), hk ver4 st4 _ _ ⟨lx, Z4.l1, Z4.ls, Z4.nn, fun v => ⟨fun h => ?_, fun h => h.elim (fun q => ((hx v).1 q).elim (fun q => ((mL v).1 ((Z4.all v).2 (.inl q))).1) (att3.sub v)) fun q => ((mL v).1 ((Z4.all v).2 (.inr q))).1⟩, fun v q2 q1 => ((hx v).1 q2).elim (fun q => Z4.dis v q q1) fun q => ((mL v).1 ((Z4.all v).2 (.inr q1))).2 q, z2', z1, hsm⟩⟩
        by_cases hl : bm L v
        · exact .inl ((hx v).2 (.inr hl))
        · exact (Z4.all v).1 ((mL v).2 ⟨h, hl⟩) |>.elim (fun q => .inl ((hx v).2 (.inl q))) .inr
    · simp only [PP, P1, P2, P3, P4, P5, P6, P7, P8, P9, P10, P11, P12, P13, P14, L1, P15, N1, N2, N3, N4, N5, N6, N7, I1, I2, I3, I4, I5, I6, I7, reduceIte, reduceCtorEq, hemp]
      have eA : (bm (minusL inL A ow.length)) = fun v => bm inL v ∧ ¬ bm A v := funext fun v => propext (mA v)
      have eW : bm wb = fun v => bm inL v ∧ ¬ bm A v := funext fun v => propext (by
        rw [← mA v, Z2.all v]
        exact ⟨.inr, fun h => h.resolve_left (not_mem_bm hemp v)⟩)
      have sub := Z2.p1
      rw [eA, eW] at sub
      have hsame2 : ∀ v, ¬ (bm inL v ∧ ¬ bm A v) → stN st2 v = stN st1 v := fun v h => Z2.same v (fun q => h ((mA v).1 q))
      refine loop3 (fun (k ver : Nat) (st : List Int) => k ≤ ow.length ∧ st.length = ow.length ∧ (∀ x ∈ st, 0 ≤ x) ∧ (∀ v, v < k → bm w v → zO ow v = 1 → stN st v ∈ Sf su v ∧ bm inL (stN st v)) ∧ ∀ v, ¬ (v < k ∧ bm w v ∧ zO ow v = 1) → stN st v = stN st2 v)
        (fun k ver st => [.ptr 3 0 0, .junk, .junk, .ptr 4 0 0, .ptr 5 0 0, .junk, .junk, p8 1, slB false true w, .junk, .junk, .junk, .junk, .junk, .junk, .junk, .junk, .junk, .junk, .junk, .junk, .junk, .junk, .junk, .junk, .junk, .junk, .junk, .junk, .junk, .junk, .junk, .junk, .junk, .junk, .junk, .junk, .junk, .junk, .junk, .junk, .junk, .junk, .junk, .junk, .junk, .junk, .junk, .junk, .junk, .junk, .junk, .junk, .junk, .junk, .junk, .junk, .junk, .junk, .junk, .junk, .junk, .junk, .junk, .junk, .junk, .junk, .junk, .junk, .junk, .junk, .junk, .junk, .junk, .junk, .junk, .junk, .junk, .junk, .junk, .junk, .junk, .junk, .junk, .junk, .junk, .junk, .junk, .junk, .junk, .junk, .junk, .junk, .junk, slR f3 p3 f4 p4 .i64 su, p64 su.length, p64 k, .junk, .junk, .junk, .junk, .junk, .junk, .junk, .junk, .junk, .junk, .junk, .junk, .junk, .junk, .junk, .junk, .junk, .junk, .junk, .junk, .junk, .junk, .junk, .junk, .junk, .junk, .junk, .junk, .junk, .junk, .junk, .junk, .junk, .junk, .junk, .junk, .junk, .junk, .junk, .junk, .junk, .junk, .junk, .junk, .junk, .junk, .junk, .junk, .junk, .junk, .junk, .junk, .junk, .junk, .junk, .junk, .junk, .junk, .junk, .junk, .junk, .junk, .junk, .junk, .junk, .junk, .junk, .junk, .junk, .junk, .junk, .junk, .junk, .junk, .junk, .junk, .junk, .junk, .junk, .junk, .junk, .junk, .junk, .junk, .junk])
        (fun k ver st => [o0, o1, .cells 0 ver (st.map (PV.int .i64)), .cells 0 0 (zSol f1 p1 f2 p2 f3 p3 f4 p4 ow pr su), .cells 0 0 [slB false true inL], .cells 0 1 [.ref 6 0 1 0 ow.length, .ref 7 0 1 0 ow.length], .cells 0 0 (List.replicate ow.length (.bool false)), .cells 0 0 (List.replicate ow.length (.bool false)), .gone, .cells 0 1 [slB false true wa, slB false true wb]])
        (fun k _ _ => ow.length - k) 0 ver2 st2 ⟨by omega, Z2.ls, Z2.nn, fun v h => by omega, fun _ _ => rfl⟩ (by simp only [PWeak_nil, PWeak_junk, PWeak_same, Int.cast_ofNat_Int, List.length_append, List.length_cons, List.length_nil, Nat.zero_add]) rfl ?_
      intro k ver st ⟨hle, ls, nn, hst, hoth⟩ ih3
      refine SemW_go (by kernel_rfl) ?_
      simp only [PP, P1, P2, P3, P4, P5, P6, P7, P8, P9, P10, P11, P12, P13, P14, L1, P15, N1, N2, N3, N4, N5, N6, N7, I1, I2, I3, I4, I5, I6, I7, reduceIte, reduceCtorEq]
      refine QIf.intro (fun e => ?_) (fun e => ?_)
      · have hk' : k < ow.length := by omega
        have k0 : (0 : Int) ≤ k := by omega
        have kn : (k : Int) < ow.length := by omega
        have hwk := wrap_succ (k := k) (by show _ < 1000000000000; omega)
        obtain ⟨x, g1⟩ := some_of (xs := w) (k := k) (by omega)
        obtain ⟨o, g2⟩ := some_of (xs := ow) (k := k) hk'
        obtain ⟨row, g3⟩ := some_of (xs := su) (k := k) (by omega)
        have eo : zO ow k = o := getD_some g2
        have e1 : su.getD k [] = row := by simp [List.getD, g3]
        have keep : ¬ (bm w k ∧ zO ow k = 1) → k + 1 ≤ ow.length ∧ st.length = ow.length ∧ (∀ x ∈ st, 0 ≤ x) ∧ (∀ v, v < k + 1 → bm w v → zO ow v = 1 → stN st v ∈ Sf su v ∧ bm inL (stN st v)) ∧ ∀ v, ¬ (v < k + 1 ∧ bm w v ∧ zO ow v = 1) → stN st v = stN st2 v := fun hn =>
          ⟨by omega, ls, nn, fun v hv q1 q2 => by
            by_cases e : v = k
            · subst e; exact absurd ⟨q1, q2⟩ hn
            · exact hst v (by omega) q1 q2, fun v hv => hoth v fun q => hv ⟨by omega, q.2⟩⟩
        simp only [PP, P1, P2, P3, P4, P5, P6, P7, P8, P9, P10, P11, P12, P13, P14, L1, P15, N1, N2, N3, N4, N5, N6, N7, I1, I2, I3, I4, I5, I6, I7, reduceIte, reduceCtorEq, e, k0, g3, g1, hw, kn]
        cases x
        · have hnb : ¬ bm w k := fun h => by rw [bm_of g1] at h; cases h
          simp only [PP, P1, P2, P3, P4, P5, P6, P7, P8, P9, P10, P11, P12, P13, P14, L1, P15, N1, N2, N3, N4, N5, N6, N7, I1, I2, I3, I4, I5, I6, I7, reduceIte, reduceCtorEq, hwk]
          exact SemW_weak (ih3 (k + 1) ver st (keep fun h => hnb h.1) (by omega)) (by simp only [PWeak_nil, PWeak_junk, PWeak_same, Int.cast_ofNat_Int, List.length_append, List.length_cons, List.length_nil, Nat.zero_add])
        simp only [PP, P1, P2, P3, P4, P5, P6, P7, P8, P9, P10, P11, P12, P13, P14, L1, P15, N1, N2, N3, N4, N5, N6, N7, I1, I2, I3, I4, I5, I6, I7, reduceIte, reduceCtorEq, k0, kn, g2]
        refine QIf.intro (fun e2 => ?_) (fun e2 => ?_)
        · have hrb : row.length < big := B.r _ (List.mem_of_getElem? g3)
          have hbk : bm w k := (bm_of g1).2 rfl
          obtain ⟨u1, q1, q2⟩ := htot k (hwt k hbk)
          have q1 : u1 ∈ (su.getD k []).map Int.toNat := q1
          rw [e1] at q1
          obtain ⟨y1, q3, rfl⟩ := List.mem_map.1 q1
          have rr : ∀ u ∈ row, 0 ≤ u ∧ u < ow.length := fun u hu => su_range V hk' (by rw [e1]; exact hu)
          obtain ⟨i, u, r1, r2, r3⟩ := idxFrom_some (p := fun u => inL.getD u.toNat false) (j := 0) (row := row) ⟨y1, q3, by rw [List.getD, q2]; rfl⟩
          have il := getSome_lt r2
          have ur := rr u (List.mem_of_getElem? r2)
          have bu : bm inL u.toNat := by
            have hul : u.toNat < inL.length := by omega
            rw [List.getD, List.getElem?_eq_getElem hul] at r3
            unfold bm; rw [List.getElem?_eq_getElem hul]; simpa using r3
          simp only [PP, P1, P2, P3, P4, P5, P6, P7, P8, P9, P10, P11, P12, P13, P14, L1, P15, N1, N2, N3, N4, N5, N6, N7, I1, I2, I3, I4, I5, I6, I7, reduceIte, reduceCtorEq, e2]
          refine indexFunc_p T (fun u => inL.getD u.toNat false) hrb (fun u hu K' hK' => ?_) ?_
          · obtain ⟨z, gz⟩ := some_of (xs := inL) (k := u.toNat) (by have := rr u hu; omega)
            have ez : inL.getD u.toNat false = z := by simp [List.getD, gz]
            refine SemC_fn T.h58 ?_
            simp only [af58, PP, P1, P2, P3, P4, P5, P6, P7, P8, P9, P10, P11, P12, P13, P14, L1, P15, N1, N2, N3, N4, N5, N6, N7, I1, I2, I3, I4, I5, I6, I7, reduceIte, reduceCtorEq, (rr u hu).1, (rr u hu).2, gz, hi]
            rw [ez] at hK'
            exact hK'
          · have i0 : (0 : Int) ≤ ((0 + i : Nat) : Int) := by omega
            have i1 : ((0 + i : Nat) : Int) < row.length := by omega
            have st3 : k + 1 ≤ ow.length := hk'
            rw [r1]
            simp only [PP, P1, P2, P3, P4, P5, P6, P7, P8, P9, P10, P11, P12, P13, P14, L1, P15, N1, N2, N3, N4, N5, N6, N7, I1, I2, I3, I4, I5, I6, I7, reduceIte, reduceCtorEq] at i0 i1 ⊢
            simp only [PP, P1, P2, P3, P4, P5, P6, P7, P8, P9, P10, P11, P12, P13, P14, L1, P15, N1, N2, N3, N4, N5, N6, N7, I1, I2, I3, I4, I5, I6, I7, reduceIte, reduceCtorEq, i0, i1, r2, k0, kn, ls, st3, hwk]
            refine SemW_to (ih3 (k + 1) (ver + 1) (st.set k u) ⟨by omega, by simp [ls], fun y hy => ?_, fun v hv b1 b2 => ?_, fun v hv => ?_⟩ (by omega)) (by simp only [PWeak_nil, PWeak_junk, PWeak_same, Int.cast_ofNat_Int, List.length_append, List.length_cons, List.length_nil, Nat.zero_add]) (by simp only [← List.map_set])
            · rcases List.mem_or_eq_of_mem_set hy with h | h
              · exact nn y h
              · subst h; exact ur.1
            · rw [stN_set (by omega)]
              by_cases e : v = k
              · subst e; rw [if_pos rfl]
                exact ⟨List.mem_map.2 ⟨u, by rw [e1]; exact List.mem_of_getElem? r2, rfl⟩, bu⟩
              · rw [if_neg e]; exact hst v (by omega) b1 b2
            · have e : v ≠ k := by rintro rfl; exact hv ⟨by omega, hbk, by rw [eo]; exact e2⟩
              rw [stN_set (by omega), if_neg e]
              exact hoth v fun q => hv ⟨by omega, q.2⟩
        · simp only [PP, P1, P2, P3, P4, P5, P6, P7, P8, P9, P10, P11, P12, P13, P14, L1, P15, N1, N2, N3, N4, N5, N6, N7, I1, I2, I3, I4, I5, I6, I7, reduceIte, reduceCtorEq, e2, hwk]
          exact SemW_weak (ih3 (k + 1) ver st (keep fun h => e2 (by rw [← eo]; exact h.2)) (by omega)) (by simp only [PWeak_nil, PWeak_junk, PWeak_same, Int.cast_ofNat_Int, List.length_append, List.length_cons, List.length_nil, Nat.zero_add])
      · simp only [PP, P1, P2, P3, P4, P5, P6, P7, P8, P9, P10, P11, P12, P13, P14, L1, P15, N1, N2, N3, N4, N5, N6, N7, I1, I2, I3, I4, I5, I6, I7, reduceIte, reduceCtorEq, e]
        have hz := zk_one (D := bm inL) (p := 1) (top := top) att (by exact htg) hmx hp2 sub hsame2 (fun v hx ho2 => hst v (by have := bm_lt hx; omega) hx ho2) (s3 := stN st) (fun v hx => hoth v fun q => hx q.2.1)
        have hnr : ∀ v, ¬ bm (List.replicate ow.length false) v := fun v h => by
          unfold bm at h
          rw [List.getElem?_replicate] at h
          split at h <;> simp at h
        have hemr : SolIn (zO ow) (Sf su) (zP pr) (bm inL) 0 (bm (List.replicate ow.length false)) (stN st) :=
          ⟨fun v h => absurd h (hnr v), fun v h => absurd h (hnr v), fun v h => absurd h (hnr v), fun cc kk _ _ h => absurd (h 0) (hnr _)⟩
        have hsm : ∀ v, ¬ bm inL v → stN st v = stN st0 v := fun v h => by
          rw [hoth v (fun q => h (hwt v q.2.1)), hsame2 v (fun q => h q.1), att.same v (.inl fun q => h (att.sub v q))]
        refine ⟨.agg [slB false true (List.replicate ow.length false), slB false true inL], _, pfrz_agg2 (pfrz1_refB (by omega) (by simp; rfl) (by simp)) (pfrz1_slB _ _ _ _ _), pfrzM_all (by simp only [PP, P1, P2, P3, P4, P5, P6, P7, P8, P9, P10, P11, P12, P13, P14, L1, P15, N1, N2, N3, N4, N5, N6, N7, I1, I2, I3, I4, I5, I6, I7, reduceIte, reduceCtorEq, cutOk_cells, h0, h1, underL_ints]), hk ver st _ _ ⟨by simp, hi, ls, nn, fun v => ⟨.inr, fun h => h.resolve_left (hnr v)⟩, fun v h _ => hnr v h, hemr, hz, hsm⟩⟩
end
end Go.Am.Ar
set_option linter.unusedVariables false
set_option linter.unusedSimpArgs false
set_option maxRecDepth 10000
namespace Go.Am.Ar
open Go.Am renaming pchk → P1, pold → P2, PKNo → P3, ppack → P4, PObj.under → P5, pput → P6, ptset → P7, ptget → P8, pev → P9, ofAV → P10, ofAV1 → P11, ppad → P12, pfill → P13, prepl → P14, AO.effect → P15
open List renaming replicate → L1
open Nat renaming reduceAdd → N1, reduceSub → N2, reduceMul → N3, reduceLT → N4, reduceLeDiff → N5, reduceEqDiff → N6, reduceBEq → N7
open Int renaming reduceToNat → I1, reduceLT → I2, reduceLE → I3, reduceEq → I4, reduceAdd → I5, reduceSub → I6, reduceNeg → I7
theorem set_bm {w : List Bool} {v u : Nat} {b : Bool} (hv : v < w.length) : bm (w.set v b) u ↔ if u = v then b = true else bm w u := by
  unfold bm
  by_cases e : u = v
  · subst e; simp [hv]
  · rw [List.getElem?_set_ne (by omega), if_neg e]
theorem Rch.tgt {E : Nat → Nat → Prop} {Q : Nat → Prop} {v u : Nat} (h : Rch E Q v u) : ∃ a, E a u := by
  cases h with
  | one h1 _ => exact ⟨_, h1⟩
  | more _ h1 _ => exact ⟨_, h1⟩
theorem Rch.cond {E : Nat → Nat → Prop} {Q Q' : Nat → Prop} {v u : Nat} (h : Rch E Q v u) (hE : ∀ a b, E a b → Q b → Q' b) : Rch E Q' v u := by
  induction h with
  | one h1 h2 => exact .one h1 (hE _ _ h1 h2)
  | more _ h1 h2 ih => exact .more ih h1 (hE _ _ h1 h2)
theorem no_bm {n : Nat} (v : Nat) : ¬ bm (List.replicate n false) v := fun h => by
  unfold bm at h
  rw [List.getElem?_replicate] at h
  split at h
  · cases h
  · cases h
section
variable {tab : FuncId → Option AF} (T : HasA tab)
include T
set_option maxHeartbeats 1000000 in
theorem loses_p {M : Mem} {K : PV → Mem → Prop} {f1 o1 f2 o2 f3 o3 f4 o4 f5 o5 f6 o6 : Bool} {ow pr : List Int} {su0 su : List (List Int)} {p : Int} (R : RowsIn su) (hs : su.length = ow.length) (hp : pr.length = ow.length) (hp0 : 0 ≤ p) (hp1 : p ≤ 1) (hpr : ∀ x ∈ pr, 0 ≤ x)
    (hk : ∀ l : List Bool, l.length = ow.length → (∀ v, v < ow.length → (bm l v ↔ Lost (fun a b => b ∈ Sf su a) (zP pr) p v)) → K (slB false true l) M) :
    SemC tab 38 [gmP f1 o1 f2 o2 f3 o3 f4 o4 ow pr su0, p8 p, slR f5 o5 f6 o6 .i64 su] M K := by
  have hR := R
  obtain ⟨hn, hr⟩ := R
  have tgt : ∀ a b, b ∈ Sf su a → b < ow.length := fun a b h => by
    unfold Sf at h
    by_cases ha : a < su.length
    · rw [List.getD, List.getElem?_eq_getElem ha] at h
      obtain ⟨x, hx, rfl⟩ := List.mem_map.1 h
      have := (hr _ (List.getElem_mem ha)).2 x hx
      omega
    · rw [List.getD, List.getElem?_eq_none (by omega)] at h; cases h
  refine SemC_pureS T.h38 (by simp only [PP, P1, P2, P3, P4, P5, P6, P7, P8, P9, P10, P11, P12, P13, P14, L1, P15, N1, N2, N3, N4, N5, N6, N7, I1, I2, I3, I4, I5, I6, I7, reduceIte, reduceCtorEq]) ?_
  simp only [af38]
  have b0 : (0 : Int) ≤ ow.length := by omega
  have b1 : (ow.length : Int) * 1 ≤ 140737488355328 := by omega
  have b2 : (ow.length : Int) ≤ 9223372036854775807 := by omega
  have c1 : ow.length * 1 ≤ 140737488355328 := by omega
  have c2 : ow.length ≤ 9223372036854775807 := by omega
  have hwp : IntKind.i64.wrap p = p := wrap64 (by omega) (by omega)
  refine SemW_seq (SemW_of ?_)
  simp only [PP, P1, P2, P3, P4, P5, P6, P7, P8, P9, P10, P11, P12, P13, P14, L1, P15, N1, N2, N3, N4, N5, N6, N7, I1, I2, I3, I4, I5, I6, I7, reduceIte, reduceCtorEq]
  refine SemW_seq (SemW_of ?_)
  simp only [PP, P1, P2, P3, P4, P5, P6, P7, P8, P9, P10, P11, P12, P13, P14, L1, P15, N1, N2, N3, N4, N5, N6, N7, I1, I2, I3, I4, I5, I6, I7, reduceIte, reduceCtorEq]
  refine SemW_seq (SemW_of ?_)
  simp only [PP, P1, P2, P3, P4, P5, P6, P7, P8, P9, P10, P11, P12, P13, P14, L1, P15, N1, N2, N3, N4, N5, N6, N7, I1, I2, I3, I4, I5, I6, I7, reduceIte, reduceCtorEq, b0, b1, b2, Int.le_refl]
  refine SemW_seq (SemW_of ?_)
  simp only [PP, P1, P2, P3, P4, P5, P6, P7, P8, P9, P10, P11, P12, P13, P14, L1, P15, N1, N2, N3, N4, N5, N6, N7, I1, I2, I3, I4, I5, I6, I7, reduceIte, reduceCtorEq, b0, b1, b2, Int.le_refl]
  refine SemW_seq (SemW_of ?_)
  simp only [PP, P1, P2, P3, P4, P5, P6, P7, P8, P9, P10, P11, P12, P13, P14, L1, P15, N1, N2, N3, N4, N5, N6, N7, I1, I2, I3, I4, I5, I6, I7, reduceIte, reduceCtorEq]
  refine SemW_gh ?_
  refine loop3 (fun (k ver : Nat) (w : List Bool) => k ≤ ow.length ∧ w.length = ow.length ∧ ∀ v, v < k → w[v]? = some true)
    (fun k ver w => [.junk, p8 p, slR f5 o5 f6 o6 .i64 su, .ptr 0 0 0, .junk, .junk, .junk, p64 ow.length, .ref 1 0 1 0 ow.length, .ref 2 0 1 0 ow.length, p64 k, .junk, .junk, .junk, .junk, .junk, .junk, .junk, .junk, .junk, .junk, .junk, .junk, .junk, .junk, .junk, .junk, .junk, .junk, .junk, .junk, .junk, .junk, .junk, .junk, .junk, .junk, .junk, .junk, .junk, .junk, .junk, .junk, .junk, .junk, .junk, .junk, .junk, .junk, .junk, .junk, .junk, .junk, .junk, .junk, .junk, .junk, .junk, .junk, .junk, .junk, .junk, .junk, .junk, .junk, .junk, .junk, .junk, .junk, .junk, .junk, .junk, .junk, .junk, .junk, .junk, .junk, .junk, .junk, .junk, .junk, .junk, .junk, .junk, .junk, .junk, .junk, .junk, .junk, .junk, .junk, .junk, .junk, .junk, .junk, .junk, .junk, .junk, .junk, .junk, .junk, .junk, .junk, .junk, .junk, .junk, .junk, .junk, .junk, .junk, .junk, .junk, .junk, .junk])
    (fun k ver w => [.cells 0 0 [slI f1 o1 .u8 ow, slI f2 o2 .i64 pr, slR f3 o3 f4 o4 .i64 su0], .cells 0 0 ((List.replicate ow.length false).map PV.bool), .cells 0 ver (w.map PV.bool)])
    (fun k _ _ => ow.length - k) 0 0 (List.replicate ow.length false) ⟨by omega, by simp, by intro v h; omega⟩ (by simp only [PWeak_nil, PWeak_junk, PWeak_same, Int.cast_ofNat_Int, List.length_append, List.length_cons, List.length_nil, Nat.zero_add]) (by simp only [List.map_replicate]) ?_
  intro k ver w ⟨hle, hw, hget⟩ ih
  refine SemW_go (by kernel_rfl) ?_
  simp only [PP, P1, P2, P3, P4, P5, P6, P7, P8, P9, P10, P11, P12, P13, P14, L1, P15, N1, N2, N3, N4, N5, N6, N7, I1, I2, I3, I4, I5, I6, I7, reduceIte, reduceCtorEq]
  refine QIf.intro (fun c => ?_) (fun c => ?_)
  · have hk' : k < ow.length := by omega
    have k0 : (0 : Int) ≤ k := by omega
    have k1 : k + 1 ≤ ow.length := hk'
    have hwk := wrap_succ (k := k) (by show _ < 1000000000000; omega)
    simp only [PP, P1, P2, P3, P4, P5, P6, P7, P8, P9, P10, P11, P12, P13, P14, L1, P15, N1, N2, N3, N4, N5, N6, N7, I1, I2, I3, I4, I5, I6, I7, reduceIte, reduceCtorEq, c, k0, k1, hw, hwk]
    refine SemW_to (ih (k + 1) (ver + 1) (w.set k true) ⟨by omega, by simp [hw], fun v hv => ?_⟩ (by omega)) (by simp only [PWeak_nil, PWeak_junk, PWeak_same, Int.cast_ofNat_Int, List.length_append, List.length_cons, List.length_nil, Nat.zero_add]) (by simp only [← List.map_set])
    by_cases e : v = k
    · subst e; rw [List.getElem?_set_self (by omega)]
    · rw [List.getElem?_set_ne (by omega)]; exact hget v (by omega)
  have hkn : k = ow.length := by omega
  subst hkn
  have hall : ∀ v, bm w v ↔ v < ow.length := fun v => ⟨fun h => by rw [← hw]; exact bm_lt h, fun h => hget v h⟩
  simp only [PP, P1, P2, P3, P4, P5, P6, P7, P8, P9, P10, P11, P12, P13, P14, L1, P15, N1, N2, N3, N4, N5, N6, N7, I1, I2, I3, I4, I5, I6, I7, reduceIte, reduceCtorEq, c]
  refine Gh.step (GStep.freeze (b := [.junk, p8 p, slR f5 o5 f6 o6 .i64 su, .ptr 0 0 0, .junk, .junk, .junk, p64 ow.length, .ref 1 0 1 0 ow.length, slB false true w, .junk, .junk, .junk, .junk, .junk, .junk, .junk, .junk, .junk, .junk, .junk, .junk, .junk, .junk, .junk, .junk, .junk, .junk, .junk, .junk, .junk, .junk, .junk, .junk, .junk, .junk, .junk, .junk, .junk, .junk, .junk, .junk, .junk, .junk, .junk, .junk, .junk, .junk, .junk, .junk, .junk, .junk, .junk, .junk, .junk, .junk, .junk, .junk, .junk, .junk, .junk, .junk, .junk, .junk, .junk, .junk, .junk, .junk, .junk, .junk, .junk, .junk, .junk, .junk, .junk, .junk, .junk, .junk, .junk, .junk, .junk, .junk, .junk, .junk, .junk, .junk, .junk, .junk, .junk, .junk, .junk, .junk, .junk, .junk, .junk, .junk, .junk, .junk, .junk, .junk, .junk, .junk, .junk, .junk, .junk, .junk, .junk, .junk, .junk, .junk, .junk, .junk, .junk, .junk]) 2 (by omega) rfl (by
    simp only [PFrz_junk, PFrz_same]
    rw [PFrz_ref (by rw [List.length_map, hw]; omega) (by rw [Nat.mul_one, psub_all _ _ (by simp [hw])]; unfold slB; rw [hw])]
    simp only [PFrz_nil, PFrz_junk, PFrz_same]) rfl) (Gh.same ?_)
  simp only [PP, P1, P2, P3, P4, P5, P6, P7, P8, P9, P10, P11, P12, P13, P14, L1, P15, N1, N2, N3, N4, N5, N6, N7, I1, I2, I3, I4, I5, I6, I7, reduceIte, reduceCtorEq]
  -- the bad positions
  refine SemW_seq (SemW_of ?_)
  simp only [PP, P1, P2, P3, P4, P5, P6, P7, P8, P9, P10, P11, P12, P13, P14, L1, P15, N1, N2, N3, N4, N5, N6, N7, I1, I2, I3, I4, I5, I6, I7, reduceIte, reduceCtorEq]
  refine loop3 (fun (k ver : Nat) (o : List Bool) => k ≤ ow.length ∧ o.length = ow.length ∧ ∀ v, bm o v ↔ v < k ∧ Bad (fun a b => b ∈ Sf su a) (zP pr) p v)
    (fun k ver o => [.junk, p8 p, slR f5 o5 f6 o6 .i64 su, .ptr 0 0 0, .junk, .junk, .junk, p64 ow.length, .ref 1 0 1 0 ow.length, slB false true w, .junk, p64 k, .junk, .junk, .junk, .junk, .junk, .junk, .junk, .junk, .junk, .junk, .junk, .junk, .junk, .junk, .junk, .junk, .junk, .junk, .junk, .junk, .junk, .junk, .junk, .junk, .junk, .junk, .junk, .junk, .junk, .junk, .junk, .junk, .junk, .junk, .junk, .junk, .junk, .junk, .junk, .junk, .junk, .junk, .junk, .junk, .junk, .junk, .junk, .junk, .junk, .junk, .junk, .junk, .junk, .junk, .junk, .junk, .junk, .junk, .junk, .junk, .junk, .junk, .junk, .junk, .junk, .junk, .junk, .junk, .junk, .junk, .junk, .junk, .junk, .junk, .junk, .junk, .junk, .junk, .junk, .junk, .junk, .junk, .junk, .junk, .junk, .junk, .junk, .junk, .junk, .junk, .junk, .junk, .junk, .junk, .junk, .junk, .junk, .junk, .junk, .junk, .junk, .junk])
    (fun k ver o => [.cells 0 0 [slI f1 o1 .u8 ow, slI f2 o2 .i64 pr, slR f3 o3 f4 o4 .i64 su0], .cells 0 ver (o.map PV.bool), .gone])
    (fun k _ _ => ow.length - k) 0 0 (List.replicate ow.length false) ⟨by omega, by simp, fun v => ⟨fun h => absurd h (no_bm v), fun h => by omega⟩⟩ (by simp only [PWeak_nil, PWeak_junk, PWeak_same, Int.cast_ofNat_Int, List.length_append, List.length_cons, List.length_nil, Nat.zero_add]) (by simp only [PP, P1, P2, P3, P4, P5, P6, P7, P8, P9, P10, P11, P12, P13, P14, L1, P15, N1, N2, N3, N4, N5, N6, N7, I1, I2, I3, I4, I5, I6, I7, reduceIte, reduceCtorEq]) ?_
  intro k ver o ⟨hle, lo, hbad⟩ ih2
  refine SemW_go (by kernel_rfl) ?_
  simp only [PP, P1, P2, P3, P4, P5, P6, P7, P8, P9, P10, P11, P12, P13, P14, L1, P15, N1, N2, N3, N4, N5, N6, N7, I1, I2, I3, I4, I5, I6, I7, reduceIte, reduceCtorEq]
  refine QIf.intro (fun d => ?_) (fun d => ?_)
  · have hk' : k < ow.length := by omega
    have k0 : (0 : Int) ≤ k := by omega
    have kn : (k : Int) < ow.length := by omega
    have k1 : k + 1 ≤ ow.length := hk'
    have hwk := wrap_succ (k := k) (by show _ < 1000000000000; omega)
    obtain ⟨q, g1⟩ := some_of (xs := pr) (k := k) (by omega)
    have q0 := hpr q (List.mem_of_getElem? g1)
    have eq : zP pr k = q := getD_some g1
    have hrem : q.tmod 2 = q % 2 := Int.tmod_eq_emod_of_nonneg q0
    simp only [PP, P1, P2, P3, P4, P5, P6, P7, P8, P9, P10, P11, P12, P13, P14, L1, P15, N1, N2, N3, N4, N5, N6, N7, I1, I2, I3, I4, I5, I6, I7, reduceIte, reduceCtorEq, d, k0, kn, g1, hp, prem (show (2 : Int) ≠ 0 by decide), hrem, hwp]
    refine QIf.intro (fun e => ?_) (fun e => ?_)
    · simp only [PP, P1, P2, P3, P4, P5, P6, P7, P8, P9, P10, P11, P12, P13, P14, L1, P15, N1, N2, N3, N4, N5, N6, N7, I1, I2, I3, I4, I5, I6, I7, reduceIte, reduceCtorEq, e, hwk]
      refine SemW_weak (ih2 (k + 1) ver o ⟨by omega, lo, fun v => ?_⟩ (by omega)) (by simp only [PWeak_nil, PWeak_junk, PWeak_same, Int.cast_ofNat_Int, List.length_append, List.length_cons, List.length_nil, Nat.zero_add])
      rw [hbad v]
      refine ⟨fun h => ⟨by omega, h.2⟩, fun h => ⟨?_, h.2⟩⟩
      by_cases e2 : v = k
      · subst e2; exact absurd (eq ▸ e) h.2.1
      · omega
    simp only [PP, P1, P2, P3, P4, P5, P6, P7, P8, P9, P10, P11, P12, P13, P14, L1, P15, N1, N2, N3, N4, N5, N6, N7, I1, I2, I3, I4, I5, I6, I7, reduceIte, reduceCtorEq, e, b0, b1, b2, Int.le_refl]
    refine SemW_gh ?_
    refine loop3 (fun (j vr : Nat) (a : List Bool) => j ≤ ow.length ∧ a.length = ow.length ∧ ∀ u, u < j → a[u]? = some (decide (zP pr u ≤ q)))
      (fun j vr a => [.junk, p8 p, slR f5 o5 f6 o6 .i64 su, .ptr 0 0 0, .junk, .junk, .junk, p64 ow.length, .ref 1 0 1 0 ow.length, slB false true w, .junk, p64 k, .ref 3 0 1 0 ow.length, p64 j, .junk, .junk, .junk, .junk, .junk, .junk, .junk, .junk, .junk, .junk, .junk, .junk, .junk, .junk, .junk, .junk, .junk, .junk, .junk, .junk, .junk, .junk, .junk, .junk, .junk, .junk, .junk, .junk, .junk, .junk, .junk, .junk, .junk, .junk, .junk, .junk, .junk, .junk, .junk, .junk, .junk, .junk, .junk, .junk, .junk, .junk, .junk, .junk, .junk, .junk, .junk, .junk, .junk, .junk, .junk, .junk, .junk, .junk, .junk, .junk, .junk, .junk, .junk, .junk, .junk, .junk, .junk, .junk, .junk, .junk, .junk, .junk, .junk, .junk, .junk, .junk, .junk, .junk, .junk, .junk, .junk, .junk, .junk, .junk, .junk, .junk, .junk, .junk, .junk, .junk, .junk, .junk, .junk, .junk, .junk, .junk, .junk, .junk, .junk, .junk])
      (fun j vr a => [.cells 0 0 [slI f1 o1 .u8 ow, slI f2 o2 .i64 pr, slR f3 o3 f4 o4 .i64 su0], .cells 0 ver (o.map PV.bool), .gone, .cells 0 vr (a.map PV.bool)])
      (fun j _ _ => ow.length - j) 0 0 (List.replicate ow.length false) ⟨by omega, by simp, by intro v h; omega⟩ (by simp only [PWeak_nil, PWeak_junk, PWeak_same, Int.cast_ofNat_Int, List.length_append, List.length_cons, List.length_nil, Nat.zero_add]) (by simp only [List.map_replicate]) ?_
    intro j vr a ⟨hle3, la, hga⟩ ih3
    refine SemW_go (by kernel_rfl) ?_
    simp only [PP, P1, P2, P3, P4, P5, P6, P7, P8, P9, P10, P11, P12, P13, P14, L1, P15, N1, N2, N3, N4, N5, N6, N7, I1, I2, I3, I4, I5, I6, I7, reduceIte, reduceCtorEq]
    refine QIf.intro (fun x => ?_) (fun x => ?_)
    · have hj : j < ow.length := by omega
      have j0 : (0 : Int) ≤ j := by omega
      have jn : (j : Int) < ow.length := by omega
      have j1 : j + 1 ≤ ow.length := hj
      have hwj := wrap_succ (k := j) (by show _ < 1000000000000; omega)
      obtain ⟨r, g2⟩ := some_of (xs := pr) (k := j) (by omega)
      have er : zP pr j = r := getD_some g2
      simp only [PP, P1, P2, P3, P4, P5, P6, P7, P8, P9, P10, P11, P12, P13, P14, L1, P15, N1, N2, N3, N4, N5, N6, N7, I1, I2, I3, I4, I5, I6, I7, reduceIte, reduceCtorEq, x, j0, jn, j1, k0, kn, g1, g2, hp, la, hwj]
      refine SemW_to (ih3 (j + 1) (vr + 1) (a.set j (decide (r ≤ q))) ⟨by omega, by simp [la], fun u hu => ?_⟩ (by omega)) (by simp only [PWeak_nil, PWeak_junk, PWeak_same, Int.cast_ofNat_Int, List.length_append, List.length_cons, List.length_nil, Nat.zero_add]) (by simp only [← List.map_set])
      by_cases e : u = j
      · subst e; rw [List.getElem?_set_self (by omega), er]
      · rw [List.getElem?_set_ne (by omega)]; exact hga u (by omega)
    have hjn : j = ow.length := by omega
    subst hjn
    simp only [PP, P1, P2, P3, P4, P5, P6, P7, P8, P9, P10, P11, P12, P13, P14, L1, P15, N1, N2, N3, N4, N5, N6, N7, I1, I2, I3, I4, I5, I6, I7, reduceIte, reduceCtorEq, x]
    refine Gh.step (GStep.freeze (b := [.junk, p8 p, slR f5 o5 f6 o6 .i64 su, .ptr 0 0 0, .junk, .junk, .junk, p64 ow.length, .ref 1 0 1 0 ow.length, slB false true w, .junk, p64 k, slB false true a, .junk, .junk, .junk, .junk, .junk, .junk, .junk, .junk, .junk, .junk, .junk, .junk, .junk, .junk, .junk, .junk, .junk, .junk, .junk, .junk, .junk, .junk, .junk, .junk, .junk, .junk, .junk, .junk, .junk, .junk, .junk, .junk, .junk, .junk, .junk, .junk, .junk, .junk, .junk, .junk, .junk, .junk, .junk, .junk, .junk, .junk, .junk, .junk, .junk, .junk, .junk, .junk, .junk, .junk, .junk, .junk, .junk, .junk, .junk, .junk, .junk, .junk, .junk, .junk, .junk, .junk, .junk, .junk, .junk, .junk, .junk, .junk, .junk, .junk, .junk, .junk, .junk, .junk, .junk, .junk, .junk, .junk, .junk, .junk, .junk, .junk, .junk, .junk, .junk, .junk, .junk, .junk, .junk, .junk, .junk, .junk, .junk, .junk, .junk, .junk, .junk]) 3 (by omega) rfl (by
      simp only [PFrz_junk, PFrz_same]
      rw [PFrz_ref (by rw [List.length_map, la]; omega) (by rw [Nat.mul_one, psub_all _ _ (by simp [la])]; unfold slB; rw [la])]
      simp only [PFrz_nil, PFrz_junk, PFrz_same]) rfl) (Gh.same ?_)
    simp only [PP, P1, P2, P3, P4, P5, P6, P7, P8, P9, P10, P11, P12, P13, P14, L1, P15, N1, N2, N3, N4, N5, N6, N7, I1, I2, I3, I4, I5, I6, I7, reduceIte, reduceCtorEq]
    refine reach_p T hR (by omega) (by omega) (fun z lz hz => ?_)
    obtain ⟨y, gy⟩ := some_of (xs := z) (k := k) (by omega)
    have hza : bm z k ↔ Bad (fun a b => b ∈ Sf su a) (zP pr) p k := by
      rw [hz k]
      unfold Bad
      rw [eq]
      constructor
      · intro h
        refine ⟨e, h.cond fun a b hab hb => ?_⟩
        have hb2 := tgt a b hab
        rw [bm, hga b hb2] at hb
        simpa [eq] using hb
      · intro h
        refine h.2.cond fun a b hab hb => ?_
        rw [bm, hga b (tgt a b hab)]
        simpa [eq] using hb
    have stay : ∀ o' : List Bool, o'.length = ow.length → (∀ v, bm o' v ↔ if v = k then Bad (fun a b => b ∈ Sf su a) (zP pr) p k else bm o v) → k + 1 ≤ ow.length ∧ o'.length = ow.length ∧ ∀ v, bm o' v ↔ v < k + 1 ∧ Bad (fun a b => b ∈ Sf su a) (zP pr) p v := fun o' h1 h2 => ⟨hk', h1, fun v => by
      rw [h2 v]
      by_cases e2 : v = k
      · subst e2; simp
      · rw [if_neg e2, hbad v]
        exact ⟨fun h => ⟨by omega, h.2⟩, fun h => ⟨by omega, h.2⟩⟩⟩
    have kz : (k : Int) < z.length := by omega
    cases y with
    | true =>
      have hy := hza.1 ((bm_of gy).2 rfl)
      simp only [PP, P1, P2, P3, P4, P5, P6, P7, P8, P9, P10, P11, P12, P13, P14, L1, P15, N1, N2, N3, N4, N5, N6, N7, I1, I2, I3, I4, I5, I6, I7, reduceIte, reduceCtorEq, k0, kz, gy, kn, k1, lo, hwk]
      refine SemW_re (GStep.drop (b := [.junk, p8 p, slR f5 o5 f6 o6 .i64 su, .ptr 0 0 0, .junk, .junk, .junk, p64 ow.length, .ref 1 0 1 0 ow.length, slB false true w, .junk, p64 ((k + 1 : Nat) : Int), .junk, .junk, .junk, .junk, .junk, .junk, .junk, .junk, .junk, .junk, .junk, .junk, .junk, .junk, .junk, .junk, .junk, .junk, .junk, .junk, .junk, .junk, .junk, .junk, .junk, .junk, .junk, .junk, .junk, .junk, .junk, .junk, .junk, .junk, .junk, .junk, .junk, .junk, .junk, .junk, .junk, .junk, .junk, .junk, .junk, .junk, .junk, .junk, .junk, .junk, .junk, .junk, .junk, .junk, .junk, .junk, .junk, .junk, .junk, .junk, .junk, .junk, .junk, .junk, .junk, .junk, .junk, .junk, .junk, .junk, .junk, .junk, .junk, .junk, .junk, .junk, .junk, .junk, .junk, .junk, .junk, .junk, .junk, .junk, .junk, .junk, .junk, .junk, .junk, .junk, .junk, .junk, .junk, .junk, .junk, .junk, .junk, .junk, .junk, .junk, .junk, .junk]) 3 (Nat.zero_le _) (by simp) (by simp only [PWeak_nil, PWeak_junk, PWeak_same, Int.cast_ofNat_Int, List.length_append, List.length_cons, List.length_nil, Nat.zero_add]) (by simp only [PP, P1, P2, P3, P4, P5, P6, P7, P8, P9, P10, P11, P12, P13, P14, L1, P15, N1, N2, N3, N4, N5, N6, N7, I1, I2, I3, I4, I5, I6, I7, reduceIte, reduceCtorEq]) (by simp only [← List.map_set, PP, P1, P2, P3, P4, P5, P6, P7, P8, P9, P10, P11, P12, P13, P14, L1, P15, N1, N2, N3, N4, N5, N6, N7, I1, I2, I3, I4, I5, I6, I7, reduceIte, reduceCtorEq]) rfl) ?_
      refine SemW_to (ih2 (k + 1) (ver + 1) (o.set k true) (stay _ (by simp [lo]) fun v => ?_) (by omega)) (by simp only [PWeak_nil, PWeak_junk, PWeak_same, Int.cast_ofNat_Int, List.length_append, List.length_cons, List.length_nil, Nat.zero_add]) (by simp only [← List.map_set, PP, P1, P2, P3, P4, P5, P6, P7, P8, P9, P10, P11, P12, P13, P14, L1, P15, N1, N2, N3, N4, N5, N6, N7, I1, I2, I3, I4, I5, I6, I7, reduceIte, reduceCtorEq])
      rw [set_bm (by omega)]
      split
      · simp [hy]
      · rfl
    | false =>
      have hy : ¬ Bad (fun a b => b ∈ Sf su a) (zP pr) p k := fun h => by have := hza.2 h; rw [bm_of gy] at this; cases this
      simp only [PP, P1, P2, P3, P4, P5, P6, P7, P8, P9, P10, P11, P12, P13, P14, L1, P15, N1, N2, N3, N4, N5, N6, N7, I1, I2, I3, I4, I5, I6, I7, reduceIte, reduceCtorEq, k0, kz, gy, hwk]
      refine SemW_re (GStep.drop (b := [.junk, p8 p, slR f5 o5 f6 o6 .i64 su, .ptr 0 0 0, .junk, .junk, .junk, p64 ow.length, .ref 1 0 1 0 ow.length, slB false true w, .junk, p64 ((k + 1 : Nat) : Int), .junk, .junk, .junk, .junk, .junk, .junk, .junk, .junk, .junk, .junk, .junk, .junk, .junk, .junk, .junk, .junk, .junk, .junk, .junk, .junk, .junk, .junk, .junk, .junk, .junk, .junk, .junk, .junk, .junk, .junk, .junk, .junk, .junk, .junk, .junk, .junk, .junk, .junk, .junk, .junk, .junk, .junk, .junk, .junk, .junk, .junk, .junk, .junk, .junk, .junk, .junk, .junk, .junk, .junk, .junk, .junk, .junk, .junk, .junk, .junk, .junk, .junk, .junk, .junk, .junk, .junk, .junk, .junk, .junk, .junk, .junk, .junk, .junk, .junk, .junk, .junk, .junk, .junk, .junk, .junk, .junk, .junk, .junk, .junk, .junk, .junk, .junk, .junk, .junk, .junk, .junk, .junk, .junk, .junk, .junk, .junk, .junk, .junk, .junk, .junk, .junk, .junk]) 3 (Nat.zero_le _) (by simp) (by simp only [PWeak_nil, PWeak_junk, PWeak_same, Int.cast_ofNat_Int, List.length_append, List.length_cons, List.length_nil, Nat.zero_add]) (by simp only [PP, P1, P2, P3, P4, P5, P6, P7, P8, P9, P10, P11, P12, P13, P14, L1, P15, N1, N2, N3, N4, N5, N6, N7, I1, I2, I3, I4, I5, I6, I7, reduceIte, reduceCtorEq]) (by simp only [PP, P1, P2, P3, P4, P5, P6, P7, P8, P9, P10, P11, P12, P13, P14, L1, P15, N1, N2, N3, N4, N5, N6, N7, I1, I2, I3, I4, I5, I6, I7, reduceIte, reduceCtorEq]) rfl) ?_
      refine SemW_to (ih2 (k + 1) ver o (stay _ lo fun v => ?_) (by omega)) (by simp only [PWeak_nil, PWeak_junk, PWeak_same, Int.cast_ofNat_Int, List.length_append, List.length_cons, List.length_nil, Nat.zero_add]) (by simp only [PP, P1, P2, P3, P4, P5, P6, P7, P8, P9, P10, P11, P12, P13, P14, L1, P15, N1, N2, N3, N4, N5, N6, N7, I1, I2, I3, I4, I5, I6, I7, reduceIte, reduceCtorEq])
      split
      · rename_i e2; subst e2; rw [hbad v]; constructor
        · intro h; exact absurd h.2 hy
        · intro h; exact absurd h hy
      · rfl
  have hkn : k = ow.length := by omega
  subst hkn
  have hbad' : ∀ v, bm o v ↔ Bad (fun a b => b ∈ Sf su a) (zP pr) p v := fun v => by
    rw [hbad v]
    refine ⟨fun h => h.2, fun h => ⟨?_, h⟩⟩
    obtain ⟨a, ha⟩ := h.2.tgt
    exact tgt a v ha
  simp only [PP, P1, P2, P3, P4, P5, P6, P7, P8, P9, P10, P11, P12, P13, P14, L1, P15, N1, N2, N3, N4, N5, N6, N7, I1, I2, I3, I4, I5, I6, I7, reduceIte, reduceCtorEq, d]
  refine SemW_seq (SemW_of ?_)
  have hps : psub (o.map PV.bool) 0 ow.length = o.map PV.bool := psub_all _ _ (by simp [lo])
  have lo' : ow.length ≤ o.length := by omega
  simp only [PP, P1, P2, P3, P4, P5, P6, P7, P8, P9, P10, P11, P12, P13, P14, L1, P15, N1, N2, N3, N4, N5, N6, N7, I1, I2, I3, I4, I5, I6, I7, reduceIte, reduceCtorEq, c2, b1, lo', hps]
  refine ⟨by omega, ?_⟩
  refine SemW_re (GStep.freeze (b := [.junk, .junk, slR f5 o5 f6 o6 .i64 su, .ptr 0 0 0, .junk, .junk, .junk, p64 ow.length, .ref 1 0 1 0 ow.length, slB false true w, .junk, .junk, .junk, .junk, slB false true o, .junk, .junk, .junk, .junk, .junk, .junk, .junk, .junk, .junk, .junk, .junk, .junk, .junk, .junk, .junk, .junk, .junk, .junk, .junk, .junk, .junk, .junk, .junk, .junk, .junk, .junk, .junk, .junk, .junk, .junk, .junk, .junk, .junk, .junk, .junk, .junk, .junk, .junk, .junk, .junk, .junk, .junk, .junk, .junk, .junk, .junk, .junk, .junk, .junk, .junk, .junk, .junk, .junk, .junk, .junk, .junk, .junk, .junk, .junk, .junk, .junk, .junk, .junk, .junk, .junk, .junk, .junk, .junk, .junk, .junk, .junk, .junk, .junk, .junk, .junk, .junk, .junk, .junk, .junk, .junk, .junk, .junk, .junk, .junk, .junk, .junk, .junk, .junk, .junk, .junk, .junk, .junk, .junk, .junk, .junk, .junk, .junk, .junk, .junk]) 3 (by omega) rfl (by
    simp only [PFrz_junk, PFrz_same]
    rw [PFrz_ref (by rw [List.length_map, lo]; omega) (by rw [Nat.mul_one, psub_all _ _ (by simp [lo])]; unfold slB; rw [lo])]
    simp only [PFrz_nil, PFrz_junk, PFrz_same]) rfl) ?_
  refine SemW_seq (SemW_of ?_)
  simp only [PP, P1, P2, P3, P4, P5, P6, P7, P8, P9, P10, P11, P12, P13, P14, L1, P15, N1, N2, N3, N4, N5, N6, N7, I1, I2, I3, I4, I5, I6, I7, reduceIte, reduceCtorEq]
  refine loop3 (fun (k vr : Nat) (l : List Bool) => k ≤ ow.length ∧ l.length = ow.length ∧ ∀ v, bm l v ↔ if v < k then Lost (fun a b => b ∈ Sf su a) (zP pr) p v else bm o v)
    (fun k vr l => [.junk, .junk, slR f5 o5 f6 o6 .i64 su, .junk, .junk, .junk, .junk, p64 ow.length, .ref 1 0 1 0 ow.length, slB false true w, .junk, .junk, .junk, .junk, slB false true o, p64 k, .junk, .junk, .junk, .junk, .junk, .junk, .junk, .junk, .junk, .junk, .junk, .junk, .junk, .junk, .junk, .junk, .junk, .junk, .junk, .junk, .junk, .junk, .junk, .junk, .junk, .junk, .junk, .junk, .junk, .junk, .junk, .junk, .junk, .junk, .junk, .junk, .junk, .junk, .junk, .junk, .junk, .junk, .junk, .junk, .junk, .junk, .junk, .junk, .junk, .junk, .junk, .junk, .junk, .junk, .junk, .junk, .junk, .junk, .junk, .junk, .junk, .junk, .junk, .junk, .junk, .junk, .junk, .junk, .junk, .junk, .junk, .junk, .junk, .junk, .junk, .junk, .junk, .junk, .junk, .junk, .junk, .junk, .junk, .junk, .junk, .junk, .junk, .junk, .junk, .junk, .junk, .junk, .junk, .junk, .junk, .junk, .junk, .junk])
    (fun k vr l => [.cells 0 0 [slI f1 o1 .u8 ow, slI f2 o2 .i64 pr, slR f3 o3 f4 o4 .i64 su0], .cells 0 vr (l.map PV.bool), .gone, .gone])
    (fun k _ _ => ow.length - k) 0 ver o ⟨by omega, lo, fun v => by rw [if_neg (by omega)]⟩ (by simp only [PWeak_nil, PWeak_junk, PWeak_same, Int.cast_ofNat_Int, List.length_append, List.length_cons, List.length_nil, Nat.zero_add]) (by simp only [PP, P1, P2, P3, P4, P5, P6, P7, P8, P9, P10, P11, P12, P13, P14, L1, P15, N1, N2, N3, N4, N5, N6, N7, I1, I2, I3, I4, I5, I6, I7, reduceIte, reduceCtorEq]) ?_
  intro k vr l ⟨hle, ll, hl⟩ ih2
  refine SemW_go (by kernel_rfl) ?_
  simp only [PP, P1, P2, P3, P4, P5, P6, P7, P8, P9, P10, P11, P12, P13, P14, L1, P15, N1, N2, N3, N4, N5, N6, N7, I1, I2, I3, I4, I5, I6, I7, reduceIte, reduceCtorEq]
  refine QIf.intro (fun d => ?_) (fun d => ?_)
  · have hk' : k < ow.length := by omega
    have k0 : (0 : Int) ≤ k := by omega
    have kn : (k : Int) < ow.length := by omega
    have k1 : k + 1 ≤ ow.length := hk'
    have hwk := wrap_succ (k := k) (by show _ < 1000000000000; omega)
    simp only [PP, P1, P2, P3, P4, P5, P6, P7, P8, P9, P10, P11, P12, P13, P14, L1, P15, N1, N2, N3, N4, N5, N6, N7, I1, I2, I3, I4, I5, I6, I7, reduceIte, reduceCtorEq, d]
    refine reach_p T hR (by omega) (by omega) (fun z lz hz => ?_)
    have hz : ∀ u, bm z u ↔ Rch (fun a b => b ∈ Sf su a) (fun _ => True) k u := fun u => by
      rw [hz u]
      exact ⟨fun h => h.cond fun _ _ _ _ => trivial, fun h => h.cond fun a b hab _ => (hall b).2 (tgt a b hab)⟩
    simp only [PP, P1, P2, P3, P4, P5, P6, P7, P8, P9, P10, P11, P12, P13, P14, L1, P15, N1, N2, N3, N4, N5, N6, N7, I1, I2, I3, I4, I5, I6, I7, reduceIte, reduceCtorEq]
    refine loop3 (fun (j vr : Nat) (a : List Bool) => j ≤ ow.length ∧ a.length = ow.length ∧ ∀ v, bm a v ↔ if v = k then (Bad (fun a b => b ∈ Sf su a) (zP pr) p k ∨ ∃ u, u < j ∧ bm o u ∧ bm z u) else bm l v)
      (fun j vr a => [.junk, .junk, slR f5 o5 f6 o6 .i64 su, .junk, .junk, .junk, .junk, p64 ow.length, .ref 1 0 1 0 ow.length, slB false true w, .junk, .junk, .junk, .junk, slB false true o, p64 k, slB false true z, p64 j, .junk, .junk, .junk, .junk, .junk, .junk, .junk, .junk, .junk, .junk, .junk, .junk, .junk, .junk, .junk, .junk, .junk, .junk, .junk, .junk, .junk, .junk, .junk, .junk, .junk, .junk, .junk, .junk, .junk, .junk, .junk, .junk, .junk, .junk, .junk, .junk, .junk, .junk, .junk, .junk, .junk, .junk, .junk, .junk, .junk, .junk, .junk, .junk, .junk, .junk, .junk, .junk, .junk, .junk, .junk, .junk, .junk, .junk, .junk, .junk, .junk, .junk, .junk, .junk, .junk, .junk, .junk, .junk, .junk, .junk, .junk, .junk, .junk, .junk, .junk, .junk, .junk, .junk, .junk, .junk, .junk, .junk, .junk, .junk, .junk, .junk, .junk, .junk, .junk, .junk, .junk, .junk, .junk, .junk, .junk, .junk])
      (fun j vr a => [.cells 0 0 [slI f1 o1 .u8 ow, slI f2 o2 .i64 pr, slR f3 o3 f4 o4 .i64 su0], .cells 0 vr (a.map PV.bool), .gone, .gone])
      (fun j _ _ => ow.length - j) 0 vr l ⟨by omega, ll, fun v => ?_⟩ (by simp only [PWeak_nil, PWeak_junk, PWeak_same, Int.cast_ofNat_Int, List.length_append, List.length_cons, List.length_nil, Nat.zero_add]) (by simp only [PP, P1, P2, P3, P4, P5, P6, P7, P8, P9, P10, P11, P12, P13, P14, L1, P15, N1, N2, N3, N4, N5, N6, N7, I1, I2, I3, I4, I5, I6, I7, reduceIte, reduceCtorEq]) ?_
    · split
      · rename_i e; subst e
        rw [hl v, if_neg (by omega), hbad' v]
        exact ⟨.inl, fun h => h.elim id fun ⟨u, h, _⟩ => by omega⟩
      · rfl
    intro j vr a ⟨hle3, la, ha⟩ ih3
    refine SemW_go (by kernel_rfl) ?_
    simp only [PP, P1, P2, P3, P4, P5, P6, P7, P8, P9, P10, P11, P12, P13, P14, L1, P15, N1, N2, N3, N4, N5, N6, N7, I1, I2, I3, I4, I5, I6, I7, reduceIte, reduceCtorEq]
    refine QIf.intro (fun x => ?_) (fun x => ?_)
    · have hj : j < ow.length := by omega
      have j0 : (0 : Int) ≤ j := by omega
      have jo : (j : Int) < o.length := by omega
      have jz : (j : Int) < z.length := by omega
      have hwj := wrap_succ (k := j) (by show _ < 1000000000000; omega)
      obtain ⟨y1, g1⟩ := some_of (xs := a) (k := k) (by omega)
      obtain ⟨y2, g2⟩ := some_of (xs := o) (k := j) (by omega)
      obtain ⟨y3, g3⟩ := some_of (xs := z) (k := j) (by omega)
      have e1 := bm_of g1
      have e2 := bm_of g2
      have e3 := bm_of g3
      have up : ∀ b : Bool, (b = true ↔ y1 = true ∨ (y2 = true ∧ y3 = true)) → j + 1 ≤ ow.length ∧ (a.set k b).length = ow.length ∧ ∀ v, bm (a.set k b) v ↔ if v = k then (Bad (fun a b => b ∈ Sf su a) (zP pr) p k ∨ ∃ u, u < j + 1 ∧ bm o u ∧ bm z u) else bm l v := fun b hb => ⟨hj, by simp [la], fun v => by
        rw [set_bm (by omega)]
        by_cases e : v = k
        · rw [if_pos e, if_pos e, hb, ← e1, ← e2, ← e3, ha k, if_pos rfl]
          constructor
          · rintro ((h | ⟨u, h1, h2⟩) | h)
            · exact .inl h
            · exact .inr ⟨u, by omega, h2⟩
            · exact .inr ⟨j, by omega, h⟩
          · rintro (h | ⟨u, h1, h2⟩)
            · exact .inl (.inl h)
            · by_cases e : u = j
              · subst e; exact .inr h2
              · exact .inl (.inr ⟨u, by omega, h2⟩)
        · rw [if_neg e, if_neg e, ha v, if_neg e]⟩
      cases y1 with
      | true =>
        simp only [PP, P1, P2, P3, P4, P5, P6, P7, P8, P9, P10, P11, P12, P13, P14, L1, P15, N1, N2, N3, N4, N5, N6, N7, I1, I2, I3, I4, I5, I6, I7, reduceIte, reduceCtorEq, x, k0, kn, k1, la, g1, hwj]
        exact SemW_to (ih3 (j + 1) (vr + 1) (a.set k true) (up true (by simp)) (by omega)) (by simp only [PWeak_nil, PWeak_junk, PWeak_same, Int.cast_ofNat_Int, List.length_append, List.length_cons, List.length_nil, Nat.zero_add]) (by simp only [← List.map_set])
      | false =>
        cases y2 with
        | false =>
          simp only [PP, P1, P2, P3, P4, P5, P6, P7, P8, P9, P10, P11, P12, P13, P14, L1, P15, N1, N2, N3, N4, N5, N6, N7, I1, I2, I3, I4, I5, I6, I7, reduceIte, reduceCtorEq, x, k0, kn, k1, j0, jo, jz, la, g1, g2, hwj]
          exact SemW_to (ih3 (j + 1) (vr + 1) (a.set k false) (up false (by simp)) (by omega)) (by simp only [PWeak_nil, PWeak_junk, PWeak_same, Int.cast_ofNat_Int, List.length_append, List.length_cons, List.length_nil, Nat.zero_add]) (by simp only [← List.map_set])
        | true =>
          simp only [PP, P1, P2, P3, P4, P5, P6, P7, P8, P9, P10, P11, P12, P13, P14, L1, P15, N1, N2, N3, N4, N5, N6, N7, I1, I2, I3, I4, I5, I6, I7, reduceIte, reduceCtorEq, x, k0, kn, k1, j0, jo, jz, la, g1, g2, g3, hwj]
          exact SemW_to (ih3 (j + 1) (vr + 1) (a.set k y3) (up y3 (by simp)) (by omega)) (by simp only [PWeak_nil, PWeak_junk, PWeak_same, Int.cast_ofNat_Int, List.length_append, List.length_cons, List.length_nil, Nat.zero_add]) (by simp only [← List.map_set])
    · have hjn : j = ow.length := by omega
      subst hjn
      simp only [PP, P1, P2, P3, P4, P5, P6, P7, P8, P9, P10, P11, P12, P13, P14, L1, P15, N1, N2, N3, N4, N5, N6, N7, I1, I2, I3, I4, I5, I6, I7, reduceIte, reduceCtorEq, x, hwk]
      refine SemW_weak (ih2 (k + 1) vr a ⟨by omega, la, fun v => ?_⟩ (by omega)) (by simp only [PWeak_nil, PWeak_junk, PWeak_same, Int.cast_ofNat_Int, List.length_append, List.length_cons, List.length_nil, Nat.zero_add])
      rw [ha v]
      by_cases e : v = k
      · subst e
        rw [if_pos rfl, if_pos (by omega)]
        unfold Lost
        refine or_congr Iff.rfl ⟨fun ⟨u, h1, h2, h3⟩ => ⟨u, (hbad' u).1 h2, (hz u).1 h3⟩, fun ⟨u, h2, h3⟩ => ⟨u, ?_, (hbad' u).2 h2, (hz u).2 h3⟩⟩
        obtain ⟨a, ha⟩ := h3.tgt
        exact tgt a u ha
      · rw [if_neg e, hl v]
        by_cases e2 : v < k
        · rw [if_pos e2, if_pos (by omega)]
        · rw [if_neg e2, if_neg (by omega)]
  · have hkn : k = ow.length := by omega
    subst hkn
    simp only [PP, P1, P2, P3, P4, P5, P6, P7, P8, P9, P10, P11, P12, P13, P14, L1, P15, N1, N2, N3, N4, N5, N6, N7, I1, I2, I3, I4, I5, I6, I7, reduceIte, reduceCtorEq, d]
    refine SemW_of ?_
    simp only [PP, P1, P2, P3, P4, P5, P6, P7, P8, P9, P10, P11, P12, P13, P14, L1, P15, N1, N2, N3, N4, N5, N6, N7, I1, I2, I3, I4, I5, I6, I7, reduceIte, reduceCtorEq, ← ll]
    exact hk l ll fun v hv => by rw [hl v, if_pos hv]
end
end Go.Am.Ar
