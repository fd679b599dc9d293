/- Plain law: winners of related games, and what goes with it. -/
import Derived.Test.YtanhmigakclecaaZielonkaMonotoneG1
import Derived.Test.YtanhmigakclecaaZielonkaMonotoneG2
import Derived.Test.YtanhmigakclecaaPmC
import Derived.Test.YtanhmigakclecaaZielonkaMonotoneG0
import Derived.Test.YtanhmigakclecaaPmL
set_option linter.unusedVariables false
namespace Go.Am.Ar
theorem IsSol.into {n n' : Nat} {O O' : Nat → Int} {S S' : Nat → List Nat} {R R' : Nat → Int} {w w' : Nat → Int} {s s' : Nat → Nat} {ph : Nat → Nat} {p q : Int} (h : IsSol n O S R w s) (h' : IsSol n' O' S' R' w' s') (hp : p = 0 ∨ p = 1) (hq : q = 1 - p)
    (hR : ∀ v, v < n' → R' v = R (ph v))
    (hst : ∀ u, (ph u < n ∧ w (ph u) = p) → (u < n' ∧ w' u = q) → ∃ u', ph u' ∈ S (ph u) ∧ u' ∈ S' u ∧ ph u' < n ∧ u' < n' ∧ (O (ph u) = p → ph u' = s (ph u)) ∧ (O' u = q → u' = s' u)) {v : Nat} (h1 : ph v < n) (h2 : v < n') (h3 : w (ph v) = p) : w' v = p := by
  refine Classical.byContradiction fun hn => ?_
  have h4 : w' v = q := by have := h'.r01 v h2; omega
  exact no_both (h.of hp) (h'.of (p := q) (by omega)) (by omega) (n := n') (fun v h => h.1) (fun v h => hR v h.1) hst (v := v) ⟨h1, h3⟩ ⟨h2, h4⟩
theorem IsSol.given {n : Nat} {O O' : Nat → Int} {S : Nat → List Nat} {R : Nat → Int} {w w' : Nat → Int} {s s' : Nat → Nat} {p : Int} {at' : Nat} (hO : ∀ v, v < n → O v = 0 ∨ O v = 1) (hS : ∀ v, v < n → S v ≠ [] ∧ ∀ u ∈ S v, u < n) (h : IsSol n O S R w s) (h' : IsSol n O' S R w' s') (hp : p = 0 ∨ p = 1)
    (ha : O' at' = p) (hO' : ∀ v, v < n → v ≠ at' → O' v = O v) : ∀ v, v < n → w v = p → w' v = p := by
  intro v hv hw
  refine IsSol.into (ph := id) h h' hp rfl (fun _ _ => rfl) (fun u hu hu' => ?_) hv hv hw
  simp only [id] at hu ⊢
  by_cases ho : O u = p
  · obtain ⟨q1, q2⟩ := (h.of hp).own u hu ho
    refine ⟨s u, q1, q1, q2.1, q2.1, fun _ => rfl, fun e => ?_⟩
    by_cases hua : u = at'
    · subst hua; omega
    · rw [hO' u hu.1 hua] at e; omega
  · by_cases hua : u = at'
    · cases hs : S u with
      | nil => exact absurd hs (hS u hu.1).1
      | cons x l =>
        have hx : x ∈ S u := by rw [hs]; simp
        exact ⟨x, by simp, by simp, (hS u hu.1).2 x hx, (hS u hu.1).2 x hx, fun e => absurd e ho, fun e => by subst hua; omega⟩
    · have hoq : O' u = 1 - p := by rw [hO' u hu.1 hua]; have := hO u hu.1; omega
      obtain ⟨q1, q2⟩ := (h'.of (p := 1 - p) (by omega)).own u hu' hoq
      exact ⟨s' u, q1, q1, q2.1, q2.1, fun e => absurd e ho, fun _ => rfl⟩
theorem IsSol.more {n : Nat} {O : Nat → Int} {S S' : Nat → List Nat} {R : Nat → Int} {w w' : Nat → Int} {s s' : Nat → Nat} {p : Int} {at' : Nat} (hO : ∀ v, v < n → O v = 0 ∨ O v = 1) (h : IsSol n O S R w s) (h' : IsSol n O S' R w' s') (hp : p = 0 ∨ p = 1)
    (ha : O at' = p) (hS : ∀ v, v < n → ∀ u ∈ S v, u ∈ S' v) (hS' : ∀ v, v < n → v ≠ at' → S' v = S v) : ∀ v, v < n → w v = p → w' v = p := by
  intro v hv hw
  refine IsSol.into (ph := id) h h' hp rfl (fun _ _ => rfl) (fun u hu hu' => ?_) hv hv hw
  simp only [id] at hu ⊢
  by_cases ho : O u = p
  · obtain ⟨q1, q2⟩ := (h.of hp).own u hu ho
    exact ⟨s u, q1, hS u hu.1 _ q1, q2.1, q2.1, fun _ => rfl, fun e => by omega⟩
  · have hoq : O u = 1 - p := by have := hO u hu.1; omega
    obtain ⟨q1, q2⟩ := (h'.of (p := 1 - p) (by omega)).own u hu' hoq
    have hua : u ≠ at' := by rintro rfl; exact ho ha
    exact ⟨s' u, by rw [hS' u hu.1 hua] at q1; exact q1, q1, q2.1, q2.1, fun e => absurd e ho, fun _ => rfl⟩
theorem par_succ {x p : Int} (hp : p = 0 ∨ p = 1) : (x + 1) % 2 = 1 - p ↔ x % 2 = p := by omega
theorem IsSol.dual {n : Nat} {O O' : Nat → Int} {S : Nat → List Nat} {R R' : Nat → Int} {w : Nat → Int} {s : Nat → Nat} (hS : ∀ v, v < n → ∀ u ∈ S v, u < n) (hO : ∀ v, v < n → O' v = 1 - O v) (hR : ∀ v, v < n → R' v = R v + 1) (h : IsSol n O S R w s) : IsSol n O' S R' (fun v => 1 - w v) s := by
  have key : ∀ p : Int, (p = 0 ∨ p = 1) → SolIn O' S R' (fun v => v < n) (1 - p) (fun v => v < n ∧ 1 - w v = 1 - p) s := fun p hp => by
    have a := h.of hp
    have hw : ∀ v, (v < n ∧ 1 - w v = 1 - p) ↔ (v < n ∧ w v = p) := fun v => ⟨fun h => ⟨h.1, by omega⟩, fun h => ⟨h.1, by omega⟩⟩
    refine ⟨fun v h => h.1, fun v hv ho => ?_, fun v hv ho u hu hd => ?_, fun c k hk hper hW hSc hs => ?_⟩
    · obtain ⟨q1, q2⟩ := a.own v ((hw v).1 hv) (by have := hO v hv.1; omega)
      exact ⟨q1, (hw _).2 q2⟩
    · exact (hw u).2 (a.opp v ((hw v).1 hv) (by have := hO v hv.1; omega) u hu hd)
    · obtain ⟨j, h1, h2⟩ := a.cyc c k hk hper (fun i => (hw _).1 (hW i)) hSc fun i ho => hs i (by have := hO (c i) (hW i).1; omega)
      refine ⟨j, fun i => ?_, ?_⟩
      · rw [hR _ (hW i).1, hR _ (hW j).1]; have := h1 i; omega
      · rw [hR _ (hW j).1]; exact (par_succ hp).2 h2
  exact ⟨fun v hv => by have := h.r01 v hv; omega, key 1 (.inr rfl), key 0 (.inl rfl)⟩
end Go.Am.Ar
set_option linter.unusedVariables false
set_option linter.unusedSimpArgs false
set_option maxRecDepth 10000
namespace Go.Am.Ar
open Go.Am renaming pchk → P1, pold → P2, PKNo → P3, ppack → P4, PObj.under → P5, pput → P6, ptset → P7, ptget → P8, pev → P9, ofAV → P10, ofAV1 → P11, ppad → P12, pfill → P13, prepl → P14, AO.effect → P15
open List renaming replicate → L1
open Nat renaming reduceAdd → N1, reduceSub → N2, reduceMul → N3, reduceLT → N4, reduceLeDiff → N5, reduceEqDiff → N6, reduceBEq → N7
open Int renaming reduceToNat → I1, reduceLT → I2, reduceLE → I3, reduceEq → I4, reduceAdd → I5, reduceSub → I6, reduceNeg → I7
theorem PFrz_refl {id g : Nat} {cs : List PV} : ∀ a : List PV, PFrz id g cs a a
  | [] => trivial
  | x :: a => by rw [PFrz_same]; exact PFrz_refl a
theorem PFrz_set {id g sz off n : Nat} {cs : List PV} {α : Type} {f : α → PV} {y : α} (h1 : off + n * sz ≤ cs.length) (h2 : f y = .sl false true sz n (psub cs off (n * sz))) : ∀ {l : List α} {k : Nat}, PFrz id g cs ((l.map f).set k (.ref id g sz off n)) ((l.set k y).map f)
  | [], k => trivial
  | x :: l, 0 => by
    show PFrz id g cs (.ref id g sz off n :: l.map f) (f y :: l.map f)
    rw [PFrz_ref h1 h2]; exact PFrz_refl _
  | x :: l, k + 1 => by
    show PFrz id g cs (f x :: (l.map f).set k _) (f x :: (l.set k y).map f)
    rw [PFrz_same]; exact PFrz_set h1 h2
section
variable {tab : FuncId → Option AF} (T : HasA tab)
include T
set_option maxHeartbeats 2000000 in
theorem zmono_p {ow pr : List Int} {su : List (List Int)} {v u pl : Int} (ho : ∀ x ∈ ow, 0 ≤ x) (v0 : 0 ≤ v) (v1 : v ≤ 255) (u0 : 0 ≤ u) (u1 : u ≤ 255) (l0 : 0 ≤ pl) (l1 : pl ≤ 255) :
    SemC tab 4 [gmP false false false false false false false false ow pr su, p8 v, p8 u, p8 pl] [] fun r _ => r = .bool true := by
  refine SemC_sem T.h4 ?_
  simp only [af4]
  refine SemW_seq (SemW_of ?_)
  simp only [PP, P1, P2, P3, P4, P5, P6, P7, P8, P9, P10, P11, P12, P13, P14, L1, P15, N1, N2, N3, N4, N5, N6, N7, I1, I2, I3, I4, I5, I6, I7, reduceIte, reduceCtorEq]
  refine SemW_seq (SemW_of ?_)
  simp only [PP, P1, P2, P3, P4, P5, P6, P7, P8, P9, P10, P11, P12, P13, P14, L1, P15, N1, N2, N3, N4, N5, N6, N7, I1, I2, I3, I4, I5, I6, I7, reduceIte, reduceCtorEq]
  refine long0_p T ?_
  simp only [PP, P1, P2, P3, P4, P5, P6, P7, P8, P9, P10, P11, P12, P13, P14, L1, P15, N1, N2, N3, N4, N5, N6, N7, I1, I2, I3, I4, I5, I6, I7, reduceIte, reduceCtorEq]
  cases hl : longM ow pr su [] with
  | true =>
    simp only [PP, P1, P2, P3, P4, P5, P6, P7, P8, P9, P10, P11, P12, P13, P14, L1, P15, N1, N2, N3, N4, N5, N6, N7, I1, I2, I3, I4, I5, I6, I7, reduceIte, reduceCtorEq]
    refine SemC_true T.awake ?_
    simp only [PP, P1, P2, P3, P4, P5, P6, P7, P8, P9, P10, P11, P12, P13, P14, L1, P15, N1, N2, N3, N4, N5, N6, N7, I1, I2, I3, I4, I5, I6, I7, reduceIte, reduceCtorEq]
  | false =>
    have S := longM_false hl
    have B := S.bnd
    have so := S.o
    simp only [PP, P1, P2, P3, P4, P5, P6, P7, P8, P9, P10, P11, P12, P13, P14, L1, P15, N1, N2, N3, N4, N5, N6, N7, I1, I2, I3, I4, I5, I6, I7, reduceIte, reduceCtorEq]
    refine SemC_true T.awake ?_
    simp only [PP, P1, P2, P3, P4, P5, P6, P7, P8, P9, P10, P11, P12, P13, P14, L1, P15, N1, N2, N3, N4, N5, N6, N7, I1, I2, I3, I4, I5, I6, I7, reduceIte, reduceCtorEq]
    refine SemW_seq (SemW_of ?_)
    simp only [PP, P1, P2, P3, P4, P5, P6, P7, P8, P9, P10, P11, P12, P13, P14, L1, P15, N1, N2, N3, N4, N5, N6, N7, I1, I2, I3, I4, I5, I6, I7, reduceIte, reduceCtorEq]
    refine solve_q T B ho (fun ws ss e hR => ?_)
    simp only [PP, P1, P2, P3, P4, P5, P6, P7, P8, P9, P10, P11, P12, P13, P14, L1, P15, N1, N2, N3, N4, N5, N6, N7, I1, I2, I3, I4, I5, I6, I7, reduceIte, reduceCtorEq]
    refine SemW_seq (SemW_of ?_)
    rcases hR with ⟨q1, rfl, rfl, rfl⟩ | ⟨c1, rfl, L⟩
    · simp only [PP, P1, P2, P3, P4, P5, P6, P7, P8, P9, P10, P11, P12, P13, P14, L1, P15, N1, N2, N3, N4, N5, N6, N7, I1, I2, I3, I4, I5, I6, I7, reduceIte, reduceCtorEq, q1]
    · have V := valid_of c1
      have n0 := V.n0
      have n1 := V.n1
      have lw := L.lw
      have cn : ¬ (ow.length : Int) = 0 := by omega
      simp only [PP, P1, P2, P3, P4, P5, P6, P7, P8, P9, P10, P11, P12, P13, P14, L1, P15, N1, N2, N3, N4, N5, N6, N7, I1, I2, I3, I4, I5, I6, I7, reduceIte, reduceCtorEq, cn]
      refine refCheck_p T B ?_
      have h2 : (2 : Int) ≠ 0 := by omega
      have wv : IntKind.i64.wrap v = v := wrap64 (by omega) (by omega)
      have wu : IntKind.i64.wrap u = u := wrap64 (by omega) (by omega)
      obtain ⟨a, ha, han⟩ : ∃ q : Nat, v.tmod ow.length = q ∧ q < ow.length := by
        have h1 := Int.tmod_nonneg (a := v) (ow.length : Int) v0
        have h2 := Int.tmod_lt_of_pos v (b := (ow.length : Int)) (by omega)
        exact ⟨(v.tmod ow.length).toNat, by omega, by omega⟩
      obtain ⟨b, hb, hbn⟩ : ∃ q : Nat, u.tmod ow.length = q ∧ q < ow.length := by
        have h1 := Int.tmod_nonneg (a := u) (ow.length : Int) u0
        have h2 := Int.tmod_lt_of_pos u (b := (ow.length : Int)) (by omega)
        exact ⟨(u.tmod ow.length).toNat, by omega, by omega⟩
      have hpl : pl.tmod 2 = pl % 2 := Int.tmod_eq_emod_of_nonneg l0
      have hp01 : pl % 2 = 0 ∨ pl % 2 = 1 := by omega
      simp only [PP, P1, P2, P3, P4, P5, P6, P7, P8, P9, P10, P11, P12, P13, P14, L1, P15, N1, N2, N3, N4, N5, N6, N7, I1, I2, I3, I4, I5, I6, I7, reduceIte, reduceCtorEq, c1, lw]
      refine SemW_seq (SemW_of ?_)
      simp only [PP, P1, P2, P3, P4, P5, P6, P7, P8, P9, P10, P11, P12, P13, P14, L1, P15, N1, N2, N3, N4, N5, N6, N7, I1, I2, I3, I4, I5, I6, I7, reduceIte, reduceCtorEq, prem h2, prem cn, wv, wu, ha, hb, hpl]
      generalize pl % 2 = p at hp01 ⊢
      refine SemW_seq (SemW_of ?_)
      simp only [PP, P1, P2, P3, P4, P5, P6, P7, P8, P9, P10, P11, P12, P13, P14, L1, P15, N1, N2, N3, N4, N5, N6, N7, I1, I2, I3, I4, I5, I6, I7, reduceIte, reduceCtorEq]
      have b1 : ow.length ≤ 140737488355328 := by omega
      have b2 : ow.length ≤ 9223372036854775807 := by omega
      refine SemC_fn T.h11 ?_
      simp only [af11, PP, P1, P2, P3, P4, P5, P6, P7, P8, P9, P10, P11, P12, P13, P14, L1, P15, N1, N2, N3, N4, N5, N6, N7, I1, I2, I3, I4, I5, I6, I7, reduceIte, reduceCtorEq]
      refine SemC_fn T.h30 ?_
      simp only [af30, PP, P1, P2, P3, P4, P5, P6, P7, P8, P9, P10, P11, P12, P13, P14, L1, P15, N1, N2, N3, N4, N5, N6, N7, I1, I2, I3, I4, I5, I6, I7, reduceIte, reduceCtorEq, b1, b2]
      refine copyInts_p T B.p ?_
      simp only [PP, P1, P2, P3, P4, P5, P6, P7, P8, P9, P10, P11, P12, P13, P14, L1, P15, N1, N2, N3, N4, N5, N6, N7, I1, I2, I3, I4, I5, I6, I7, reduceIte, reduceCtorEq]
      refine copyRows_p T B.s B.r ?_
      simp only [PP, P1, P2, P3, P4, P5, P6, P7, P8, P9, P10, P11, P12, P13, P14, L1, P15, N1, N2, N3, N4, N5, N6, N7, I1, I2, I3, I4, I5, I6, I7, reduceIte, reduceCtorEq]
      refine SemW_seq (SemW_of ?_)
      have a0 : (0 : Int) ≤ a := by omega
      have a1 : (a : Int) < ow.length := by omega
      have a2 : a + 1 ≤ ow.length := han
      simp only [PP, P1, P2, P3, P4, P5, P6, P7, P8, P9, P10, P11, P12, P13, P14, L1, P15, N1, N2, N3, N4, N5, N6, N7, I1, I2, I3, I4, I5, I6, I7, reduceIte, reduceCtorEq, a0, a1, a2]
      simp only [← List.map_set]
      have hl1 : (ow.set a p).length = ow.length := by simp
      have hget1 : ∀ w, w < ow.length → (ow.set a p).getD w 0 = if w = a then p else ow.getD w 0 := fun w hw => by
        rw [List.getD]
        by_cases e : w = a
        · subst e; rw [List.getElem?_set_self hw, if_pos rfl]; rfl
        · rw [List.getElem?_set_ne (by omega), if_neg e]; rfl
      have ho1 : ∀ x ∈ ow.set a p, 0 ≤ x := fun x hx => by
        rcases List.mem_or_eq_of_mem_set hx with h | h
        · exact ho x h
        · omega
      generalize ow.set a p = ow1 at hl1 hget1 ho1 ⊢
      have B1 : Bnd ow1 pr su := ⟨by rw [hl1]; exact B.o, B.p, B.s, B.r⟩
      have V1 : Valid ow1 pr su := ⟨by rw [hl1]; exact n0, by rw [hl1]; exact n1, by rw [hl1]; exact V.p, by rw [hl1]; exact V.s, fun i hi => by
        obtain ⟨q1, q2, q3, q4, q5⟩ := V.row i hi
        refine ⟨q1, q2, ?_, q4, by rw [hl1]; exact q5⟩
        rw [hget1 i (by rw [← V.s]; exact hi)]
        split <;> omega⟩
      refine SemW_re (GStep.freezeIn (b := [.junk, .junk, .junk, .junk, .ptr 0 0 0, .junk, .junk, .junk, .bool false, .ptr 1 0 0, p64 0, p8 p, p64 a, p64 b, .ptr 5 0 0, .junk, .junk, .junk, .junk, .junk, .junk, .junk, .junk, .junk, .junk, .junk, .junk, .junk, .junk, .junk, .junk, .junk, .junk, .junk, .junk, .junk, .junk, .junk, .junk, .junk, .junk, .junk, .junk, .junk, .junk, .junk, .junk, .junk, .junk, .junk, .junk, .junk, .junk, .junk, .junk, .junk, .junk, .junk, .junk, .junk, .junk, .junk, .junk, .junk, .junk, .junk, .junk, .junk, .junk, .junk, .junk, .junk, .junk, .junk, .junk, .junk, .junk, .junk, .junk, .junk, .junk, .junk, .junk, .junk, .junk, .junk, .junk, .junk, .junk, .junk, .junk, .junk, .junk, .junk, .junk, .junk, .junk, .junk, .junk, .junk, .junk, .junk, .junk, .junk, .junk, .junk, .junk, .junk, .junk, .junk, .junk, .junk, .junk, .junk, .junk, .junk, .junk, .junk, .junk, .junk, .junk, .junk, .junk, .junk, .junk, .junk, .junk, .junk, .junk, .junk, .junk, .junk, .junk, .junk, .junk, .junk, .junk, .junk, .junk, .junk, .junk, .junk, .junk, .junk, .junk, .junk, .junk, .junk, .junk, .junk, .junk, .junk, .junk, .junk, .junk, .junk, .junk, .junk, .junk, .junk, .junk, .junk, .junk, .junk, .junk, .junk, .junk, .junk, .junk, .junk, .junk, .junk, .junk, .junk, .junk, .junk, .junk, .junk, .junk, .junk, .junk, .junk, .junk, .junk, .junk, .junk, .junk, .junk, .junk, .junk, .junk, .junk, .junk]) 4 5 (Nat.zero_le _) rfl rfl (by omega) (by simp only [PFrz_nil, PFrz_junk, PFrz_same]) (cj2 := [slI false true .u8 ow1, slI false true .i64 pr, slR false true false true .i64 su]) (by
        rw [PFrz_ref (by rw [List.length_map, hl1]; omega) (by rw [Nat.mul_one, psub_all _ _ (by rw [List.length_map, hl1])]; unfold slI; rw [hl1])]
        simp only [PFrz_nil, PFrz_same]) rfl) ?_
      simp only [List.set_cons_zero, List.set_cons_succ]
      refine SemW_seq (SemW_of ?_)
      simp only [PP, P1, P2, P3, P4, P5, P6, P7, P8, P9, P10, P11, P12, P13, P14, L1, P15, N1, N2, N3, N4, N5, N6, N7, I1, I2, I3, I4, I5, I6, I7, reduceIte, reduceCtorEq]
      refine solve_p T B1 ho1 (fun c => absurd (check_of V1) c) (fun c3 ws1 ss1 LA => ?_)
      have lw1 : ws1.length = ow.length := by rw [LA.lw, hl1]
      simp only [PP, P1, P2, P3, P4, P5, P6, P7, P8, P9, P10, P11, P12, P13, P14, L1, P15, N1, N2, N3, N4, N5, N6, N7, I1, I2, I3, I4, I5, I6, I7, reduceIte, reduceCtorEq]
      refine SemW_seq (SemW_of ?_)
      simp only [PP, P1, P2, P3, P4, P5, P6, P7, P8, P9, P10, P11, P12, P13, P14, L1, P15, N1, N2, N3, N4, N5, N6, N7, I1, I2, I3, I4, I5, I6, I7, reduceIte, reduceCtorEq]
      refine SemC_fn T.h11 ?_
      simp only [af11, PP, P1, P2, P3, P4, P5, P6, P7, P8, P9, P10, P11, P12, P13, P14, L1, P15, N1, N2, N3, N4, N5, N6, N7, I1, I2, I3, I4, I5, I6, I7, reduceIte, reduceCtorEq]
      refine copyBytes_p T B1.o ?_
      simp only [PP, P1, P2, P3, P4, P5, P6, P7, P8, P9, P10, P11, P12, P13, P14, L1, P15, N1, N2, N3, N4, N5, N6, N7, I1, I2, I3, I4, I5, I6, I7, reduceIte, reduceCtorEq]
      refine copyInts_p T B.p ?_
      simp only [PP, P1, P2, P3, P4, P5, P6, P7, P8, P9, P10, P11, P12, P13, P14, L1, P15, N1, N2, N3, N4, N5, N6, N7, I1, I2, I3, I4, I5, I6, I7, reduceIte, reduceCtorEq]
      refine SemC_fn T.h32 ?_
      simp only [af32, PP, P1, P2, P3, P4, P5, P6, P7, P8, P9, P10, P11, P12, P13, P14, L1, P15, N1, N2, N3, N4, N5, N6, N7, I1, I2, I3, I4, I5, I6, I7, reduceIte, reduceCtorEq]
      refine SemW_re (GStep.nil 3 1 rfl rfl rfl) ?_
      have hsl := V.s
      refine loop2 (fun (k g : Nat) => k ≤ su.length) (fun k g => [slR false true false true .i64 su, .junk, .junk, .ref 9 g 1 0 (su.take k).length, p64 k, .junk, .junk, .junk, .junk, .junk, .junk, .junk, .junk, .junk, .junk, .junk, .junk, .junk, .junk, .junk]) (fun k g => [.cells 0 0 [slI false false .u8 ow, slI false false .i64 pr, slR false false false false .i64 su], .cells 0 1 [slI false true .u8 ws, slI false true .i64 ss], .cells 0 0 [slI false false .u8 ow, slI false false .i64 pr, slR false false false false .i64 su], .cells 0 1 [.ref 4 0 1 0 ow.length, slI false true .i64 pr, slR false true false true .i64 su], .gone, .cells 0 1 [slI false true .u8 ow1, slI false true .i64 pr, slR false true false true .i64 su], .cells 0 1 [slI false true .u8 ws1, slI false true .i64 ss1], .cells 0 0 [slI false true .u8 ow1, slI false true .i64 pr, slR false true false true .i64 su], .cells 0 0 [.nils, .nils, .nils], .cells g 0 ((su.take k).map (slI false true .i64))]) (fun k _ => su.length - k) 0 0 (by omega) (by simp only [ptset, PP, P1, P2, P3, P4, P5, P6, P7, P8, P9, P10, P11, P12, P13, P14, L1, P15, N1, N2, N3, N4, N5, N6, N7, I1, I2, I3, I4, I5, I6, I7, reduceIte, reduceCtorEq, PWeak_nil, PWeak_junk, PWeak_same]) rfl ?_
      intro k g hle ih
      refine SemW_go (by kernel_rfl) ?_
      simp only [PP, P1, P2, P3, P4, P5, P6, P7, P8, P9, P10, P11, P12, P13, P14, L1, P15, N1, N2, N3, N4, N5, N6, N7, I1, I2, I3, I4, I5, I6, I7, reduceIte, reduceCtorEq]
      refine QIf.intro (fun c => ?_) (fun c => ?_)
      · have hk' : k < su.length := by omega
        have hw := wrap_succ (k := k) (by show _ < 1000000000000; omega)
        obtain ⟨row, q1⟩ := some_of hk'
        have h0 : (0 : Int) ≤ k := by omega
        have hlk : (su.take k).length = k := by rw [List.length_take]; omega
        have hlk1 : (su.take (k + 1)).length = k + 1 := by rw [List.length_take]; omega
        have b3 : (k + 1) * 24 ≤ 140737488355328 := by omega
        have b4 : k ≤ 9223372036854775806 := by omega
        simp only [PP, P1, P2, P3, P4, P5, P6, P7, P8, P9, P10, P11, P12, P13, P14, L1, P15, N1, N2, N3, N4, N5, N6, N7, I1, I2, I3, I4, I5, I6, I7, reduceIte, reduceCtorEq, c, q1, h0]
        refine copyInts_p T (B.r _ (List.mem_of_getElem? q1)) ?_
        simp only [PP, P1, P2, P3, P4, P5, P6, P7, P8, P9, P10, P11, P12, P13, P14, L1, P15, N1, N2, N3, N4, N5, N6, N7, I1, I2, I3, I4, I5, I6, I7, reduceIte, reduceCtorEq, hlk, b3, b4, hw]
        refine SemW_to (ih (k + 1) (g + 1) (by omega) (by omega)) (by simp only [PWeak_nil, PWeak_junk, PWeak_same, hlk1]) ?_
        rw [psub_all _ _ (by rw [List.length_map, hlk]), take_some q1]
        simp only [List.map_append, List.map_cons, List.map_nil]
      · have hks : su.take k = su := List.take_of_length_le (by omega)
        simp only [PP, P1, P2, P3, P4, P5, P6, P7, P8, P9, P10, P11, P12, P13, P14, L1, P15, N1, N2, N3, N4, N5, N6, N7, I1, I2, I3, I4, I5, I6, I7, reduceIte, reduceCtorEq, c, hks]
        obtain ⟨rowa, ga⟩ := some_of (xs := su) (k := a) (by omega)
        have ea : su.getD a [] = rowa := by simp [List.getD, ga]
        have asu : (a : Int) < su.length := by omega
        have hra : rowa.length < big := B.r _ (List.mem_of_getElem? ga)
        refine SemW_seq (SemW_of ?_)
        simp only [PP, P1, P2, P3, P4, P5, P6, P7, P8, P9, P10, P11, P12, P13, P14, L1, P15, N1, N2, N3, N4, N5, N6, N7, I1, I2, I3, I4, I5, I6, I7, reduceIte, reduceCtorEq, a0, a1, asu, ga]
        refine hasInt_p T hra ?_
        by_cases hbr : (b : Int) ∈ rowa
        · simp only [PP, P1, P2, P3, P4, P5, P6, P7, P8, P9, P10, P11, P12, P13, P14, L1, P15, N1, N2, N3, N4, N5, N6, N7, I1, I2, I3, I4, I5, I6, I7, reduceIte, reduceCtorEq, hbr]
          have B2 := B1
          have V2 := V1
          have hsub : ∀ w, w < ow.length → ∀ x ∈ Sf su w, x ∈ Sf su w := fun w _ x h => h
          have hsame : ∀ w, w < ow.length → w ≠ a → Sf su w = Sf su w := fun _ _ _ => rfl
          refine SemW_re (GStep.freezeIn (b := [.junk, .junk, .junk, .junk, .junk, .junk, .junk, .junk, .bool false, .ptr 1 0 0, .junk, p8 p, .junk, .junk, .junk, .ptr 6 0 0, p64 0, .ptr 10 0 0, .junk, .junk, .junk, .junk, .junk, .junk, .junk, .junk, .junk, .junk, .junk, .junk, .junk, .junk, .junk, .junk, .junk, .junk, .junk, .junk, .junk, .junk, .junk, .junk, .junk, .junk, .junk, .junk, .junk, .junk, .junk, .junk, .junk, .junk, .junk, .junk, .junk, .junk, .junk, .junk, .junk, .junk, .junk, .junk, .junk, .junk, .junk, .junk, .junk, .junk, .junk, .junk, .junk, .junk, .junk, .junk, .junk, .junk, .junk, .junk, .junk, .junk, .junk, .junk, .junk, .junk, .junk, .junk, .junk, .junk, .junk, .junk, .junk, .junk, .junk, .junk, .junk, .junk, .junk, .junk, .junk, .junk, .junk, .junk, .junk, .junk, .junk, .junk, .junk, .junk, .junk, .junk, .junk, .junk, .junk, .junk, .junk, .junk, .junk, .junk, .junk, .junk, .junk, .junk, .junk, .junk, .junk, .junk, .junk, .junk, .junk, .junk, .junk, .junk, .junk, .junk, .junk, .junk, .junk, .junk, .junk, .junk, .junk, .junk, .junk, .junk, .junk, .junk, .junk, .junk, .junk, .junk, .junk, .junk, .junk, .junk, .junk, .junk, .junk, .junk, .junk, .junk, .junk, .junk, .junk, .junk, .junk, .junk, .junk, .junk, .junk, .junk, .junk, .junk, .junk, .junk, .junk, .junk, .junk, .junk, .junk, .junk, .junk, .junk, .junk, .junk, .junk, .junk, .junk, .junk, .junk, .junk, .junk, .junk, .junk]) 9 10 (Nat.zero_le _) rfl rfl (by omega) (by simp only [PFrz_nil, PFrz_junk, PFrz_same]) (cj2 := [slI false true .u8 ow1, slI false true .i64 pr, slR false true false true .i64 su]) (by
            show PFrz 9 g _ [slI false true .u8 ow1, slI false true .i64 pr, .ref 9 g 1 0 su.length] _
            rw [PFrz_same, PFrz_same, PFrz_ref (by rw [List.length_map]; omega) (by rw [Nat.mul_one, psub_all _ _ (by rw [List.length_map])])]
            simp only [PFrz_nil]) rfl) ?_
          simp only [List.set_cons_zero, List.set_cons_succ]
          refine SemW_seq (SemW_of ?_)
          simp only [PP, P1, P2, P3, P4, P5, P6, P7, P8, P9, P10, P11, P12, P13, P14, L1, P15, N1, N2, N3, N4, N5, N6, N7, I1, I2, I3, I4, I5, I6, I7, reduceIte, reduceCtorEq]
          refine solve_p T B2 ho1 (fun c => absurd (check_of V2) c) (fun c4 ws2 ss2 LB => ?_)
          have lw2 : ws2.length = ow.length := by rw [LB.lw, hl1]
          have sA := LA.sol
          have sB := LB.sol
          rw [hl1] at sA sB
          have k1 := IsSol.given (valid_O V ho) (valid_S V) L.sol sA hp01 (at' := a) (by show ow1.getD a 0 = p; rw [hget1 a han, if_pos rfl]) (fun w hw hne => by show ow1.getD w 0 = ow.getD w 0; rw [hget1 w hw, if_neg hne])
          have k2 := IsSol.more (fun w hw => valid_O V1 ho1 w (by rw [hl1]; exact hw)) sA sB hp01 (at' := a) (by show ow1.getD a 0 = p; rw [hget1 a han, if_pos rfl]) hsub hsame
          simp only [PP, P1, P2, P3, P4, P5, P6, P7, P8, P9, P10, P11, P12, P13, P14, L1, P15, N1, N2, N3, N4, N5, N6, N7, I1, I2, I3, I4, I5, I6, I7, reduceIte, reduceCtorEq]
          refine SemW_seq (SemW_of ?_)
          simp only [PP, P1, P2, P3, P4, P5, P6, P7, P8, P9, P10, P11, P12, P13, P14, L1, P15, N1, N2, N3, N4, N5, N6, N7, I1, I2, I3, I4, I5, I6, I7, reduceIte, reduceCtorEq, lw, lw1, lw2]
          refine SemW_of ?_
          simp only [PP, P1, P2, P3, P4, P5, P6, P7, P8, P9, P10, P11, P12, P13, P14, L1, P15, N1, N2, N3, N4, N5, N6, N7, I1, I2, I3, I4, I5, I6, I7, reduceIte, reduceCtorEq]
          refine loop1 (fun (k : Nat) => k ≤ ow.length) (fun k => [.junk, .junk, .junk, .junk, .junk, .junk, .junk, .junk, .junk, .ptr 1 0 0, .junk, p8 p, .junk, .junk, .junk, .ptr 6 0 0, .junk, .junk, .junk, .junk, .ptr 11 0 0, .junk, p64 k, .junk, .junk, .junk, .junk, .junk, .junk, .junk, .junk, .junk, .junk, .junk, .junk, .junk, .junk, .junk, .junk, .junk, .junk, .junk, .junk, .junk, .junk, .junk, .junk, .junk, .junk, .junk, .junk, .junk, .junk, .junk, .junk, .junk, .junk, .junk, .junk, .junk, .junk, .junk, .junk, .junk, .junk, .junk, .junk, .junk, .junk, .junk, .junk, .junk, .junk, .junk, .junk, .junk, .junk, .junk, .junk, .junk, .junk, .junk, .junk, .junk, .junk, .junk, .junk, .junk, .junk, .junk, .junk, .junk, .junk, .junk, .junk, .junk, .junk, .junk, .junk, .junk, .junk, .junk, .junk, .junk, .junk, .junk, .junk, .junk, .junk, .junk, .junk, .junk, .junk, .junk, .junk, .junk, .junk, .junk, .junk, .junk, .junk, .junk, .junk, .junk, .junk, .junk, .junk, .junk, .junk, .junk, .junk, .junk, .junk, .junk, .junk, .junk, .junk, .junk, .junk, .junk, .junk, .junk, .junk, .junk, .junk, .junk, .junk, .junk, .junk, .junk, .junk, .junk, .junk, .junk, .junk, .junk, .junk, .junk, .junk, .junk, .junk, .junk, .junk, .junk, .junk, .junk, .junk, .junk, .junk, .junk, .junk, .junk, .junk, .junk, .junk, .junk, .junk, .junk, .junk, .junk, .junk, .junk, .junk, .junk, .junk, .junk, .junk, .junk, .junk, .junk, .junk, .junk, .junk]) (fun _ => [.cells 0 0 [slI false false .u8 ow, slI false false .i64 pr, slR false false false false .i64 su], .cells 0 1 [slI false true .u8 ws, slI false true .i64 ss], .cells 0 0 [slI false false .u8 ow, slI false false .i64 pr, slR false false false false .i64 su], .cells 0 1 [.ref 4 0 1 0 ow.length, slI false true .i64 pr, slR false true false true .i64 su], .gone, .cells 0 1 [slI false true .u8 ow1, slI false true .i64 pr, slR false true false true .i64 su], .cells 0 1 [slI false true .u8 ws1, slI false true .i64 ss1], .cells 0 0 [slI false true .u8 ow1, slI false true .i64 pr, slR false true false true .i64 su], .cells 0 1 [slI false true .u8 ow1, slI false true .i64 pr, .ref 9 g 1 0 su.length], .gone, .cells 0 1 [slI false true .u8 ow1, slI false true .i64 pr, slR false true false true .i64 su], .cells 0 1 [slI false true .u8 ws2, slI false true .i64 ss2]]) (fun k => ow.length - k) 0 (by omega) (by simp only [PWeak_nil, PWeak_junk, PWeak_same, Int.cast_ofNat_Int, List.length_append, List.length_cons, List.length_nil, Nat.zero_add]) rfl ?_
          intro k hkl ih3
          refine SemW_go (by kernel_rfl) ?_
          simp only [PP, P1, P2, P3, P4, P5, P6, P7, P8, P9, P10, P11, P12, P13, P14, L1, P15, N1, N2, N3, N4, N5, N6, N7, I1, I2, I3, I4, I5, I6, I7, reduceIte, reduceCtorEq, lw]
          refine QIf.intro (fun d => ?_) (fun d => ?_)
          · have hk : k < ow.length := by omega
            have k0 : (0 : Int) ≤ k := by omega
            have kn : (k : Int) < ow.length := by omega
            have hwk := wrap_succ (k := k) (by show _ < 1000000000000; omega)
            obtain ⟨x, e1⟩ := some_of (xs := ws) (k := k) (by omega)
            obtain ⟨y, e2⟩ := some_of (xs := ws1) (k := k) (by omega)
            obtain ⟨z, e3⟩ := some_of (xs := ws2) (k := k) (by omega)
            have j1 := k1 k hk
            have j2 := k2 k hk
            simp only [getD_some e1, getD_some e2, getD_some e3] at j1 j2
            simp only [PP, P1, P2, P3, P4, P5, P6, P7, P8, P9, P10, P11, P12, P13, P14, L1, P15, N1, N2, N3, N4, N5, N6, N7, I1, I2, I3, I4, I5, I6, I7, reduceIte, reduceCtorEq, d, k0, kn, e1, e2, e3, lw, lw1, lw2]
            by_cases r1 : x = p
            · have r2 := j1 r1
              have r3 := j2 r2
              simp only [PP, P1, P2, P3, P4, P5, P6, P7, P8, P9, P10, P11, P12, P13, P14, L1, P15, N1, N2, N3, N4, N5, N6, N7, I1, I2, I3, I4, I5, I6, I7, reduceIte, reduceCtorEq, eq_true r1, eq_true r2, eq_true r3, k0, kn, e1, e2, e3, lw, lw1, lw2, hwk]
              exact SemW_weak (ih3 (k + 1) (by omega) (by omega)) (by simp only [PWeak_nil, PWeak_junk, PWeak_same, Int.cast_ofNat_Int, List.length_append, List.length_cons, List.length_nil, Nat.zero_add])
            · by_cases r2 : y = p
              · have r3 := j2 r2
                simp only [PP, P1, P2, P3, P4, P5, P6, P7, P8, P9, P10, P11, P12, P13, P14, L1, P15, N1, N2, N3, N4, N5, N6, N7, I1, I2, I3, I4, I5, I6, I7, reduceIte, reduceCtorEq, eq_false r1, eq_true r2, eq_true r3, k0, kn, e1, e2, e3, lw, lw1, lw2, hwk]
                exact SemW_weak (ih3 (k + 1) (by omega) (by omega)) (by simp only [PWeak_nil, PWeak_junk, PWeak_same, Int.cast_ofNat_Int, List.length_append, List.length_cons, List.length_nil, Nat.zero_add])
              · simp only [PP, P1, P2, P3, P4, P5, P6, P7, P8, P9, P10, P11, P12, P13, P14, L1, P15, N1, N2, N3, N4, N5, N6, N7, I1, I2, I3, I4, I5, I6, I7, reduceIte, reduceCtorEq, eq_false r1, eq_false r2, k0, kn, e1, e2, e3, lw, lw1, lw2, hwk]
                exact SemW_weak (ih3 (k + 1) (by omega) (by omega)) (by simp only [PWeak_nil, PWeak_junk, PWeak_same, Int.cast_ofNat_Int, List.length_append, List.length_cons, List.length_nil, Nat.zero_add])
          · simp only [PP, P1, P2, P3, P4, P5, P6, P7, P8, P9, P10, P11, P12, P13, P14, L1, P15, N1, N2, N3, N4, N5, N6, N7, I1, I2, I3, I4, I5, I6, I7, reduceIte, reduceCtorEq, d]
        · simp only [PP, P1, P2, P3, P4, P5, P6, P7, P8, P9, P10, P11, P12, P13, P14, L1, P15, N1, N2, N3, N4, N5, N6, N7, I1, I2, I3, I4, I5, I6, I7, reduceIte, reduceCtorEq, hbr]
          refine SemW_re (GStep.nil 18 1 rfl rfl rfl) ?_
          simp only [ptset, List.cons_append, List.nil_append, List.length_cons, List.length_nil, Nat.reduceAdd]
          refine loop3 (fun (k g2 : Nat) (acc : List Int) => k ≤ ow.length ∧ acc = natI ((List.range k).filter fun w => decide (w = b ∨ (w : Int) ∈ rowa)))
            (fun k g2 acc => [.junk, .junk, .junk, .junk, .ptr 0 0 0, .junk, .junk, .junk, .junk, .ptr 1 0 0, .junk, p8 p, p64 a, p64 b, .ptr 5 0 0, .ptr 6 0 0, p64 0, .ptr 10 0 0, .ref 11 g2 1 0 acc.length, p64 k, .junk, .junk, .junk, .junk, .junk, .junk, .junk, .junk, .junk, .junk, .junk, .junk, .junk, .junk, .junk, .junk, .junk, .junk, .junk, .junk, .junk, .junk, .junk, .junk, .junk, .junk, .junk, .junk, .junk, .junk, .junk, .junk, .junk, .junk, .junk, .junk, .junk, .junk, .junk, .junk, .junk, .junk, .junk, .junk, .junk, .junk, .junk, .junk, .junk, .junk, .junk, .junk, .junk, .junk, .junk, .junk, .junk, .junk, .junk, .junk, .junk, .junk, .junk, .junk, .junk, .junk, .junk, .junk, .junk, .junk, .junk, .junk, .junk, .junk, .junk, .junk, .junk, .junk, .junk, .junk, .junk, .junk, .junk, .junk, .junk, .junk, .junk, .junk, .junk, .junk, .junk, .junk, .junk, .junk, .junk, .junk, .junk, .junk, .junk, .junk, .junk, .junk, .junk, .junk, .junk, .junk, .junk, .junk, .junk, .junk, .junk, .junk, .junk, .junk, .junk, .junk, .junk, .junk, .junk, .junk, .junk, .junk, .junk, .junk, .junk, .junk, .junk, .junk, .junk, .junk, .junk, .junk, .junk, .junk, .junk, .junk, .junk, .junk, .junk, .junk, .junk, .junk, .junk, .junk, .junk, .junk, .junk, .junk, .junk, .junk, .junk, .junk, .junk, .junk, .junk, .junk, .junk, .junk, .junk, .junk, .junk, .junk, .junk, .junk, .junk, .junk, .junk, .junk, .junk, .junk, .junk, .junk, .junk])
            (fun k g2 acc => [.cells 0 0 [slI false false .u8 ow, slI false false .i64 pr, slR false false false false .i64 su], .cells 0 1 [slI false true .u8 ws, slI false true .i64 ss], .cells 0 0 [slI false false .u8 ow, slI false false .i64 pr, slR false false false false .i64 su], .cells 0 1 [.ref 4 0 1 0 ow.length, slI false true .i64 pr, slR false true false true .i64 su], .gone, .cells 0 1 [slI false true .u8 ow1, slI false true .i64 pr, slR false true false true .i64 su], .cells 0 1 [slI false true .u8 ws1, slI false true .i64 ss1], .cells 0 0 [slI false true .u8 ow1, slI false true .i64 pr, slR false true false true .i64 su], .cells 0 1 [slI false true .u8 ow1, slI false true .i64 pr, .ref 9 g 1 0 su.length], .cells g 0 (su.map (slI false true .i64)), .cells 0 1 [slI false true .u8 ow1, slI false true .i64 pr, .ref 9 g 1 0 su.length], .cells g2 0 (acc.map (PV.int .i64))]) (fun k _ _ => ow.length - k) 0 0 [] ⟨by omega, rfl⟩ (by simp only [PWeak_nil, PWeak_junk, PWeak_same, Int.cast_ofNat_Int, List.length_append, List.length_cons, List.length_nil, Nat.zero_add]) rfl ?_
          intro k g2 acc ⟨hle, hacc⟩ ih
          refine SemW_go (by kernel_rfl) ?_
          simp only [PP, P1, P2, P3, P4, P5, P6, P7, P8, P9, P10, P11, P12, P13, P14, L1, P15, N1, N2, N3, N4, N5, N6, N7, I1, I2, I3, I4, I5, I6, I7, reduceIte, reduceCtorEq]
          refine QIf.intro (fun c => ?_) (fun c => ?_)
          · have hk' : k < ow.length := by omega
            have hw := wrap_succ (k := k) (by show _ < 1000000000000; omega)
            have h0 : (0 : Int) ≤ k := by omega
            have hal : acc.length ≤ k := by
              rw [hacc, List.length_map]
              exact Nat.le_trans (List.length_filter_le _ _) (by simp)
            have b5 : (acc.length + 1) * 8 ≤ 140737488355328 := by omega
            have b6 : acc.length ≤ 9223372036854775806 := by omega
            have hs1 : natI ((List.range (k + 1)).filter fun w => decide (w = b ∨ (w : Int) ∈ rowa)) = acc ++ (if k = b ∨ (k : Int) ∈ rowa then [(k : Int)] else []) := by
              rw [hacc, List.range_succ, List.filter_append]
              by_cases h : k = b ∨ (k : Int) ∈ rowa
              · rw [if_pos h, List.filter_cons, if_pos (decide_eq_true h)]; simp
              · rw [if_neg h, List.filter_cons, if_neg (by simpa using h)]; simp
            simp only [PP, P1, P2, P3, P4, P5, P6, P7, P8, P9, P10, P11, P12, P13, P14, L1, P15, N1, N2, N3, N4, N5, N6, N7, I1, I2, I3, I4, I5, I6, I7, reduceIte, reduceCtorEq, c]
            refine QIf.intro (fun e => ?_) (fun e => ?_)
            · simp only [PP, P1, P2, P3, P4, P5, P6, P7, P8, P9, P10, P11, P12, P13, P14, L1, P15, N1, N2, N3, N4, N5, N6, N7, I1, I2, I3, I4, I5, I6, I7, reduceIte, reduceCtorEq, eq_true e, b5, b6, hw]
              refine SemW_to (ih (k + 1) (g2 + 1) (acc ++ [(k : Int)]) ⟨by omega, by rw [hs1, if_pos (.inl (by omega))]⟩ (by omega)) (by simp only [PWeak_nil, PWeak_junk, PWeak_same, Int.cast_ofNat_Int, List.length_append, List.length_cons, List.length_nil, Nat.zero_add]) (by simp only [List.map_append, List.map_cons, List.map_nil])
            · simp only [PP, P1, P2, P3, P4, P5, P6, P7, P8, P9, P10, P11, P12, P13, P14, L1, P15, N1, N2, N3, N4, N5, N6, N7, I1, I2, I3, I4, I5, I6, I7, reduceIte, reduceCtorEq, e, a0, a1, asu, ga]
              refine hasInt_p T hra ?_
              by_cases h1 : (k : Int) ∈ rowa
              · simp only [PP, P1, P2, P3, P4, P5, P6, P7, P8, P9, P10, P11, P12, P13, P14, L1, P15, N1, N2, N3, N4, N5, N6, N7, I1, I2, I3, I4, I5, I6, I7, reduceIte, reduceCtorEq, h1, b5, b6, hw]
                refine SemW_to (ih (k + 1) (g2 + 1) (acc ++ [(k : Int)]) ⟨by omega, by rw [hs1, if_pos (.inr h1)]⟩ (by omega)) (by simp only [PWeak_nil, PWeak_junk, PWeak_same, Int.cast_ofNat_Int, List.length_append, List.length_cons, List.length_nil, Nat.zero_add]) (by simp only [List.map_append, List.map_cons, List.map_nil])
              · simp only [PP, P1, P2, P3, P4, P5, P6, P7, P8, P9, P10, P11, P12, P13, P14, L1, P15, N1, N2, N3, N4, N5, N6, N7, I1, I2, I3, I4, I5, I6, I7, reduceIte, reduceCtorEq, h1, hw]
                exact SemW_to (ih (k + 1) g2 acc ⟨by omega, by rw [hs1, if_neg (fun h => h.elim (fun h => e (by omega)) h1), List.append_nil]⟩ (by omega)) (by simp only [PWeak_nil, PWeak_junk, PWeak_same, Int.cast_ofNat_Int, List.length_append, List.length_cons, List.length_nil, Nat.zero_add]) rfl
          · have asu2 : a + 1 ≤ su.length := by omega
            simp only [PP, P1, P2, P3, P4, P5, P6, P7, P8, P9, P10, P11, P12, P13, P14, L1, P15, N1, N2, N3, N4, N5, N6, N7, I1, I2, I3, I4, I5, I6, I7, reduceIte, reduceCtorEq, c, a0, a1, asu, asu2]
            have hacc2 : ∀ x : Int, x ∈ acc ↔ ∃ w : Nat, w < ow.length ∧ (w = b ∨ (w : Int) ∈ rowa) ∧ x = w := fun x => by
              rw [hacc, show k = ow.length by omega]
              constructor
              · intro h
                obtain ⟨w, hw, rfl⟩ := List.mem_map.1 h
                obtain ⟨q1, q2⟩ := List.mem_filter.1 hw
                exact ⟨w, List.mem_range.1 q1, of_decide_eq_true q2, rfl⟩
              · rintro ⟨w, q1, q2, rfl⟩
                exact List.mem_map.2 ⟨w, List.mem_filter.2 ⟨List.mem_range.2 q1, decide_eq_true q2⟩, rfl⟩
            have hpos : posM ow.length (-1) acc = true := by
              refine posM_of ?_ fun x hx => ?_
              · rw [hacc]
                refine List.pairwise_map.2 (List.Pairwise.filter _ (List.Pairwise.imp (fun h => ?_) List.pairwise_lt_range))
                omega
              · obtain ⟨w, q1, _, rfl⟩ := (hacc2 x).1 hx; omega
            have hab : (b : Int) ∈ acc := (hacc2 _).2 ⟨b, hbn, .inl rfl, rfl⟩
            have hal : acc.length < big := by
              rw [hacc, List.length_map]
              have := List.length_filter_le (fun w => decide (w = b ∨ (w : Int) ∈ rowa)) (List.range k)
              rw [List.length_range] at this
              show _ < 1000000000000
              omega
            have hlS : (su.set a acc).length = su.length := by simp
            have hgetS : ∀ w, (su.set a acc).getD w [] = if w = a then acc else su.getD w [] := fun w => by
              rw [List.getD]
              by_cases e : w = a
              · subst e; rw [List.getElem?_set_self (by omega), if_pos rfl]; rfl
              · rw [List.getElem?_set_ne (by omega), if_neg e]; rfl
            have hsub : ∀ w, w < ow.length → ∀ x ∈ Sf su w, x ∈ Sf (su.set a acc) w := fun w hw x hx => by
              unfold Sf at hx ⊢
              rw [hgetS]
              by_cases e : w = a
              · subst e
                rw [if_pos rfl]
                rw [ea] at hx
                obtain ⟨y, hy, rfl⟩ := List.mem_map.1 hx
                have := su_range V hw (by rw [ea]; exact hy)
                exact List.mem_map.2 ⟨y, (hacc2 y).2 ⟨y.toNat, by omega, .inr (by rwa [Int.toNat_of_nonneg this.1]), by omega⟩, rfl⟩
              · rw [if_neg e]; exact hx
            have hsame : ∀ w, w < ow.length → w ≠ a → Sf (su.set a acc) w = Sf su w := fun w _ hne => by
              unfold Sf; rw [hgetS, if_neg hne]
            have B2 : Bnd ow1 pr (su.set a acc) := ⟨B1.o, B1.p, by rw [hlS]; exact B.s, fun r hr => by
              rcases List.mem_or_eq_of_mem_set hr with h | h
              · exact B.r r h
              · rw [h]; exact hal⟩
            have V2 : Valid ow1 pr (su.set a acc) := ⟨V1.n0, V1.n1, V1.p, by rw [hlS]; exact V1.s, fun i hi => by
              have hi' : i < su.length := by rw [← hlS]; exact hi
              obtain ⟨q1, q2, q3, q4, q5⟩ := V1.row i hi'
              refine ⟨q1, q2, q3, ?_⟩
              rw [List.getElem_set]
              split
              · refine ⟨List.length_pos_iff.2 (fun e => by rw [e] at hab; cases hab), by rw [hl1]; exact hpos⟩
              · exact ⟨q4, q5⟩⟩
            refine SemW_re (GStep.freezeIn (b := [.junk, .junk, .junk, .junk, .junk, .junk, .junk, .junk, .junk, .ptr 1 0 0, .junk, p8 p, .junk, .junk, .junk, .ptr 6 0 0, p64 0, .ptr 10 0 0, .junk, .junk, .junk, .junk, .junk, .junk, .junk, .junk, .junk, .junk, .junk, .junk, .junk, .junk, .junk, .junk, .junk, .junk, .junk, .junk, .junk, .junk, .junk, .junk, .junk, .junk, .junk, .junk, .junk, .junk, .junk, .junk, .junk, .junk, .junk, .junk, .junk, .junk, .junk, .junk, .junk, .junk, .junk, .junk, .junk, .junk, .junk, .junk, .junk, .junk, .junk, .junk, .junk, .junk, .junk, .junk, .junk, .junk, .junk, .junk, .junk, .junk, .junk, .junk, .junk, .junk, .junk, .junk, .junk, .junk, .junk, .junk, .junk, .junk, .junk, .junk, .junk, .junk, .junk, .junk, .junk, .junk, .junk, .junk, .junk, .junk, .junk, .junk, .junk, .junk, .junk, .junk, .junk, .junk, .junk, .junk, .junk, .junk, .junk, .junk, .junk, .junk, .junk, .junk, .junk, .junk, .junk, .junk, .junk, .junk, .junk, .junk, .junk, .junk, .junk, .junk, .junk, .junk, .junk, .junk, .junk, .junk, .junk, .junk, .junk, .junk, .junk, .junk, .junk, .junk, .junk, .junk, .junk, .junk, .junk, .junk, .junk, .junk, .junk, .junk, .junk, .junk, .junk, .junk, .junk, .junk, .junk, .junk, .junk, .junk, .junk, .junk, .junk, .junk, .junk, .junk, .junk, .junk, .junk, .junk, .junk, .junk, .junk, .junk, .junk, .junk, .junk, .junk, .junk, .junk, .junk, .junk, .junk, .junk, .junk]) 11 9 (Nat.zero_le _) rfl rfl (by omega) (by simp only [PFrz_nil, PFrz_junk, PFrz_same]) (cj2 := (su.set a acc).map (slI false true .i64)) (PFrz_set (f := slI false true .i64) (by rw [List.length_map]; omega) (by rw [Nat.mul_one, psub_map])) rfl) ?_
            simp only [List.set_cons_zero, List.set_cons_succ]
            refine SemW_re (GStep.freezeIn (b := [.junk, .junk, .junk, .junk, .junk, .junk, .junk, .junk, .junk, .ptr 1 0 0, .junk, p8 p, .junk, .junk, .junk, .ptr 6 0 0, p64 0, .ptr 10 0 0, .junk, .junk, .junk, .junk, .junk, .junk, .junk, .junk, .junk, .junk, .junk, .junk, .junk, .junk, .junk, .junk, .junk, .junk, .junk, .junk, .junk, .junk, .junk, .junk, .junk, .junk, .junk, .junk, .junk, .junk, .junk, .junk, .junk, .junk, .junk, .junk, .junk, .junk, .junk, .junk, .junk, .junk, .junk, .junk, .junk, .junk, .junk, .junk, .junk, .junk, .junk, .junk, .junk, .junk, .junk, .junk, .junk, .junk, .junk, .junk, .junk, .junk, .junk, .junk, .junk, .junk, .junk, .junk, .junk, .junk, .junk, .junk, .junk, .junk, .junk, .junk, .junk, .junk, .junk, .junk, .junk, .junk, .junk, .junk, .junk, .junk, .junk, .junk, .junk, .junk, .junk, .junk, .junk, .junk, .junk, .junk, .junk, .junk, .junk, .junk, .junk, .junk, .junk, .junk, .junk, .junk, .junk, .junk, .junk, .junk, .junk, .junk, .junk, .junk, .junk, .junk, .junk, .junk, .junk, .junk, .junk, .junk, .junk, .junk, .junk, .junk, .junk, .junk, .junk, .junk, .junk, .junk, .junk, .junk, .junk, .junk, .junk, .junk, .junk, .junk, .junk, .junk, .junk, .junk, .junk, .junk, .junk, .junk, .junk, .junk, .junk, .junk, .junk, .junk, .junk, .junk, .junk, .junk, .junk, .junk, .junk, .junk, .junk, .junk, .junk, .junk, .junk, .junk, .junk, .junk, .junk, .junk, .junk, .junk, .junk]) 9 10 (Nat.zero_le _) rfl rfl (by omega) (by simp only [PFrz_nil, PFrz_junk, PFrz_same]) (cj2 := [slI false true .u8 ow1, slI false true .i64 pr, slR false true false true .i64 (su.set a acc)]) (by
              show PFrz 9 g _ [slI false true .u8 ow1, slI false true .i64 pr, .ref 9 g 1 0 su.length] _
              rw [PFrz_same, PFrz_same, PFrz_ref (by rw [List.length_map]; omega) (by rw [Nat.mul_one, psub_all _ _ (by rw [List.length_map]; exact hlS.symm)]; unfold slR; rw [hlS])]
              simp only [PFrz_nil]) rfl) ?_
            simp only [List.set_cons_zero, List.set_cons_succ]
            refine SemW_seq (SemW_of ?_)
            simp only [PP, P1, P2, P3, P4, P5, P6, P7, P8, P9, P10, P11, P12, P13, P14, L1, P15, N1, N2, N3, N4, N5, N6, N7, I1, I2, I3, I4, I5, I6, I7, reduceIte, reduceCtorEq]
            refine solve_p T B2 ho1 (fun c => absurd (check_of V2) c) (fun c4 ws2 ss2 LB => ?_)
            have lw2 : ws2.length = ow.length := by rw [LB.lw, hl1]
            have sA := LA.sol
            have sB := LB.sol
            rw [hl1] at sA sB
            have k1 := IsSol.given (valid_O V ho) (valid_S V) L.sol sA hp01 (at' := a) (by show ow1.getD a 0 = p; rw [hget1 a han, if_pos rfl]) (fun w hw hne => by show ow1.getD w 0 = ow.getD w 0; rw [hget1 w hw, if_neg hne])
            have k2 := IsSol.more (fun w hw => valid_O V1 ho1 w (by rw [hl1]; exact hw)) sA sB hp01 (at' := a) (by show ow1.getD a 0 = p; rw [hget1 a han, if_pos rfl]) hsub hsame
            simp only [PP, P1, P2, P3, P4, P5, P6, P7, P8, P9, P10, P11, P12, P13, P14, L1, P15, N1, N2, N3, N4, N5, N6, N7, I1, I2, I3, I4, I5, I6, I7, reduceIte, reduceCtorEq]
            refine SemW_seq (SemW_of ?_)
            simp only [PP, P1, P2, P3, P4, P5, P6, P7, P8, P9, P10, P11, P12, P13, P14, L1, P15, N1, N2, N3, N4, N5, N6, N7, I1, I2, I3, I4, I5, I6, I7, reduceIte, reduceCtorEq, lw, lw1, lw2]
            refine SemW_of ?_
            simp only [PP, P1, P2, P3, P4, P5, P6, P7, P8, P9, P10, P11, P12, P13, P14, L1, P15, N1, N2, N3, N4, N5, N6, N7, I1, I2, I3, I4, I5, I6, I7, reduceIte, reduceCtorEq]
            refine loop1 (fun (k : Nat) => k ≤ ow.length) (fun k => [.junk, .junk, .junk, .junk, .junk, .junk, .junk, .junk, .junk, .ptr 1 0 0, .junk, p8 p, .junk, .junk, .junk, .ptr 6 0 0, .junk, .junk, .junk, .junk, .ptr 12 0 0, .junk, p64 k, .junk, .junk, .junk, .junk, .junk, .junk, .junk, .junk, .junk, .junk, .junk, .junk, .junk, .junk, .junk, .junk, .junk, .junk, .junk, .junk, .junk, .junk, .junk, .junk, .junk, .junk, .junk, .junk, .junk, .junk, .junk, .junk, .junk, .junk, .junk, .junk, .junk, .junk, .junk, .junk, .junk, .junk, .junk, .junk, .junk, .junk, .junk, .junk, .junk, .junk, .junk, .junk, .junk, .junk, .junk, .junk, .junk, .junk, .junk, .junk, .junk, .junk, .junk, .junk, .junk, .junk, .junk, .junk, .junk, .junk, .junk, .junk, .junk, .junk, .junk, .junk, .junk, .junk, .junk, .junk, .junk, .junk, .junk, .junk, .junk, .junk, .junk, .junk, .junk, .junk, .junk, .junk, .junk, .junk, .junk, .junk, .junk, .junk, .junk, .junk, .junk, .junk, .junk, .junk, .junk, .junk, .junk, .junk, .junk, .junk, .junk, .junk, .junk, .junk, .junk, .junk, .junk, .junk, .junk, .junk, .junk, .junk, .junk, .junk, .junk, .junk, .junk, .junk, .junk, .junk, .junk, .junk, .junk, .junk, .junk, .junk, .junk, .junk, .junk, .junk, .junk, .junk, .junk, .junk, .junk, .junk, .junk, .junk, .junk, .junk, .junk, .junk, .junk, .junk, .junk, .junk, .junk, .junk, .junk, .junk, .junk, .junk, .junk, .junk, .junk, .junk, .junk, .junk, .junk, .junk]) (fun _ => [.cells 0 0 [slI false false .u8 ow, slI false false .i64 pr, slR false false false false .i64 su], .cells 0 1 [slI false true .u8 ws, slI false true .i64 ss], .cells 0 0 [slI false false .u8 ow, slI false false .i64 pr, slR false false false false .i64 su], .cells 0 1 [.ref 4 0 1 0 ow.length, slI false true .i64 pr, slR false true false true .i64 su], .gone, .cells 0 1 [slI false true .u8 ow1, slI false true .i64 pr, slR false true false true .i64 su], .cells 0 1 [slI false true .u8 ws1, slI false true .i64 ss1], .cells 0 0 [slI false true .u8 ow1, slI false true .i64 pr, slR false true false true .i64 su], .cells 0 1 [slI false true .u8 ow1, slI false true .i64 pr, .ref 9 g 1 0 su.length], .gone, .cells 0 1 [slI false true .u8 ow1, slI false true .i64 pr, slR false true false true .i64 (su.set a acc)], .gone, .cells 0 1 [slI false true .u8 ws2, slI false true .i64 ss2]]) (fun k => ow.length - k) 0 (by omega) (by simp only [PWeak_nil, PWeak_junk, PWeak_same, Int.cast_ofNat_Int, List.length_append, List.length_cons, List.length_nil, Nat.zero_add]) rfl ?_
            intro k hkl ih3
            refine SemW_go (by kernel_rfl) ?_
            simp only [PP, P1, P2, P3, P4, P5, P6, P7, P8, P9, P10, P11, P12, P13, P14, L1, P15, N1, N2, N3, N4, N5, N6, N7, I1, I2, I3, I4, I5, I6, I7, reduceIte, reduceCtorEq, lw]
            refine QIf.intro (fun d => ?_) (fun d => ?_)
            · have hk : k < ow.length := by omega
              have k0 : (0 : Int) ≤ k := by omega
              have kn : (k : Int) < ow.length := by omega
              have hwk := wrap_succ (k := k) (by show _ < 1000000000000; omega)
              obtain ⟨x, e1⟩ := some_of (xs := ws) (k := k) (by omega)
              obtain ⟨y, e2⟩ := some_of (xs := ws1) (k := k) (by omega)
              obtain ⟨z, e3⟩ := some_of (xs := ws2) (k := k) (by omega)
              have j1 := k1 k hk
              have j2 := k2 k hk
              simp only [getD_some e1, getD_some e2, getD_some e3] at j1 j2
              simp only [PP, P1, P2, P3, P4, P5, P6, P7, P8, P9, P10, P11, P12, P13, P14, L1, P15, N1, N2, N3, N4, N5, N6, N7, I1, I2, I3, I4, I5, I6, I7, reduceIte, reduceCtorEq, d, k0, kn, e1, e2, e3, lw, lw1, lw2]
              by_cases r1 : x = p
              · have r2 := j1 r1
                have r3 := j2 r2
                simp only [PP, P1, P2, P3, P4, P5, P6, P7, P8, P9, P10, P11, P12, P13, P14, L1, P15, N1, N2, N3, N4, N5, N6, N7, I1, I2, I3, I4, I5, I6, I7, reduceIte, reduceCtorEq, eq_true r1, eq_true r2, eq_true r3, k0, kn, e1, e2, e3, lw, lw1, lw2, hwk]
                exact SemW_weak (ih3 (k + 1) (by omega) (by omega)) (by simp only [PWeak_nil, PWeak_junk, PWeak_same, Int.cast_ofNat_Int, List.length_append, List.length_cons, List.length_nil, Nat.zero_add])
              · by_cases r2 : y = p
                · have r3 := j2 r2
                  simp only [PP, P1, P2, P3, P4, P5, P6, P7, P8, P9, P10, P11, P12, P13, P14, L1, P15, N1, N2, N3, N4, N5, N6, N7, I1, I2, I3, I4, I5, I6, I7, reduceIte, reduceCtorEq, eq_false r1, eq_true r2, eq_true r3, k0, kn, e1, e2, e3, lw, lw1, lw2, hwk]
                  exact SemW_weak (ih3 (k + 1) (by omega) (by omega)) (by simp only [PWeak_nil, PWeak_junk, PWeak_same, Int.cast_ofNat_Int, List.length_append, List.length_cons, List.length_nil, Nat.zero_add])
                · simp only [PP, P1, P2, P3, P4, P5, P6, P7, P8, P9, P10, P11, P12, P13, P14, L1, P15, N1, N2, N3, N4, N5, N6, N7, I1, I2, I3, I4, I5, I6, I7, reduceIte, reduceCtorEq, eq_false r1, eq_false r2, k0, kn, e1, e2, e3, lw, lw1, lw2, hwk]
                  exact SemW_weak (ih3 (k + 1) (by omega) (by omega)) (by simp only [PWeak_nil, PWeak_junk, PWeak_same, Int.cast_ofNat_Int, List.length_append, List.length_cons, List.length_nil, Nat.zero_add])
            · simp only [PP, P1, P2, P3, P4, P5, P6, P7, P8, P9, P10, P11, P12, P13, P14, L1, P15, N1, N2, N3, N4, N5, N6, N7, I1, I2, I3, I4, I5, I6, I7, reduceIte, reduceCtorEq, d]
end
end Go.Am.Ar
set_option linter.unusedVariables false
set_option linter.unusedSimpArgs false
namespace Go.Am.Ar
abbrev gameTy : Ty := .pair (.slice (.int .u8)) (.pair (.slice (.int .i64)) (.pair (.slice (.slice (.int .i64))) .unit))
structure Nums (ow pr : List Int) (su : List (List Int)) : Prop where
  o : ∀ x ∈ ow, 0 ≤ x ∧ x ≤ 255
  p : ∀ x ∈ pr, -9223372036854775808 ≤ x ∧ x ≤ 9223372036854775807
  s : ∀ r ∈ su, ∀ x ∈ r, -9223372036854775808 ≤ x ∧ x ≤ 9223372036854775807
  lo : ow.length ≤ 9223372036854775807
  lp : pr.length ≤ 9223372036854775807
  ls : su.length ≤ 9223372036854775807
  lr : ∀ r ∈ su, r.length ≤ 9223372036854775807
theorem arg_game {v : AV} {h : H} (hs : ShV gameTy v h) : ∃ (ow pr : List Int) (su : List (List Int)), RepV (wH h) (gmP false false false false false false false false ow pr su) v ∧ Nums ow pr su := by
  obtain ⟨avs, hs, rfl⟩ := hs
  obtain ⟨c1, c2, rfl, h1, c3, c4, rfl, h2, c5, c6, rfl, h3, h4⟩ := hs
  have h4 : c6 = [] := h4
  subst h4
  obtain ⟨vo, ow, rfl, p1, q1, r1⟩ := sh_intsP h1
  obtain ⟨vp, pr, rfl, p2, q2, r2⟩ := sh_intsP h2
  obtain ⟨vs, su, rfl, p3, q3, r3⟩ := sh_rowsP h3
  refine ⟨ow, pr, su, ?_, ⟨r1, r2, fun r hr => (r3 r hr).2, q1, q2, q3, fun r hr => (r3 r hr).1⟩⟩
  have := RepL.cons p1 (.cons p2 (.cons p3 (.nil (wH h))))
  exact .agg this.len this.get
theorem arg_ints {k : IntKind} {v : AV} {h : H} (hs : ShV (.slice (.int k)) v h) : ∃ (xs : List Int), RepV (wH h) (slI false false k xs) v ∧ xs.length ≤ 9223372036854775807 ∧ ∀ x ∈ xs, k.min ≤ x ∧ x ≤ k.max := by
  obtain ⟨avs, hs, rfl⟩ := hs
  obtain ⟨v, xs, rfl, p, q, r⟩ := sh_intsP hs
  exact ⟨xs, p, q, r⟩
theorem arg_int {k : IntKind} {v : AV} {h : H} (hs : ShV (.int k) v h) : ∃ (x : Int), v = .int k x ∧ RepV (wH h) (.int k x) v ∧ k.min ≤ x ∧ x ≤ k.max := by
  obtain ⟨avs, hs, rfl⟩ := hs
  obtain ⟨x, rfl, p⟩ := hs
  exact ⟨x, rfl, .int k x, p⟩
theorem run_of_C {tab : FuncId → Option AF} {g : FuncId} {args : List AV} {h : H} (hc : C (lim tab) g args h fun v _ => v = .bool true) : ∃ n h', (run tab n).call g args h = some (.bool true, h') := by
  unfold C at hc
  obtain ⟨v, h', he, rfl⟩ := hc
  obtain ⟨n, hn⟩ := (lim_call_iff tab).1 he
  exact ⟨n, h', hn⟩
theorem shVs1 {A : Ty} {args : List AV} {h : H} (hs : ShVs [A] args h) : ∃ a, args = [a] ∧ ShV A a h := by
  match args, hs with
  | [a], ⟨h1, _⟩ => exact ⟨a, rfl, h1⟩
theorem shVs2 {A B : Ty} {args : List AV} {h : H} (hs : ShVs [A, B] args h) : ∃ a b, args = [a, b] ∧ ShV A a h ∧ ShV B b h := by
  match args, hs with
  | [a, b], ⟨h1, h2, _⟩ => exact ⟨a, b, rfl, h1, h2⟩
theorem shVs3 {A B D : Ty} {args : List AV} {h : H} (hs : ShVs [A, B, D] args h) : ∃ a b d, args = [a, b, d] ∧ ShV A a h ∧ ShV B b h ∧ ShV D d h := by
  match args, hs with
  | [a, b, d], ⟨h1, h2, h3, _⟩ => exact ⟨a, b, d, rfl, h1, h2, h3⟩
theorem shVs4 {A B D E : Ty} {args : List AV} {h : H} (hs : ShVs [A, B, D, E] args h) : ∃ a b d e, args = [a, b, d, e] ∧ ShV A a h ∧ ShV B b h ∧ ShV D d h ∧ ShV E e h := by
  match args, hs with
  | [a, b, d, e], ⟨h1, h2, h3, h4, _⟩ => exact ⟨a, b, d, e, rfl, h1, h2, h3, h4⟩
theorem shVs5 {A B D E F : Ty} {args : List AV} {h : H} (hs : ShVs [A, B, D, E, F] args h) : ∃ a b d e f, args = [a, b, d, e, f] ∧ ShV A a h ∧ ShV B b h ∧ ShV D d h ∧ ShV E e h ∧ ShV F f h := by
  match args, hs with
  | [a, b, d, e, f], ⟨h1, h2, h3, h4, h5, _⟩ => exact ⟨a, b, d, e, f, rfl, h1, h2, h3, h4, h5⟩
end Go.Am.Ar
set_option linter.unusedVariables false
namespace Go.Am.Ar
theorem zmono_all {tab : FuncId → Option AF} (T : HasA tab) (args : List AV) (h : H) (hs : ShVs [gameTy, .int .u8, .int .u8, .int .u8] args h) :
    ∃ n h', (run tab n).call 4 args h = some (.bool true, h') := by
  obtain ⟨a, b, c, d, rfl, ha, hb, hc, hd⟩ := shVs4 hs
  obtain ⟨ow, pr, su, r1, N⟩ := arg_game ha
  obtain ⟨v, rfl, r2, v0, v1⟩ := arg_int hb
  obtain ⟨u, rfl, r3, u0, u1⟩ := arg_int hc
  obtain ⟨pl, rfl, r4, l0, l1⟩ := arg_int hd
  exact run_of_C (law_of_sem (.cons r1 (.cons r2 (.cons r3 (.cons r4 (.nil _))))) (zmono_p T (fun x hx => (N.o x hx).1) v0 v1 u0 u1 l0 l1))
end Go.Am.Ar
