/- Contract: a refutation of a player's part (certify.refute), and what goes with it. -/
import Derived.Test.YtkbdnbmnopmhdaaCertifyRejectsG4
import Derived.Test.YtkbdnbmnopmhdaaCertifyRejectsG1
import Derived.Test.YtkbdnbmnopmhdaaCertifyRejectsG3
set_option linter.unusedVariables false
set_option linter.unusedSimpArgs false
set_option maxRecDepth 10000
namespace Go.Am.Ar
open Go.Am renaming pchk → P1, pold → P2, PKNo → P3, ppack → P4, PObj.under → P5, pput → P6, ptset → P7, ptget → P8, pev → P9, ofAV → P10, ofAV1 → P11, ppad → P12, pfill → P13, prepl → P14, AO.effect → P15
open List renaming replicate → L1
open Nat renaming reduceAdd → N1, reduceSub → N2, reduceMul → N3, reduceLT → N4, reduceLeDiff → N5, reduceEqDiff → N6, reduceBEq → N7
open Int renaming reduceToNat → I1, reduceLT → I2, reduceLE → I3, reduceEq → I4, reduceAdd → I5, reduceSub → I6, reduceNeg → I7
theorem Ch.mono {S : Nat → List Nat} {A A' : Nat → Prop} {u : Nat} (h : ∀ x, A x → A' x) : ∀ {c : List Nat}, Ch S A u c → Ch S A' u c
  | [], _ => trivial
  | [x], q => q
  | x :: y :: c, ⟨h1, h2, h3⟩ => ⟨h1, h y h2, Ch.mono h h3⟩
theorem Rch.mono' {E : Nat → Nat → Prop} {Q Q' : Nat → Prop} {v u : Nat} (hq : ∀ x, Q x → Q' x) (h : Rch E Q v u) : Rch E Q' v u := h.cond fun _ b _ q => hq b q
def LoopR (mv : List (List Int)) (pr : List Int) (p : Int) (w : Nat) (lc : List Nat) : Prop :=
  w < mv.length ∧ Ch (Sf mv) (fun x => zP pr x ≤ zP pr w) w (w :: lc) ∧ lc.length + 1 ≤ mv.length ∧ zP pr w % 2 ≠ p
def StemR (mv : List (List Int)) (ws : List Int) (p : Int) (w : Nat) (stem : PV) : Prop :=
  (stem = .nils ∧ ws.getD w 0 = p) ∨ ∃ (v : Nat) (sc : List Nat), stem = slI false true .i64 (nI (v :: sc)) ∧ v < mv.length ∧ ws.getD v 0 = p ∧ ¬ ws.getD w 0 = p ∧ Ch (Sf mv) (fun _ => True) w (v :: sc) ∧ sc.length + 1 ≤ mv.length
theorem cer_in {ow pr ws ss : List Int} {su : List (List Int)} {p : Int} (F : FormP ow pr su ws ss) (B : Bnd ow pr su) : RowsIn (tabA ow.length (movC ow ws ss su p)) := by
  have : tabA ow.length (movF ow su p (tabA ow.length (ownF ow ws ss p))) = tabA ow.length (movC ow ws ss su p) := tabA_congr fun v hv => mov_eq F hv
  rw [← this]
  exact mov_in (valid_of F.c) B
theorem loop_ref {ow pr ws ss : List Int} {su : List (List Int)} {p : Int} {w : Nat} {lc : List Nat} {stem : PV} (hl : LoopR (tabA ow.length (movC ow ws ss su p)) pr p w lc) (hs : StemR (tabA ow.length (movC ow ws ss su p)) ws p w stem) : RefP ow pr ws ss su p := by
  obtain ⟨h1, h2, h3, h4⟩ := hl
  rw [tabA_len] at h1
  refine ⟨w, h1, ?_, h4, h2.rch (Int.le_refl _)⟩
  rcases hs with ⟨_, q⟩ | ⟨v, sc, _, q1, q2, _, q3, _⟩
  · exact ⟨w, h1, q, .inl rfl⟩
  · rw [tabA_len] at q1
    exact ⟨v, q1, q2, .inr (q3.rch trivial)⟩
section
variable {tab : FuncId → Option AF} (T : HasA tab)
include T
set_option maxHeartbeats 2000000 in
theorem refute_p {M : Mem} {K : PV → Mem → Prop} {f1 o1 f2 o2 f3 o3 f4 o4 f5 o5 f6 o6 : Bool} {ow pr ws ss : List Int} {su : List (List Int)} {p : Int} (B : Bnd ow pr su) (F : FormP ow pr su ws ss) (hp : p = 0 ∨ p = 1)
    (hk1 : ¬ RefP ow pr ws ss su p → K (.tuple [.nils, .nils]) M)
    (hk2 : ∀ (w : Nat) (lc : List Nat) (stem : PV), LoopR (tabA ow.length (movC ow ws ss su p)) pr p w lc → StemR (tabA ow.length (movC ow ws ss su p)) ws p w stem → K (.tuple [stem, slI false true .i64 (nI (w :: lc))]) M) :
    SemC tab 34 [gmP f1 o1 f2 o2 f3 o3 f4 o4 ow pr su, .agg (sC f5 o5 f6 o6 ws ss), p8 p] M K := by
  have V := valid_of F.c
  have n1 := V.n1
  have hs := V.s
  have hpl := V.p
  have lw := F.lw
  have ls := F.ls
  have hwp : IntKind.i64.wrap p = p := wrap64 (by omega) (by omega)
  have hF : ∀ v, v < ow.length → ∀ (M' : Mem) (K' : PV → Mem → Prop), K' (.bool (decide (ws.getD v 0 = p))) M' → SemC tab 56 (p64 v :: [.cp (sC f5 o5 f6 o6 ws ss) 0, .cp [p8 p] 0]) M' K' := fun v hv M' K' hK' => by
    have v0 : (0 : Int) ≤ v := by omega
    have vn : (v : Int) < ow.length := by omega
    obtain ⟨w, g2⟩ := some_of (xs := ws) (k := v) (by omega)
    rw [getD_some g2] at hK'
    refine SemC_pure T.h56 (by simp only [PP, P1, P2, P3, P4, P5, P6, P7, P8, P9, P10, P11, P12, P13, P14, L1, P15, N1, N2, N3, N4, N5, N6, N7, I1, I2, I3, I4, I5, I6, I7, reduceIte, reduceCtorEq, PV.under]) ?_
    simp only [af56, PP, P1, P2, P3, P4, P5, P6, P7, P8, P9, P10, P11, P12, P13, P14, L1, P15, N1, N2, N3, N4, N5, N6, N7, I1, I2, I3, I4, I5, I6, I7, reduceIte, reduceCtorEq, v0, vn, g2, lw]
    exact hK'
  have hA : ∀ (k : Nat), k < ow.length → ∀ v, v < ow.length → ∀ (M' : Mem) (K' : PV → Mem → Prop), K' (.bool (decide (pr.getD v 0 ≤ pr.getD k 0))) M' → SemC tab 58 (p64 v :: [.cp (gC f1 o1 f2 o2 f3 o3 f4 o4 ow pr su) 0, .cp [p64 k] 0]) M' K' := fun k hk v hv M' K' hK' => by
    have v0 : (0 : Int) ≤ v := by omega
    have vn : (v : Int) < ow.length := by omega
    have k0 : (0 : Int) ≤ k := by omega
    have kn : (k : Int) < ow.length := by omega
    obtain ⟨a, g1⟩ := some_of (xs := pr) (k := v) (by omega)
    obtain ⟨b, g2⟩ := some_of (xs := pr) (k := k) (by omega)
    rw [getD_some g1, getD_some g2] at hK'
    refine SemC_pure T.h58 (by simp only [PP, P1, P2, P3, P4, P5, P6, P7, P8, P9, P10, P11, P12, P13, P14, L1, P15, N1, N2, N3, N4, N5, N6, N7, I1, I2, I3, I4, I5, I6, I7, reduceIte, reduceCtorEq, PV.under]) ?_
    simp only [af58, PP, P1, P2, P3, P4, P5, P6, P7, P8, P9, P10, P11, P12, P13, P14, L1, P15, N1, N2, N3, N4, N5, N6, N7, I1, I2, I3, I4, I5, I6, I7, reduceIte, reduceCtorEq, v0, vn, k0, kn, g1, g2, hpl]
    exact hK'
  have hT : ∀ (k : Nat), ∀ v, ∀ (M' : Mem) (K' : PV → Mem → Prop), K' (.bool (decide (v = k))) M' → SemC tab 59 (p64 v :: [.cp [p64 k] 0]) M' K' := fun k v M' K' hK' => by
    refine SemC_pure T.h59 (by simp only [PP, P1, P2, P3, P4, P5, P6, P7, P8, P9, P10, P11, P12, P13, P14, L1, P15, N1, N2, N3, N4, N5, N6, N7, I1, I2, I3, I4, I5, I6, I7, reduceIte, reduceCtorEq, PV.under]) ?_
    simp only [af59, PP, P1, P2, P3, P4, P5, P6, P7, P8, P9, P10, P11, P12, P13, P14, L1, P15, N1, N2, N3, N4, N5, N6, N7, I1, I2, I3, I4, I5, I6, I7, reduceIte, reduceCtorEq]
    rw [decide_eq_decide.2 (show (v : Int) = k ↔ v = k by omega)]
    exact hK'
  have hU : ∀ v : Nat, ∀ (M' : Mem) (K' : PV → Mem → Prop), K' (.bool true) M' → SemC tab 61 (p64 v :: []) M' K' := fun v M' K' hK' => by
    refine SemC_pure T.h61 (by simp only [PP, P1, P2, P3, P4, P5, P6, P7, P8, P9, P10, P11, P12, P13, P14, L1, P15, N1, N2, N3, N4, N5, N6, N7, I1, I2, I3, I4, I5, I6, I7, reduceIte, reduceCtorEq, PV.under]) ?_
    simp only [af61, PP, P1, P2, P3, P4, P5, P6, P7, P8, P9, P10, P11, P12, P13, P14, L1, P15, N1, N2, N3, N4, N5, N6, N7, I1, I2, I3, I4, I5, I6, I7, reduceIte, reduceCtorEq]
    exact hK'
  refine SemC_pureS T.h34 (by simp only [PP, P1, P2, P3, P4, P5, P6, P7, P8, P9, P10, P11, P12, P13, P14, L1, P15, N1, N2, N3, N4, N5, N6, N7, I1, I2, I3, I4, I5, I6, I7, reduceIte, reduceCtorEq, PV.under]) ?_
  simp only [af34]
  refine SemW_seq (SemW_of ?_)
  simp only [PP, P1, P2, P3, P4, P5, P6, P7, P8, P9, P10, P11, P12, P13, P14, L1, P15, N1, N2, N3, N4, N5, N6, N7, I1, I2, I3, I4, I5, I6, I7, reduceIte, reduceCtorEq]
  refine SemW_re (GStep.freezeP (b := [.junk, .junk, .junk, .cp (gC f1 o1 f2 o2 f3 o3 f4 o4 ow pr su) 0, .ptr 1 0 0, .ptr 2 0 0, .nils, .nils, .junk, .junk, .junk, .junk, .junk, .junk, .junk, .junk, .junk, .junk, .junk, .junk, .junk, .junk, .junk, .junk, .junk, .junk, .junk, .junk, .junk, .junk, .junk, .junk, .junk, .junk, .junk, .junk, .junk, .junk, .junk, .junk, .junk, .junk, .junk, .junk, .junk, .junk, .junk, .junk, .junk, .junk, .junk, .junk, .junk, .junk, .junk, .junk, .junk, .junk, .junk, .junk, .junk, .junk, .junk, .junk, .junk, .junk, .junk, .junk, .junk, .junk, .junk, .junk, .junk, .junk, .junk, .junk, .junk, .junk, .junk, .junk, .junk, .junk, .junk, .junk, .junk, .junk]) 0 (Nat.zero_le _) rfl (by simp only [PFrzP_nil, PFrzP_junk, PFrzP_same, PFrzP_ptr]) rfl) ?_
  refine SemW_re (GStep.freezeP (b := [.junk, .junk, .junk, .cp (gC f1 o1 f2 o2 f3 o3 f4 o4 ow pr su) 0, .cp (sC f5 o5 f6 o6 ws ss) 0, .ptr 2 0 0, .nils, .nils, .junk, .junk, .junk, .junk, .junk, .junk, .junk, .junk, .junk, .junk, .junk, .junk, .junk, .junk, .junk, .junk, .junk, .junk, .junk, .junk, .junk, .junk, .junk, .junk, .junk, .junk, .junk, .junk, .junk, .junk, .junk, .junk, .junk, .junk, .junk, .junk, .junk, .junk, .junk, .junk, .junk, .junk, .junk, .junk, .junk, .junk, .junk, .junk, .junk, .junk, .junk, .junk, .junk, .junk, .junk, .junk, .junk, .junk, .junk, .junk, .junk, .junk, .junk, .junk, .junk, .junk, .junk, .junk, .junk, .junk, .junk, .junk, .junk, .junk, .junk, .junk, .junk, .junk]) 1 (Nat.zero_le _) rfl (by simp only [PFrzP_nil, PFrzP_junk, PFrzP_same, PFrzP_ptr]) rfl) ?_
  refine SemW_re (GStep.freezeP (b := [.junk, .junk, .junk, .cp (gC f1 o1 f2 o2 f3 o3 f4 o4 ow pr su) 0, .cp (sC f5 o5 f6 o6 ws ss) 0, .cp [p8 p] 0, .nils, .nils, .junk, .junk, .junk, .junk, .junk, .junk, .junk, .junk, .junk, .junk, .junk, .junk, .junk, .junk, .junk, .junk, .junk, .junk, .junk, .junk, .junk, .junk, .junk, .junk, .junk, .junk, .junk, .junk, .junk, .junk, .junk, .junk, .junk, .junk, .junk, .junk, .junk, .junk, .junk, .junk, .junk, .junk, .junk, .junk, .junk, .junk, .junk, .junk, .junk, .junk, .junk, .junk, .junk, .junk, .junk, .junk, .junk, .junk, .junk, .junk, .junk, .junk, .junk, .junk, .junk, .junk, .junk, .junk, .junk, .junk, .junk, .junk, .junk, .junk, .junk, .junk, .junk, .junk]) 2 (Nat.zero_le _) rfl (by simp only [PFrzP_nil, PFrzP_junk, PFrzP_same, PFrzP_ptr]) rfl) ?_
  refine SemW_re (GStep.drop (b := [.junk, .junk, .junk, .cp (gC f1 o1 f2 o2 f3 o3 f4 o4 ow pr su) 0, .cp (sC f5 o5 f6 o6 ws ss) 0, .cp [p8 p] 0, .nils, .nils, .junk, .junk, .junk, .junk, .junk, .junk, .junk, .junk, .junk, .junk, .junk, .junk, .junk, .junk, .junk, .junk, .junk, .junk, .junk, .junk, .junk, .junk, .junk, .junk, .junk, .junk, .junk, .junk, .junk, .junk, .junk, .junk, .junk, .junk, .junk, .junk, .junk, .junk, .junk, .junk, .junk, .junk, .junk, .junk, .junk, .junk, .junk, .junk, .junk, .junk, .junk, .junk, .junk, .junk, .junk, .junk, .junk, .junk, .junk, .junk, .junk, .junk, .junk, .junk, .junk, .junk, .junk, .junk, .junk, .junk, .junk, .junk, .junk, .junk, .junk, .junk, .junk, .junk]) 0 (Nat.zero_le _) (by simp) (by simp only [PWeak_nil, PWeak_junk, PWeak_same, Int.cast_ofNat_Int, List.length_append, List.length_cons, List.length_nil, Nat.zero_add]) (by simp only [PP, P1, P2, P3, P4, P5, P6, P7, P8, P9, P10, P11, P12, P13, P14, L1, P15, N1, N2, N3, N4, N5, N6, N7, I1, I2, I3, I4, I5, I6, I7, reduceIte, reduceCtorEq, PV.under]) rfl rfl) ?_
  refine SemW_of ?_
  simp only [PP, P1, P2, P3, P4, P5, P6, P7, P8, P9, P10, P11, P12, P13, P14, L1, P15, N1, N2, N3, N4, N5, N6, N7, I1, I2, I3, I4, I5, I6, I7, reduceIte, reduceCtorEq]
  refine moves33_p T B hs lw ls ?_
  have R := cer_in (p := p) F B
  have hRef : RefP ow pr ws ss su p ↔ ∃ w, w < ow.length ∧ (∃ v, v < ow.length ∧ ws.getD v 0 = p ∧ (w = v ∨ Rch (fun a b => b ∈ Sf (tabA ow.length (movC ow ws ss su p)) a) (fun _ => True) v w)) ∧ Bad (fun a b => b ∈ Sf (tabA ow.length (movC ow ws ss su p)) a) (zP pr) p w := Iff.rfl
  have lmv : (tabA ow.length (movC ow ws ss su p)).length = ow.length := tabA_len _ _
  revert R hRef hk2 lmv
  generalize tabA ow.length (movC ow ws ss su p) = mv
  intro hk2 R hRef lmv
  rw [hRef] at hk1
  simp only [PP, P1, P2, P3, P4, P5, P6, P7, P8, P9, P10, P11, P12, P13, P14, L1, P15, N1, N2, N3, N4, N5, N6, N7, I1, I2, I3, I4, I5, I6, I7, reduceIte, reduceCtorEq]
  refine reach33_p T R (F := fun v => decide (ws.getD v 0 = p)) (by simp only [PP, P1, P2, P3, P4, P5, P6, P7, P8, P9, P10, P11, P12, P13, P14, L1, P15, N1, N2, N3, N4, N5, N6, N7, I1, I2, I3, I4, I5, I6, I7, reduceIte, reduceCtorEq, PV.under]) (fun v hv => hF v (by omega)) fun sn lsn hsn => ?_
  simp only [PP, P1, P2, P3, P4, P5, P6, P7, P8, P9, P10, P11, P12, P13, P14, L1, P15, N1, N2, N3, N4, N5, N6, N7, I1, I2, I3, I4, I5, I6, I7, reduceIte, reduceCtorEq]
  refine loop1 (fun (k : Nat) => k ≤ ow.length ∧ ∀ w, w < k → bm sn w → ¬ Bad (fun a b => b ∈ Sf mv a) (zP pr) p w)
    (fun k => [.junk, .junk, .junk, .cp (gC f1 o1 f2 o2 f3 o3 f4 o4 ow pr su) 0, .junk, .cp [p8 p] 0, .nils, .junk, slR false true true false .i64 mv, .func (.func 56) [] [.cp (sC f5 o5 f6 o6 ws ss) 0, .cp [p8 p] 0], .junk, .junk, .junk, .junk, .junk, .junk, .junk, .junk, .junk, .junk, .junk, .junk, .junk, .junk, .junk, slB false true sn, p64 sn.length, p64 k, .junk, .junk, .junk, .junk, .junk, .junk, .junk, .junk, .junk, .junk, .junk, .junk, .junk, .junk, .junk, .junk, .junk, .junk, .junk, .junk, .junk, .junk, .junk, .junk, .junk, .junk, .junk, .junk, .junk, .junk, .junk, .junk, .junk, .junk, .junk, .junk, .junk, .junk, .junk, .junk, .junk, .junk, .junk, .junk, .junk, .junk, .junk, .junk, .junk, .junk, .junk, .junk, .junk, .junk, .junk, .junk, .junk, .junk])
    (fun k => []) (fun k => ow.length - k) 0 ⟨by omega, by intro w h; omega⟩ (by simp only [PWeak_nil, PWeak_junk, PWeak_same, Int.cast_ofNat_Int, List.length_append, List.length_cons, List.length_nil, Nat.zero_add]) rfl ?_
  intro k ⟨hle, hbad⟩ ih
  refine SemW_loop (by kernel_rfl) (SemW_seq (SemW_of ?_))
  simp only [PP, P1, P2, P3, P4, P5, P6, P7, P8, P9, P10, P11, P12, P13, P14, L1, P15, N1, N2, N3, N4, N5, N6, N7, I1, I2, I3, I4, I5, I6, I7, reduceIte, reduceCtorEq]
  refine SemW_seq (SemW_of ?_)
  simp only [PP, P1, P2, P3, P4, P5, P6, P7, P8, P9, P10, P11, P12, P13, P14, L1, P15, N1, N2, N3, N4, N5, N6, N7, I1, I2, I3, I4, I5, I6, I7, reduceIte, reduceCtorEq]
  refine QIf.intro (fun c => ?_) (fun c => ?_)
  rotate_left
  · simp only [PP, P1, P2, P3, P4, P5, P6, P7, P8, P9, P10, P11, P12, P13, P14, L1, P15, N1, N2, N3, N4, N5, N6, N7, I1, I2, I3, I4, I5, I6, I7, reduceIte, reduceCtorEq, c]
    refine hk1 ?_
    rintro ⟨w, hw, ⟨v, hv, hwv, hvw⟩, hb⟩
    exact hbad w (by omega) ((hsn w).2 ⟨v, by omega, decide_eq_true hwv, hvw⟩) hb
  have hk' : k < ow.length := by omega
  have k0 : (0 : Int) ≤ k := by omega
  have kn : (k : Int) < ow.length := by omega
  have hwk := wrap_succ (k := k) (by show _ < 1000000000000; omega)
  obtain ⟨z, gz⟩ := some_of (xs := sn) (k := k) (by omega)
  obtain ⟨q, gq⟩ := some_of (xs := pr) (k := k) (by omega)
  have eq : zP pr k = q := getD_some gq
  have q0 : 0 ≤ q := (V.pri0 q (List.mem_of_getElem? gq)).1
  have hrem : q.tmod 2 = q % 2 := Int.tmod_eq_emod_of_nonneg q0
  simp only [PP, P1, P2, P3, P4, P5, P6, P7, P8, P9, P10, P11, P12, P13, P14, L1, P15, N1, N2, N3, N4, N5, N6, N7, I1, I2, I3, I4, I5, I6, I7, reduceIte, reduceCtorEq, c]
  refine SemW_seq (SemW_blk (SemW_seq (SemW_of ?_)))
  simp only [PP, P1, P2, P3, P4, P5, P6, P7, P8, P9, P10, P11, P12, P13, P14, L1, P15, N1, N2, N3, N4, N5, N6, N7, I1, I2, I3, I4, I5, I6, I7, reduceIte, reduceCtorEq, k0, c, gz]
  refine SemW_re (GStep.freezeP (b := [.junk, .junk, .junk, .cp (gC f1 o1 f2 o2 f3 o3 f4 o4 ow pr su) 0, .junk, .cp [p8 p] 0, .nils, .junk, slR false true true false .i64 mv, .func (.func 56) [] [.cp (sC f5 o5 f6 o6 ws ss) 0, .cp [p8 p] 0], .junk, .cp [p64 k] 0, .bool z, .junk, .junk, .junk, .junk, .junk, .junk, .junk, .junk, .junk, .junk, .junk, .junk, slB false true sn, p64 sn.length, p64 k, .junk, .junk, .junk, .junk, .junk, .junk, .junk, .junk, .junk, .junk, .junk, .junk, .junk, .junk, .junk, .junk, .junk, .junk, .junk, .junk, .junk, .junk, .junk, .junk, .junk, .junk, .junk, .junk, .junk, .junk, .junk, .junk, .junk, .junk, .junk, .junk, .junk, .junk, .junk, .junk, .junk, .junk, .junk, .junk, .junk, .junk, .junk, .junk, .junk, .junk, .junk, .junk, .junk, .junk, .junk, .junk, .junk, .junk]) 0 (Nat.zero_le _) rfl (by simp only [PFrzP_nil, PFrzP_junk, PFrzP_same, PFrzP_ptr]) rfl) ?_
  refine SemW_re (GStep.drop (b := [.junk, .junk, .junk, .cp (gC f1 o1 f2 o2 f3 o3 f4 o4 ow pr su) 0, .junk, .cp [p8 p] 0, .nils, .junk, slR false true true false .i64 mv, .func (.func 56) [] [.cp (sC f5 o5 f6 o6 ws ss) 0, .cp [p8 p] 0], .junk, .cp [p64 k] 0, .bool z, .junk, .junk, .junk, .junk, .junk, .junk, .junk, .junk, .junk, .junk, .junk, .junk, slB false true sn, p64 sn.length, p64 k, .junk, .junk, .junk, .junk, .junk, .junk, .junk, .junk, .junk, .junk, .junk, .junk, .junk, .junk, .junk, .junk, .junk, .junk, .junk, .junk, .junk, .junk, .junk, .junk, .junk, .junk, .junk, .junk, .junk, .junk, .junk, .junk, .junk, .junk, .junk, .junk, .junk, .junk, .junk, .junk, .junk, .junk, .junk, .junk, .junk, .junk, .junk, .junk, .junk, .junk, .junk, .junk, .junk, .junk, .junk, .junk, .junk, .junk]) 0 (Nat.zero_le _) (by simp) (by simp only [PWeak_nil, PWeak_junk, PWeak_same, Int.cast_ofNat_Int, List.length_append, List.length_cons, List.length_nil, Nat.zero_add]) (by simp only [PP, P1, P2, P3, P4, P5, P6, P7, P8, P9, P10, P11, P12, P13, P14, L1, P15, N1, N2, N3, N4, N5, N6, N7, I1, I2, I3, I4, I5, I6, I7, reduceIte, reduceCtorEq, PV.under]) rfl rfl) ?_
  refine SemW_of ?_
  have next : (bm sn k → ¬ Bad (fun a b => b ∈ Sf mv a) (zP pr) p k) → k + 1 ≤ ow.length ∧ ∀ w, w < k + 1 → bm sn w → ¬ Bad (fun a b => b ∈ Sf mv a) (zP pr) p w := fun h => ⟨hk', fun w hw hb => by
    by_cases e : w = k
    · subst e; exact h hb
    · exact hbad w (by omega) hb⟩
  cases z with
  | false =>
    simp only [PP, P1, P2, P3, P4, P5, P6, P7, P8, P9, P10, P11, P12, P13, P14, L1, P15, N1, N2, N3, N4, N5, N6, N7, I1, I2, I3, I4, I5, I6, I7, reduceIte, reduceCtorEq]
    refine SemW_of ?_
    simp only [PP, P1, P2, P3, P4, P5, P6, P7, P8, P9, P10, P11, P12, P13, P14, L1, P15, N1, N2, N3, N4, N5, N6, N7, I1, I2, I3, I4, I5, I6, I7, reduceIte, reduceCtorEq, hwk]
    exact SemW_weak (ih (k + 1) (next fun h => by rw [bm_of gz] at h; cases h) (by omega)) (by simp only [PWeak_nil, PWeak_junk, PWeak_same, Int.cast_ofNat_Int, List.length_append, List.length_cons, List.length_nil, Nat.zero_add])
  | true =>
    have hbk : bm sn k := (bm_of gz).2 rfl
    obtain ⟨v1, hv1, hv2, hv3⟩ := (hsn k).1 hbk
    simp only [PP, P1, P2, P3, P4, P5, P6, P7, P8, P9, P10, P11, P12, P13, P14, L1, P15, N1, N2, N3, N4, N5, N6, N7, I1, I2, I3, I4, I5, I6, I7, reduceIte, reduceCtorEq, k0, kn, gq, hpl, hwp, prem (show (2 : Int) ≠ 0 by decide), hrem]
    refine QIf.intro (fun d => ?_) (fun d => ?_)
    · simp only [PP, P1, P2, P3, P4, P5, P6, P7, P8, P9, P10, P11, P12, P13, P14, L1, P15, N1, N2, N3, N4, N5, N6, N7, I1, I2, I3, I4, I5, I6, I7, reduceIte, reduceCtorEq, d]
      refine SemW_of ?_
      simp only [PP, P1, P2, P3, P4, P5, P6, P7, P8, P9, P10, P11, P12, P13, P14, L1, P15, N1, N2, N3, N4, N5, N6, N7, I1, I2, I3, I4, I5, I6, I7, reduceIte, reduceCtorEq, hwk]
      exact SemW_weak (ih (k + 1) (next fun _ h => h.1 (by rw [eq]; exact d)) (by omega)) (by simp only [PWeak_nil, PWeak_junk, PWeak_same, Int.cast_ofNat_Int, List.length_append, List.length_cons, List.length_nil, Nat.zero_add])
    simp only [PP, P1, P2, P3, P4, P5, P6, P7, P8, P9, P10, P11, P12, P13, P14, L1, P15, N1, N2, N3, N4, N5, N6, N7, I1, I2, I3, I4, I5, I6, I7, reduceIte, reduceCtorEq, d]
    refine path_p T R (al := fun v => decide (pr.getD v 0 ≤ pr.getD k 0)) (to := fun v => decide (v = k)) (by omega) (by simp only [PP, P1, P2, P3, P4, P5, P6, P7, P8, P9, P10, P11, P12, P13, P14, L1, P15, N1, N2, N3, N4, N5, N6, N7, I1, I2, I3, I4, I5, I6, I7, reduceIte, reduceCtorEq, PV.under]) (by simp only [PP, P1, P2, P3, P4, P5, P6, P7, P8, P9, P10, P11, P12, P13, P14, L1, P15, N1, N2, N3, N4, N5, N6, N7, I1, I2, I3, I4, I5, I6, I7, reduceIte, reduceCtorEq, PV.under]) (fun v hv => hA k hk' v (by omega)) (fun v hv => hT k v) (fun hno => ?_) (fun lc x hx htx hax hch hlc => ?_)
    · simp only [PP, P1, P2, P3, P4, P5, P6, P7, P8, P9, P10, P11, P12, P13, P14, L1, P15, N1, N2, N3, N4, N5, N6, N7, I1, I2, I3, I4, I5, I6, I7, reduceIte, reduceCtorEq]
      refine SemW_of ?_
      simp only [PP, P1, P2, P3, P4, P5, P6, P7, P8, P9, P10, P11, P12, P13, P14, L1, P15, N1, N2, N3, N4, N5, N6, N7, I1, I2, I3, I4, I5, I6, I7, reduceIte, reduceCtorEq, hwk]
      exact SemW_weak (ih (k + 1) (next fun _ h => hno k (by omega) (decide_eq_true rfl) (h.2.mono' fun x hx => decide_eq_true hx)) (by omega)) (by simp only [PWeak_nil, PWeak_junk, PWeak_same, Int.cast_ofNat_Int, List.length_append, List.length_cons, List.length_nil, Nat.zero_add])
    · have hxk : x = k := of_decide_eq_true htx
      subst hxk
      have hL : LoopR mv pr p x lc := ⟨by omega, hch.mono fun x hx => of_decide_eq_true hx, hlc, by rw [eq]; exact d⟩
      have hk3 := fun stem hst => hk2 x lc stem hL hst
      obtain ⟨xl, hxl⟩ : ∃ xl, xl = nI (x :: lc) := ⟨_, rfl⟩
      have hx0 : ¬ xl.length = 0 := by rw [hxl]; simp
      rw [← hxl] at hk3 ⊢
      simp only [PP, P1, P2, P3, P4, P5, P6, P7, P8, P9, P10, P11, P12, P13, P14, L1, P15, N1, N2, N3, N4, N5, N6, N7, I1, I2, I3, I4, I5, I6, I7, reduceIte, reduceCtorEq, hx0]
      refine loop2 (fun (i : Nat) (st : PV) => i ≤ ow.length ∧ ((st = .nils ∧ ∀ v, v < i → ws.getD v 0 = p → v ≠ x → ¬ ws.getD x 0 = p → ¬ Rch (fun a b => b ∈ Sf mv a) (fun _ => True) v x) ∨ ∃ (v : Nat) (sc : List Nat), st = slI false true .i64 (nI (v :: sc)) ∧ v < mv.length ∧ ws.getD v 0 = p ∧ ¬ ws.getD x 0 = p ∧ Ch (Sf mv) (fun _ => True) x (v :: sc) ∧ sc.length + 1 ≤ mv.length))
        (fun i st => [.junk, .junk, .junk, .junk, .junk, .junk, st, slI false true .i64 xl, slR false true true false .i64 mv, .func (.func 56) [] [.cp (sC f5 o5 f6 o6 ws ss) 0, .cp [p8 p] 0], .junk, .cp [p64 x] 0, .junk, .junk, .func (.func 59) [] [.cp [p64 x] 0], .func (.func 61) [] [], .junk, .junk, .junk, .junk, .junk, .junk, .junk, .junk, .junk, .junk, .junk, .junk, .junk, .junk, .junk, .junk, .junk, .junk, .junk, .junk, .junk, .junk, .junk, .junk, .junk, .junk, .junk, .junk, .junk, .junk, .junk, .junk, .junk, .junk, .junk, .junk, .junk, .junk, .junk, p64 mv.length, p64 i, .junk, .junk, .junk, .junk, .junk, .junk, .junk, .junk, .junk, .junk, .junk, .junk, .junk, .junk, .junk, .junk, .junk, .junk, .junk, .junk, .junk, .junk, .junk, .junk, .junk, .junk, .junk, .junk, .junk])
        (fun i st => []) (fun i st => ow.length - i) 0 .nils ⟨by omega, .inl ⟨rfl, by intro v h; omega⟩⟩ (by simp only [PWeak_nil, PWeak_junk, PWeak_same, Int.cast_ofNat_Int, List.length_append, List.length_cons, List.length_nil, Nat.zero_add]) rfl ?_
      intro i st ⟨hle2, hst⟩ ih2
      have hwi := wrap_succ (k := i) (by show _ < 1000000000000; omega)
      rcases hst with ⟨rfl, hno⟩ | ⟨v, sc, rfl, w1, w2, w3, w4, w5⟩
      · refine SemW_go (by kernel_rfl) ?_
        simp only [PP, P1, P2, P3, P4, P5, P6, P7, P8, P9, P10, P11, P12, P13, P14, L1, P15, N1, N2, N3, N4, N5, N6, N7, I1, I2, I3, I4, I5, I6, I7, reduceIte, reduceCtorEq]
        refine QIf.intro (fun c2 => ?_) (fun c2 => ?_)
        · have hi : i < ow.length := by omega
          have nx : (ws.getD i 0 = p → i ≠ x → ¬ ws.getD x 0 = p → ¬ Rch (fun a b => b ∈ Sf mv a) (fun _ => True) i x) → ∀ v, v < i + 1 → ws.getD v 0 = p → v ≠ x → ¬ ws.getD x 0 = p → ¬ Rch (fun a b => b ∈ Sf mv a) (fun _ => True) v x := fun h v hv => by
            by_cases e : v = i
            · subst e; exact h
            · exact hno v (by omega)
          simp only [PP, P1, P2, P3, P4, P5, P6, P7, P8, P9, P10, P11, P12, P13, P14, L1, P15, N1, N2, N3, N4, N5, N6, N7, I1, I2, I3, I4, I5, I6, I7, reduceIte, reduceCtorEq, c2]
          refine hF i hi _ _ ?_
          by_cases d1 : ws.getD i 0 = p
          · rw [decide_eq_true d1]
            by_cases d2 : i = x
            · subst d2
              simp only [PP, P1, P2, P3, P4, P5, P6, P7, P8, P9, P10, P11, P12, P13, P14, L1, P15, N1, N2, N3, N4, N5, N6, N7, I1, I2, I3, I4, I5, I6, I7, reduceIte, reduceCtorEq, hwi]
              exact SemW_weak (ih2 (i + 1) .nils ⟨by omega, .inl ⟨rfl, nx fun _ h => absurd rfl h⟩⟩ (by omega)) (by simp only [PWeak_nil, PWeak_junk, PWeak_same, Int.cast_ofNat_Int, List.length_append, List.length_cons, List.length_nil, Nat.zero_add])
            · have d2' : ¬ (i : Int) = (x : Int) := by omega
              simp only [PP, P1, P2, P3, P4, P5, P6, P7, P8, P9, P10, P11, P12, P13, P14, L1, P15, N1, N2, N3, N4, N5, N6, N7, I1, I2, I3, I4, I5, I6, I7, reduceIte, reduceCtorEq, d2', hwi]
              refine hF x hk' _ _ ?_
              by_cases d3 : ws.getD x 0 = p
              · rw [decide_eq_true d3]
                simp only [PP, P1, P2, P3, P4, P5, P6, P7, P8, P9, P10, P11, P12, P13, P14, L1, P15, N1, N2, N3, N4, N5, N6, N7, I1, I2, I3, I4, I5, I6, I7, reduceIte, reduceCtorEq, hwi]
                exact SemW_weak (ih2 (i + 1) .nils ⟨by omega, .inl ⟨rfl, nx fun _ _ h => absurd d3 h⟩⟩ (by omega)) (by simp only [PWeak_nil, PWeak_junk, PWeak_same, Int.cast_ofNat_Int, List.length_append, List.length_cons, List.length_nil, Nat.zero_add])
              · rw [decide_eq_false d3]
                simp only [PP, P1, P2, P3, P4, P5, P6, P7, P8, P9, P10, P11, P12, P13, P14, L1, P15, N1, N2, N3, N4, N5, N6, N7, I1, I2, I3, I4, I5, I6, I7, reduceIte, reduceCtorEq, hwi]
                refine path_p T R (al := fun v => true) (to := fun v => decide (v = x)) (by omega) (by simp only [PP, P1, P2, P3, P4, P5, P6, P7, P8, P9, P10, P11, P12, P13, P14, L1, P15, N1, N2, N3, N4, N5, N6, N7, I1, I2, I3, I4, I5, I6, I7, reduceIte, reduceCtorEq, PV.under]) (by simp only [PP, P1, P2, P3, P4, P5, P6, P7, P8, P9, P10, P11, P12, P13, P14, L1, P15, N1, N2, N3, N4, N5, N6, N7, I1, I2, I3, I4, I5, I6, I7, reduceIte, reduceCtorEq, PV.under]) (fun v hv => hU v) (fun v hv => hT x v) (fun hno => ?_) (fun sc y hy hty hay hcy hls => ?_)
                · simp only [PP, P1, P2, P3, P4, P5, P6, P7, P8, P9, P10, P11, P12, P13, P14, L1, P15, N1, N2, N3, N4, N5, N6, N7, I1, I2, I3, I4, I5, I6, I7, reduceIte, reduceCtorEq, hwi]
                  exact SemW_weak (ih2 (i + 1) .nils ⟨by omega, .inl ⟨rfl, nx fun _ _ _ h => hno x (by omega) (decide_eq_true rfl) (h.mono' fun _ _ => rfl)⟩⟩ (by omega)) (by simp only [PWeak_nil, PWeak_junk, PWeak_same, Int.cast_ofNat_Int, List.length_append, List.length_cons, List.length_nil, Nat.zero_add])
                · have hyx : y = x := of_decide_eq_true hty
                  subst hyx
                  obtain ⟨yl, hyl⟩ : ∃ yl, yl = nI (i :: sc) := ⟨_, rfl⟩
                  rw [← hyl]
                  simp only [PP, P1, P2, P3, P4, P5, P6, P7, P8, P9, P10, P11, P12, P13, P14, L1, P15, N1, N2, N3, N4, N5, N6, N7, I1, I2, I3, I4, I5, I6, I7, reduceIte, reduceCtorEq, hwi]
                  exact SemW_weak (ih2 (i + 1) (slI false true .i64 yl) ⟨by omega, .inr ⟨i, sc, by rw [hyl], by omega, d1, d3, hcy.mono fun _ _ => trivial, hls⟩⟩ (by omega)) (by simp only [PWeak_nil, PWeak_junk, PWeak_same, Int.cast_ofNat_Int, List.length_append, List.length_cons, List.length_nil, Nat.zero_add])
          · rw [decide_eq_false d1]
            simp only [PP, P1, P2, P3, P4, P5, P6, P7, P8, P9, P10, P11, P12, P13, P14, L1, P15, N1, N2, N3, N4, N5, N6, N7, I1, I2, I3, I4, I5, I6, I7, reduceIte, reduceCtorEq, hwi]
            exact SemW_weak (ih2 (i + 1) .nils ⟨by omega, .inl ⟨rfl, nx fun h => absurd h d1⟩⟩ (by omega)) (by simp only [PWeak_nil, PWeak_junk, PWeak_same, Int.cast_ofNat_Int, List.length_append, List.length_cons, List.length_nil, Nat.zero_add])
        · simp only [PP, P1, P2, P3, P4, P5, P6, P7, P8, P9, P10, P11, P12, P13, P14, L1, P15, N1, N2, N3, N4, N5, N6, N7, I1, I2, I3, I4, I5, I6, I7, reduceIte, reduceCtorEq, c2]
          refine hk3 .nils ?_
          by_cases d3 : ws.getD x 0 = p
          · exact .inl ⟨rfl, d3⟩
          · exfalso
            have hv2 := of_decide_eq_true hv2
            rcases hv3 with e | e
            · subst e; exact d3 hv2
            · exact hno v1 (by omega) hv2 (fun e' => d3 (e' ▸ hv2)) d3 e
      · have hst0 : StemR mv ws p x (slI false true .i64 (nI (v :: sc))) := .inr ⟨v, sc, rfl, w1, w2, w3, w4, w5⟩
        have hk4 := hk3 _ hst0
        have stay : ∀ st, st = slI false true .i64 (nI (v :: sc)) → ∃ (v : Nat) (sc : List Nat), st = slI false true .i64 (nI (v :: sc)) ∧ v < mv.length ∧ ws.getD v 0 = p ∧ ¬ ws.getD x 0 = p ∧ Ch (Sf mv) (fun _ => True) x (v :: sc) ∧ sc.length + 1 ≤ mv.length := fun st e => ⟨v, sc, e, w1, w2, w3, w4, w5⟩
        obtain ⟨yl, hyl⟩ : ∃ yl, yl = nI (v :: sc) := ⟨_, rfl⟩
        have hy0 : ¬ yl.length = 0 := by rw [hyl]; simp
        rw [← hyl] at hk4 stay ⊢
        refine SemW_go (by kernel_rfl) ?_
        simp only [PP, P1, P2, P3, P4, P5, P6, P7, P8, P9, P10, P11, P12, P13, P14, L1, P15, N1, N2, N3, N4, N5, N6, N7, I1, I2, I3, I4, I5, I6, I7, reduceIte, reduceCtorEq]
        refine QIf.intro (fun c2 => ?_) (fun c2 => ?_)
        · have hi : i < ow.length := by omega
          have keep := ih2 (i + 1) (slI false true .i64 yl) ⟨by omega, .inr (stay _ rfl)⟩ (by omega)
          simp only [PP, P1, P2, P3, P4, P5, P6, P7, P8, P9, P10, P11, P12, P13, P14, L1, P15, N1, N2, N3, N4, N5, N6, N7, I1, I2, I3, I4, I5, I6, I7, reduceIte, reduceCtorEq, c2]
          refine hF i hi _ _ ?_
          by_cases d1 : ws.getD i 0 = p
          · rw [decide_eq_true d1]
            by_cases d2 : i = x
            · subst d2
              simp only [PP, P1, P2, P3, P4, P5, P6, P7, P8, P9, P10, P11, P12, P13, P14, L1, P15, N1, N2, N3, N4, N5, N6, N7, I1, I2, I3, I4, I5, I6, I7, reduceIte, reduceCtorEq, hwi, hy0]
              exact SemW_weak keep (by simp only [PWeak_nil, PWeak_junk, PWeak_same, Int.cast_ofNat_Int, List.length_append, List.length_cons, List.length_nil, Nat.zero_add])
            · have d2' : ¬ (i : Int) = (x : Int) := by omega
              simp only [PP, P1, P2, P3, P4, P5, P6, P7, P8, P9, P10, P11, P12, P13, P14, L1, P15, N1, N2, N3, N4, N5, N6, N7, I1, I2, I3, I4, I5, I6, I7, reduceIte, reduceCtorEq, d2', hwi, hy0]
              exact SemW_weak keep (by simp only [PWeak_nil, PWeak_junk, PWeak_same, Int.cast_ofNat_Int, List.length_append, List.length_cons, List.length_nil, Nat.zero_add])
          · rw [decide_eq_false d1]
            simp only [PP, P1, P2, P3, P4, P5, P6, P7, P8, P9, P10, P11, P12, P13, P14, L1, P15, N1, N2, N3, N4, N5, N6, N7, I1, I2, I3, I4, I5, I6, I7, reduceIte, reduceCtorEq, hwi, hy0]
            exact SemW_weak keep (by simp only [PWeak_nil, PWeak_junk, PWeak_same, Int.cast_ofNat_Int, List.length_append, List.length_cons, List.length_nil, Nat.zero_add])
        · simp only [PP, P1, P2, P3, P4, P5, P6, P7, P8, P9, P10, P11, P12, P13, P14, L1, P15, N1, N2, N3, N4, N5, N6, N7, I1, I2, I3, I4, I5, I6, I7, reduceIte, reduceCtorEq, c2]
          exact hk4
end
end Go.Am.Ar
set_option linter.unusedVariables false
set_option linter.unusedSimpArgs false
set_option maxRecDepth 10000
namespace Go.Am.Ar
open Go.Am renaming pchk → P1, pold → P2, PKNo → P3, ppack → P4, PObj.under → P5, pput → P6, ptset → P7, ptget → P8, pev → P9, ofAV → P10, ofAV1 → P11, ppad → P12, pfill → P13, prepl → P14, AO.effect → P15
open List renaming replicate → L1
open Nat renaming reduceAdd → N1, reduceSub → N2, reduceMul → N3, reduceLT → N4, reduceLeDiff → N5, reduceEqDiff → N6, reduceBEq → N7
open Int renaming reduceToNat → I1, reduceLT → I2, reduceLE → I3, reduceEq → I4, reduceAdd → I5, reduceSub → I6, reduceNeg → I7
section
variable {tab : FuncId → Option AF} (T : HasA tab)
include T
def ChkE (ow pr : List Int) (su : List (List Int)) (ws ss : List Int) (e : Int) : Prop := (¬ e = 0 ∧ FormE ow pr su ws ss e) ∨ (FormP ow pr su ws ss ∧ ¬ CorrP ow pr su ws ss ∧ e = 14) ∨ (CorrP ow pr su ws ss ∧ e = 0)
omit T in
theorem ChkE.eq {ow pr ws ss : List Int} {su : List (List Int)} {e e' : Int} (h : ChkE ow pr su ws ss e) (h' : ChkE ow pr su ws ss e') : e = e' := by
  rcases h with ⟨h1, h2⟩ | ⟨h1, h2, rfl⟩ | ⟨h1, rfl⟩
  · have nf : ¬ FormP ow pr su ws ss := fun q => h1 (h2.zero.2 q)
    rcases h' with ⟨g1, g2⟩ | ⟨g1, g2, rfl⟩ | ⟨g1, rfl⟩
    · exact h2.eq g2
    · exact absurd g1 nf
    · exact absurd g1.formP nf
  · rcases h' with ⟨g1, g2⟩ | ⟨g1, g2, rfl⟩ | ⟨g1, rfl⟩
    · exact absurd (g2.zero.2 h1) g1
    · rfl
    · exact absurd g1 h2
  · rcases h' with ⟨g1, g2⟩ | ⟨g1, g2, rfl⟩ | ⟨g1, rfl⟩
    · exact absurd (g2.zero.2 h1.formP) g1
    · exact absurd h1 g2
    · rfl
end
end Go.Am.Ar
set_option linter.unusedVariables false
set_option linter.unusedSimpArgs false
set_option maxRecDepth 10000
namespace Go.Am.Ar
open Go.Am renaming pchk → P1, pold → P2, PKNo → P3, ppack → P4, PObj.under → P5, pput → P6, ptset → P7, ptget → P8, pev → P9, ofAV → P10, ofAV1 → P11, ppad → P12, pfill → P13, prepl → P14, AO.effect → P15
open List renaming replicate → L1
open Nat renaming reduceAdd → N1, reduceSub → N2, reduceMul → N3, reduceLT → N4, reduceLeDiff → N5, reduceEqDiff → N6, reduceBEq → N7
open Int renaming reduceToNat → I1, reduceLT → I2, reduceLE → I3, reduceEq → I4, reduceAdd → I5, reduceSub → I6, reduceNeg → I7
theorem LoopR.par {ow pr ws ss : List Int} {su : List (List Int)} {p : Int} {w : Nat} {lc : List Nat} {stem : PV} (F : FormP ow pr su ws ss) (hp : p = 0 ∨ p = 1) (hl : LoopR (tabA ow.length (movC ow ws ss su p)) pr p w lc) (hs : StemR (tabA ow.length (movC ow ws ss su p)) ws p w stem) : ¬ CorrP ow pr su ws ss := fun h => by
  have h2 := (corr_iff F).1 h
  have := loop_ref hl hs
  rcases hp with rfl | rfl
  · exact h2.1 this
  · exact h2.2 this
section
variable {tab : FuncId → Option AF} (T : HasA tab)
include T
theorem refuteAll_p {M : Mem} {K : PV → Mem → Prop} {f1 o1 f2 o2 f3 o3 f4 o4 f5 o5 f6 o6 : Bool} {ow pr ws ss : List Int} {su : List (List Int)} (B : Bnd ow pr su)
    (hk0 : ∀ e : Int, ¬ e = 0 → FormE ow pr su ws ss e → K (.tuple [.nils, .nils, p64 e]) M)
    (hk1 : CorrP ow pr su ws ss → K (.tuple [.nils, .nils, p64 0]) M)
    (hk2 : ∀ (p : Int) (w : Nat) (lc : List Nat) (stem : PV), FormP ow pr su ws ss → (p = 0 ∨ p = 1) → LoopR (tabA ow.length (movC ow ws ss su p)) pr p w lc → StemR (tabA ow.length (movC ow ws ss su p)) ws p w stem → K (.tuple [stem, slI false true .i64 (nI (w :: lc)), p64 14]) M) :
    SemC tab 10 [gmP f1 o1 f2 o2 f3 o3 f4 o4 ow pr su, .agg [slI f5 o5 .u8 ws, slI f6 o6 .i64 ss]] M K := by
  refine SemC_pure T.h10 (by simp only [PP, P1, P2, P3, P4, P5, P6, P7, P8, P9, P10, P11, P12, P13, P14, L1, P15, N1, N2, N3, N4, N5, N6, N7, I1, I2, I3, I4, I5, I6, I7, reduceIte, reduceCtorEq]) ?_
  simp only [af10, PP, P1, P2, P3, P4, P5, P6, P7, P8, P9, P10, P11, P12, P13, P14, L1, P15, N1, N2, N3, N4, N5, N6, N7, I1, I2, I3, I4, I5, I6, I7, reduceIte, reduceCtorEq]
  refine form33_p T B fun e he => ?_
  simp only [PP, P1, P2, P3, P4, P5, P6, P7, P8, P9, P10, P11, P12, P13, P14, L1, P15, N1, N2, N3, N4, N5, N6, N7, I1, I2, I3, I4, I5, I6, I7, reduceIte, reduceCtorEq]
  refine QIf.intro (fun c1 => ?_) (fun c1 => ?_)
  rotate_left
  · simp only [PP, P1, P2, P3, P4, P5, P6, P7, P8, P9, P10, P11, P12, P13, P14, L1, P15, N1, N2, N3, N4, N5, N6, N7, I1, I2, I3, I4, I5, I6, I7, reduceIte, reduceCtorEq, c1]
    exact hk0 e c1 he
  have F := he.zero.1 c1
  simp only [PP, P1, P2, P3, P4, P5, P6, P7, P8, P9, P10, P11, P12, P13, P14, L1, P15, N1, N2, N3, N4, N5, N6, N7, I1, I2, I3, I4, I5, I6, I7, reduceIte, reduceCtorEq, c1]
  refine loop1 (fun (q : Nat) => q ≤ 2 ∧ ∀ p : Int, 0 ≤ p → p < q → ¬ RefP ow pr ws ss su p)
    (fun q => [.junk, .junk, .ptr 0 0 0, .ptr 1 0 0, .junk, .junk, .junk, .junk, .junk, .junk, .junk, .junk, .junk, .junk, .junk, p8 q, .junk, .junk, .junk, .junk, .junk, .junk, .junk, .junk, .junk, .junk, .junk, .junk, .junk, .junk])
    (fun q => [.cells 0 0 [slI f1 o1 .u8 ow, slI f2 o2 .i64 pr, slR f3 o3 f4 o4 .i64 su], .cells 0 0 [slI f5 o5 .u8 ws, slI f6 o6 .i64 ss]])
    (fun q => 2 - q) 0 ⟨by omega, by intro v h1 h2; omega⟩ (by simp only [PWeak_nil, PWeak_junk, PWeak_same, Int.cast_ofNat_Int, List.length_append, List.length_cons, List.length_nil, Nat.zero_add]) rfl ?_
  intro q ⟨hle2, hq⟩ ih2
  refine SemW_go (by kernel_rfl) ?_
  simp only [PP, P1, P2, P3, P4, P5, P6, P7, P8, P9, P10, P11, P12, P13, P14, L1, P15, N1, N2, N3, N4, N5, N6, N7, I1, I2, I3, I4, I5, I6, I7, reduceIte, reduceCtorEq]
  refine QIf.intro (fun d => ?_) (fun d => ?_)
  · have hq2 : q < 2 := by omega
    have hwq : IntKind.u8.wrap ((q : Int) + 1) = ((q + 1 : Nat) : Int) := by
      have : q = 0 ∨ q = 1 := by omega
      rcases this with rfl | rfl <;> rfl
    simp only [PP, P1, P2, P3, P4, P5, P6, P7, P8, P9, P10, P11, P12, P13, P14, L1, P15, N1, N2, N3, N4, N5, N6, N7, I1, I2, I3, I4, I5, I6, I7, reduceIte, reduceCtorEq, d]
    refine refute_p T B F (by omega) (fun hno => ?_) (fun w lc stem hL hS => ?_)
    · simp only [PP, P1, P2, P3, P4, P5, P6, P7, P8, P9, P10, P11, P12, P13, P14, L1, P15, N1, N2, N3, N4, N5, N6, N7, I1, I2, I3, I4, I5, I6, I7, reduceIte, reduceCtorEq, hwq]
      refine SemW_weak (ih2 (q + 1) ⟨by omega, fun p h1 h2 => ?_⟩ (by omega)) (by simp only [PWeak_nil, PWeak_junk, PWeak_same, Int.cast_ofNat_Int, List.length_append, List.length_cons, List.length_nil, Nat.zero_add])
      by_cases e : p = q
      · subst e; exact hno
      · exact hq p h1 (by omega)
    · have hk3 := hk2 q w lc stem F (by omega) hL hS
      obtain ⟨xl, hxl⟩ : ∃ xl, xl = nI (w :: lc) := ⟨_, rfl⟩
      have hx0 : ¬ xl.length = 0 := by rw [hxl]; simp
      rw [← hxl] at hk3 ⊢
      rcases hS with ⟨rfl, _⟩ | ⟨v, sc, rfl, _⟩
      · simp only [PP, P1, P2, P3, P4, P5, P6, P7, P8, P9, P10, P11, P12, P13, P14, L1, P15, N1, N2, N3, N4, N5, N6, N7, I1, I2, I3, I4, I5, I6, I7, reduceIte, reduceCtorEq, hx0]
        exact hk3
      · revert hk3
        generalize nI (v :: sc) = yl
        intro hk3
        simp only [PP, P1, P2, P3, P4, P5, P6, P7, P8, P9, P10, P11, P12, P13, P14, L1, P15, N1, N2, N3, N4, N5, N6, N7, I1, I2, I3, I4, I5, I6, I7, reduceIte, reduceCtorEq, hx0]
        exact hk3
  · have : q = 2 := by omega
    subst this
    simp only [PP, P1, P2, P3, P4, P5, P6, P7, P8, P9, P10, P11, P12, P13, P14, L1, P15, N1, N2, N3, N4, N5, N6, N7, I1, I2, I3, I4, I5, I6, I7, reduceIte, reduceCtorEq, d]
    exact hk1 ((corr_iff F).2 ⟨hq 0 (by omega) (by omega), hq 1 (by omega) (by omega)⟩)
theorem check33_p {M : Mem} {K : PV → Mem → Prop} {f1 o1 f2 o2 f3 o3 f4 o4 f5 o5 f6 o6 : Bool} {ow pr ws ss : List Int} {su : List (List Int)} (B : Bnd ow pr su)
    (hk : ∀ e : Int, ChkE ow pr su ws ss e → K (p64 e) M) :
    SemC tab 14 [gmP f1 o1 f2 o2 f3 o3 f4 o4 ow pr su, .agg [slI f5 o5 .u8 ws, slI f6 o6 .i64 ss]] M K := by
  refine SemC_pure T.h14 (by simp only [PP, P1, P2, P3, P4, P5, P6, P7, P8, P9, P10, P11, P12, P13, P14, L1, P15, N1, N2, N3, N4, N5, N6, N7, I1, I2, I3, I4, I5, I6, I7, reduceIte, reduceCtorEq]) ?_
  simp only [af14, PP, P1, P2, P3, P4, P5, P6, P7, P8, P9, P10, P11, P12, P13, P14, L1, P15, N1, N2, N3, N4, N5, N6, N7, I1, I2, I3, I4, I5, I6, I7, reduceIte, reduceCtorEq]
  refine refuteAll_p T B (fun e h0 he => ?_) (fun h => ?_) (fun p w lc stem F hp hL hS => ?_)
  · simp only [PP, P1, P2, P3, P4, P5, P6, P7, P8, P9, P10, P11, P12, P13, P14, L1, P15, N1, N2, N3, N4, N5, N6, N7, I1, I2, I3, I4, I5, I6, I7, reduceIte, reduceCtorEq]
    exact hk e (.inl ⟨h0, he⟩)
  · simp only [PP, P1, P2, P3, P4, P5, P6, P7, P8, P9, P10, P11, P12, P13, P14, L1, P15, N1, N2, N3, N4, N5, N6, N7, I1, I2, I3, I4, I5, I6, I7, reduceIte, reduceCtorEq]
    exact hk 0 (.inr (.inr ⟨h, rfl⟩))
  · simp only [PP, P1, P2, P3, P4, P5, P6, P7, P8, P9, P10, P11, P12, P13, P14, L1, P15, N1, N2, N3, N4, N5, N6, N7, I1, I2, I3, I4, I5, I6, I7, reduceIte, reduceCtorEq]
    exact hk 14 (.inr (.inl ⟨F, hL.par F hp hS, rfl⟩))
end
end Go.Am.Ar
set_option linter.unusedVariables false
set_option linter.unusedSimpArgs false
set_option maxRecDepth 10000
namespace Go.Am.Ar
open Go.Am renaming pchk → P1, pold → P2, PKNo → P3, ppack → P4, PObj.under → P5, pput → P6, ptset → P7, ptget → P8, pev → P9, ofAV → P10, ofAV1 → P11, ppad → P12, pfill → P13, prepl → P14, AO.effect → P15
open List renaming replicate → L1
open Nat renaming reduceAdd → N1, reduceSub → N2, reduceMul → N3, reduceLT → N4, reduceLeDiff → N5, reduceEqDiff → N6, reduceBEq → N7
open Int renaming reduceToNat → I1, reduceLT → I2, reduceLE → I3, reduceEq → I4, reduceAdd → I5, reduceSub → I6, reduceNeg → I7
section
variable {tab : FuncId → Option AF} (T : HasA tab)
include T
end
end Go.Am.Ar
set_option linter.unusedVariables false
namespace Go.Am.Ar
theorem getD_set {a : List Int} {k v : Nat} {x : Int} (hk : k < a.length) : (a.set k x).getD v 0 = if v = k then x else a.getD v 0 := by
  by_cases e : v = k
  · subst e; rw [if_pos rfl]; exact getD_some (List.getElem?_set_self hk)
  · rw [if_neg e]; unfold List.getD; rw [List.getElem?_set_ne (Ne.symm e)]
section
variable {ow pr ws ss : List Int} {su : List (List Int)}
theorem SolL.mem (V : Valid ow pr su) (L : SolL ow pr su ws ss) {v : Nat} (hv : v < ow.length) (h : ws.getD v 0 = ow.getD v 0) : ss.getD v 0 ∈ su.getD v [] := by
  have h0 := L.own v hv h
  have h01 := L.sol.r01 v hv
  exact sf_mem V hv h0 ((L.sol.of h01).own v ⟨hv, rfl⟩ h.symm).1
theorem rej_form (V : Valid ow pr su) (c : checkM ow pr su = 0) (L : SolL ow pr su ws ss) {k : Nat} (hk : k < ow.length) {y : Int} (hy1 : ow.getD k 0 = 1 - ws.getD k 0 → y ∈ su.getD k []) (hy2 : ¬ ow.getD k 0 = 1 - ws.getD k 0 → y = -1) :
    FormP ow pr su (ws.set k (1 - ws.getD k 0)) (ss.set k y) := by
  have lw := L.lw
  have ls := L.ls
  refine ⟨c, by simp [lw], by simp [ls], fun v hv => ?_⟩
  have h01 := L.sol.r01 v hv
  have h01 : ws.getD v 0 = 0 ∨ ws.getD v 0 = 1 := h01
  have e1 := getD_set (a := ws) (k := k) (v := v) (x := 1 - ws.getD k 0) (by omega)
  have e2 := getD_set (a := ss) (k := k) (v := v) (x := y) (by omega)
  by_cases e : v = k
  · subst e
    rw [if_pos rfl] at e1 e2
    exact ⟨by omega, fun h => by rw [e2]; exact hy1 (by omega), fun h => by rw [e2]; exact hy2 (by omega)⟩
  · rw [if_neg e] at e1 e2
    exact ⟨by omega, fun h => by rw [e2]; exact L.mem V hv (by omega), fun h => by rw [e2]; exact L.opp v hv (by omega)⟩
theorem rej_ncorr (V : Valid ow pr su) (ho : ∀ x ∈ ow, 0 ≤ x) (L : SolL ow pr su ws ss) {k : Nat} (hk : k < ow.length) {y : Int} (F : FormP ow pr su (ws.set k (1 - ws.getD k 0)) (ss.set k y)) (hy1 : ow.getD k 0 = 1 - ws.getD k 0 → y ∈ su.getD k []) : ¬ CorrP ow pr su (ws.set k (1 - ws.getD k 0)) (ss.set k y) := fun C => by
  have lw := L.lw
  have ls := L.ls
  have h01 : ws.getD k 0 = 0 ∨ ws.getD k 0 = 1 := L.sol.r01 k hk
  have ew := fun v => getD_set (a := ws) (k := k) (v := v) (x := 1 - ws.getD k 0) (by omega)
  have es := fun v => getD_set (a := ss) (k := k) (v := v) (x := y) (by omega)
  generalize hq : ws.getD k 0 = q at F hy1 C h01 ew
  have hq01 : q = 0 ∨ q = 1 := h01
  have hS := valid_S V
  have hh : ∀ u, u < ow.length → ∃ x, x ∈ Sf su u := fun u hu => by
    cases e : Sf su u with
    | nil => exact absurd e (hS u hu).1
    | cons x l => exact ⟨x, by simp⟩
  classical
  let f : Nat → Nat := fun u => if hu : u < ow.length then (if ow.getD u 0 = q ∧ ws.getD u 0 = q then stN ss u else if u = k ∧ ow.getD k 0 = 1 - q then y.toNat else Classical.choose (hh u hu)) else 0
  have f1 : ∀ u, u < ow.length → ow.getD u 0 = q ∧ ws.getD u 0 = q → f u = stN ss u := fun u hu h => by show (if hu : _ then _ else _) = _; rw [dif_pos hu, if_pos h]
  have f2 : ow.getD k 0 = 1 - q → f k = y.toNat := fun h => by show (if hu : _ then _ else _) = _; rw [dif_pos hk, if_neg (fun z => by have := z.1; omega), if_pos ⟨rfl, h⟩]
  have f3 : ∀ u, u < ow.length → f u ∈ Sf su u := fun u hu => by
    by_cases h : ow.getD u 0 = q ∧ ws.getD u 0 = q
    · rw [f1 u hu h]; exact ((L.sol.of hq01).own u ⟨hu, h.2⟩ h.1).1
    · by_cases h1 : u = k ∧ ow.getD k 0 = 1 - q
      · obtain ⟨rfl, h1⟩ := h1
        rw [f2 h1]; exact mem_sf V hu (hy1 h1)
      · show (if hu : _ then _ else _) ∈ _
        rw [dif_pos hu, if_neg h, if_neg h1]; exact Classical.choose_spec (hh u hu)
  refine C.win (1 - q) (by omega) k hk (by rw [ew, if_pos rfl]) ?_
  rw [solE_eq F]
  refine (L.sol.of hq01).lost (p := 1 - q) (by omega) (f := f) (fun u hu => ⟨f3 u hu, (hS u hu).2 _ (f3 u hu)⟩) (fun u hu hou => f1 u hu.1 ⟨hou, hu.2⟩) (fun u hu => ?_) (v := k) ⟨hk, hq⟩
  show f u ∈ Sf (tabA ow.length (movC ow (ws.set k (1 - q)) (ss.set k y) su (1 - q))) u
  rw [sf_tab hu.1]
  have hwu : ws.getD u 0 = q := hu.2
  unfold movC
  by_cases h : ow.getD u 0 = 1 - q ∧ (ws.set k (1 - q)).getD u 0 = 1 - q
  · rw [if_pos h]
    have e : u = k := by
      refine Classical.byContradiction fun e => ?_
      have h2 := h.2
      rw [ew, if_neg e] at h2
      omega
    subst e
    rw [es, if_pos rfl, f2 h.1]; simp
  · rw [if_neg h]; exact f3 u hu.1
end
end Go.Am.Ar
set_option linter.unusedVariables false
set_option linter.unusedSimpArgs false
set_option maxRecDepth 10000
namespace Go.Am.Ar
open Go.Am renaming pchk → P1, pold → P2, PKNo → P3, ppack → P4, PObj.under → P5, pput → P6, ptset → P7, ptget → P8, pev → P9, ofAV → P10, ofAV1 → P11, ppad → P12, pfill → P13, prepl → P14, AO.effect → P15
open List renaming replicate → L1
open Nat renaming reduceAdd → N1, reduceSub → N2, reduceMul → N3, reduceLT → N4, reduceLeDiff → N5, reduceEqDiff → N6, reduceBEq → N7
open Int renaming reduceToNat → I1, reduceLT → I2, reduceLE → I3, reduceEq → I4, reduceAdd → I5, reduceSub → I6, reduceNeg → I7
section
variable {tab : FuncId → Option AF} (T : HasA tab)
include T
theorem solve_r {K : PV → Mem → Prop} {f1 p1 f2 p2 f3 p3 f4 p4 : Bool} {ow pr : List Int} {su : List (List Int)} (B : Bnd ow pr su) (ho : ∀ x ∈ ow, 0 ≤ x)
    (hk1 : ∀ o0 o1, ¬ checkM ow pr su = 0 → K (.tuple [.agg [.nils, .nils], p64 (checkM ow pr su)]) [o0, o1])
    (hk2 : checkM ow pr su = 0 → ∀ (ws ss : List Int) (v2 v6 : Nat) (o0 o1 o3 o4 o5 o7 : PObj), SolL ow pr su ws ss → K (.tuple [.agg [.ref 6 0 1 0 ow.length, .ref 2 0 1 0 ow.length], p64 0]) [o0, o1, .cells 0 v2 (ss.map (PV.int .i64)), o3, o4, o5, .cells 0 v6 (ws.map (PV.int .u8)), o7]) :
    SemC tab 31 [gmP f1 p1 f2 p2 f3 p3 f4 p4 ow pr su] [] K := by
  refine SemC_fn T.h31 ?_
  simp only [af31, PP, P1, P2, P3, P4, P5, P6, P7, P8, P9, P10, P11, P12, P13, P14, L1, P15, N1, N2, N3, N4, N5, N6, N7, I1, I2, I3, I4, I5, I6, I7, reduceIte, reduceCtorEq]
  refine check_p T B ?_
  simp only [PP, P1, P2, P3, P4, P5, P6, P7, P8, P9, P10, P11, P12, P13, P14, L1, P15, N1, N2, N3, N4, N5, N6, N7, I1, I2, I3, I4, I5, I6, I7, reduceIte, reduceCtorEq]
  refine QIf.intro (fun c1 => ?_) (fun c1 => ?_)
  rotate_left
  · simp only [PP, P1, P2, P3, P4, P5, P6, P7, P8, P9, P10, P11, P12, P13, P14, L1, P15, N1, N2, N3, N4, N5, N6, N7, I1, I2, I3, I4, I5, I6, I7, reduceIte, reduceCtorEq, c1]
    exact hk1 _ _ c1
  have V := valid_of c1
  have n0 := V.n0
  have n1 := V.n1
  have hsl := V.s
  have b0 : (0 : Int) ≤ ow.length := by omega
  have b1 : (ow.length : Int) * 1 ≤ 140737488355328 := by omega
  have b8 : (ow.length : Int) * 8 ≤ 140737488355328 := by omega
  have b2 : (ow.length : Int) ≤ 9223372036854775807 := by omega
  simp only [PP, P1, P2, P3, P4, P5, P6, P7, P8, P9, P10, P11, P12, P13, P14, L1, P15, N1, N2, N3, N4, N5, N6, N7, I1, I2, I3, I4, I5, I6, I7, reduceIte, reduceCtorEq, c1, b0, b1, b8, b2, Int.le_refl]
  refine SemW_gh ?_
  refine loop3 (fun (k ver : Nat) (w : List Bool) => k ≤ ow.length ∧ w.length = ow.length ∧ ∀ v, v < k → w[v]? = some true)
    (fun k ver w => [.junk, .ptr 0 0 0, .ptr 1 0 0, .junk, .junk, .ptr 3 0 0, .ref 4 0 1 0 ow.length, .junk, .junk, .junk, .junk, .junk, .junk, .junk, .junk, .junk, .junk, .junk, .junk, .junk, .junk, .junk, .junk, .junk, .junk, .junk, .junk, .junk, .junk, p64 ow.length, p64 k, .junk, .junk, .junk, .junk, .junk, .junk, .junk, .junk, .junk, .junk, .junk, .junk, .junk, .junk, .junk, .junk, .junk, .junk, .junk, .junk, .junk, .junk, .junk, .junk, .junk, .junk, .junk, .junk, .junk, .junk, .junk, .junk, .junk, .junk, .junk, .junk, .junk, .junk, .junk, .junk, .junk, .junk, .junk, .junk, .junk, .junk, .junk, .junk])
    (fun k ver w => [.cells 0 0 [slI f1 p1 .u8 ow, slI f2 p2 .i64 pr, slR f3 p3 f4 p4 .i64 su], .cells 0 0 [.nils, .nils], .cells 0 0 ((List.replicate ow.length 0).map (PV.int .i64)), .cells 0 0 (zSol f1 p1 f2 p2 f3 p3 f4 p4 ow pr su), .cells 0 ver (w.map PV.bool)])
    (fun k _ _ => ow.length - k) 0 0 (List.replicate ow.length false) ⟨by omega, by simp, by intro v h; omega⟩ (by simp only [PWeak_nil, PWeak_junk, PWeak_same, Int.cast_ofNat_Int, List.length_append, List.length_cons, List.length_nil, Nat.zero_add]) (by simp only [List.map_replicate]) ?_
  intro k ver w ⟨hle, hw, hget⟩ ih
  refine SemW_go (by kernel_rfl) ?_
  simp only [PP, P1, P2, P3, P4, P5, P6, P7, P8, P9, P10, P11, P12, P13, P14, L1, P15, N1, N2, N3, N4, N5, N6, N7, I1, I2, I3, I4, I5, I6, I7, reduceIte, reduceCtorEq]
  refine QIf.intro (fun c => ?_) (fun c => ?_)
  · have hk' : k < ow.length := by omega
    have k0 : (0 : Int) ≤ k := by omega
    have k1 : k + 1 ≤ ow.length := hk'
    have hwk := wrap_succ (k := k) (by show _ < 1000000000000; omega)
    simp only [PP, P1, P2, P3, P4, P5, P6, P7, P8, P9, P10, P11, P12, P13, P14, L1, P15, N1, N2, N3, N4, N5, N6, N7, I1, I2, I3, I4, I5, I6, I7, reduceIte, reduceCtorEq, c, k0, k1, hw, hwk]
    refine SemW_to (ih (k + 1) (ver + 1) (w.set k true) ⟨by omega, by simp [hw], fun v hv => ?_⟩ (by omega)) (by simp only [PWeak_nil, PWeak_junk, PWeak_same, Int.cast_ofNat_Int, List.length_append, List.length_cons, List.length_nil, Nat.zero_add]) (by simp only [← List.map_set])
    by_cases e : v = k
    · subst e; rw [List.getElem?_set_self (by omega)]
    · rw [List.getElem?_set_ne (by omega)]; exact hget v (by omega)
  have hkn : k = ow.length := by omega
  subst hkn
  have hall : ∀ v, bm w v ↔ v < ow.length := fun v => ⟨fun h => by rw [← hw]; exact bm_lt h, fun h => hget v h⟩
  simp only [PP, P1, P2, P3, P4, P5, P6, P7, P8, P9, P10, P11, P12, P13, P14, L1, P15, N1, N2, N3, N4, N5, N6, N7, I1, I2, I3, I4, I5, I6, I7, reduceIte, reduceCtorEq, c]
  refine Gh.step (GStep.freeze (b := [.junk, .ptr 0 0 0, .ptr 1 0 0, .junk, .junk, .ptr 3 0 0, slB false true w, .junk, .junk, .junk, .junk, .junk, .junk, .junk, .junk, .junk, .junk, .junk, .junk, .junk, .junk, .junk, .junk, .junk, .junk, .junk, .junk, .junk, .junk, .junk, .junk, .junk, .junk, .junk, .junk, .junk, .junk, .junk, .junk, .junk, .junk, .junk, .junk, .junk, .junk, .junk, .junk, .junk, .junk, .junk, .junk, .junk, .junk, .junk, .junk, .junk, .junk, .junk, .junk, .junk, .junk, .junk, .junk, .junk, .junk, .junk, .junk, .junk, .junk, .junk, .junk, .junk, .junk, .junk, .junk, .junk, .junk, .junk, .junk]) 4 (by omega) rfl (by
    simp only [PFrz_junk, PFrz_same]
    rw [PFrz_ref (by rw [List.length_map, hw]; omega) (by rw [Nat.mul_one, psub_all _ _ (by simp [hw])]; unfold slB; rw [hw])]
    simp only [PFrz_nil, PFrz_junk, PFrz_same]) rfl) (Gh.same ?_)
  simp only [PP, P1, P2, P3, P4, P5, P6, P7, P8, P9, P10, P11, P12, P13, P14, L1, P15, N1, N2, N3, N4, N5, N6, N7, I1, I2, I3, I4, I5, I6, I7, reduceIte, reduceCtorEq]
  refine SemC_prefix (m := 4) (by simp) (by simp only [PP, P1, P2, P3, P4, P5, P6, P7, P8, P9, P10, P11, P12, P13, P14, L1, P15, N1, N2, N3, N4, N5, N6, N7, I1, I2, I3, I4, I5, I6, I7, reduceIte, reduceCtorEq, slB]) (by simp only [PP, P1, P2, P3, P4, P5, P6, P7, P8, P9, P10, P11, P12, P13, P14, L1, P15, N1, N2, N3, N4, N5, N6, N7, I1, I2, I3, I4, I5, I6, I7, reduceIte, reduceCtorEq, cutOk_cells, underL_ints]) ?_
  have hcl := cnt_le w
  refine solve_z T V B ho (by simp only [PP, P1, P2, P3, P4, P5, P6, P7, P8, P9, P10, P11, P12, P13, P14, L1, P15, N1, N2, N3, N4, N5, N6, N7, I1, I2, I3, I4, I5, I6, I7, reduceIte, reduceCtorEq, cutOk_cells]) rfl (ow.length + 1) w (List.replicate ow.length 0) 0 _ (by omega) hw (by simp) (fun x hx => by rw [List.eq_of_mem_replicate hx]; omega) (fun v hv => ?_) ?_
  · have hv := (hall v).1 hv
    obtain ⟨q1, q2, _⟩ := Sf_ok V hv
    cases hs : Sf su v with
    | nil => exact absurd hs q1
    | cons x l => exact ⟨x, by simp, (hall x).2 (q2 x (by rw [hs]; simp))⟩
  intro ver2 st w0 w1 Z
  refine ⟨by simp only [PP, P1, P2, P3, P4, P5, P6, P7, P8, P9, P10, P11, P12, P13, P14, L1, P15, N1, N2, N3, N4, N5, N6, N7, I1, I2, I3, I4, I5, I6, I7, reduceIte, reduceCtorEq, slB], rfl, by simp only [PP, P1, P2, P3, P4, P5, P6, P7, P8, P9, P10, P11, P12, P13, P14, L1, P15, N1, N2, N3, N4, N5, N6, N7, I1, I2, I3, I4, I5, I6, I7, reduceIte, reduceCtorEq, cutOk_cells, underL_ints], ?_⟩
  simp only [PP, P1, P2, P3, P4, P5, P6, P7, P8, P9, P10, P11, P12, P13, P14, L1, P15, N1, N2, N3, N4, N5, N6, N7, I1, I2, I3, I4, I5, I6, I7, reduceIte, reduceCtorEq, hw, b0, b1, b2, Int.le_refl]
  have zs := Z.ls
  have z1 := Z.l1
  refine loop5 (fun (k v6 v2 : Nat) (ws ss : List Int) => k ≤ ow.length ∧ ws.length = ow.length ∧ ss.length = ow.length ∧ (∀ v, v < k → ws[v]? = some (if bm w1 v then 1 else 0) ∧ ss[v]? = some (if (if bm w1 v then 1 else 0) = ow.getD v 0 then st.getD v 0 else -1)) ∧ ∀ v, k ≤ v → v < ow.length → ws[v]? = some 0 ∧ ss[v]? = st[v]?)
    (fun k v6 v2 ws ss => [.junk, .ptr 0 0 0, .ptr 1 0 0, .junk, .junk, .junk, .junk, .junk, .ptr 5 0 0, .ptr 7 0 0, .junk, .junk, .junk, .junk, .junk, .junk, .junk, .junk, .junk, .junk, .junk, .junk, .junk, .junk, .junk, .junk, .junk, .junk, .junk, .junk, .junk, .junk, .junk, .junk, .junk, .junk, .junk, .junk, .junk, .junk, .junk, .junk, .junk, .junk, .junk, .junk, .junk, .junk, .junk, p64 ow.length, p64 k, .junk, .junk, .junk, .junk, .junk, .junk, .junk, .junk, .junk, .junk, .junk, .junk, .junk, .junk, .junk, .junk, .junk, .junk, .junk, .junk, .junk, .junk, .junk, .junk, .junk, .junk, .junk, .junk])
    (fun k v6 v2 ws ss => [.cells 0 0 [slI f1 p1 .u8 ow, slI f2 p2 .i64 pr, slR f3 p3 f4 p4 .i64 su], .cells 0 0 [.nils, .nils], .cells 0 v2 (ss.map (PV.int .i64)), .cells 0 0 (zSol f1 p1 f2 p2 f3 p3 f4 p4 ow pr su), .gone, .cells 0 1 [slB false true w0, slB false true w1], .cells 0 v6 (ws.map (PV.int .u8)), .cells 0 1 [.ref 6 0 1 0 ow.length, .ref 2 0 1 0 ow.length]])
    (fun k _ _ _ _ => ow.length - k) 0 0 ver2 (List.replicate ow.length 0) st ⟨by omega, by simp, zs, fun v h => by omega, fun v _ h => ⟨by simp [h], rfl⟩⟩ (by simp only [PWeak_nil, PWeak_junk, PWeak_same, Int.cast_ofNat_Int, List.length_append, List.length_cons, List.length_nil, Nat.zero_add]) (by simp only [List.map_replicate]) ?_
  intro k v6 v2 ws ss ⟨hle, lw, ls, hlo, hhi⟩ ih2
  refine SemW_go (by kernel_rfl) ?_
  simp only [PP, P1, P2, P3, P4, P5, P6, P7, P8, P9, P10, P11, P12, P13, P14, L1, P15, N1, N2, N3, N4, N5, N6, N7, I1, I2, I3, I4, I5, I6, I7, reduceIte, reduceCtorEq]
  refine QIf.intro (fun d => ?_) (fun d => ?_)
  · have hk' : k < ow.length := by omega
    have k0 : (0 : Int) ≤ k := by omega
    have kn : (k : Int) < ow.length := by omega
    have k1 : k + 1 ≤ ow.length := hk'
    have hwk := wrap_succ (k := k) (by show _ < 1000000000000; omega)
    obtain ⟨x, g1⟩ := some_of (xs := w1) (k := k) (by omega)
    obtain ⟨o, g2⟩ := some_of (xs := ow) (k := k) hk'
    obtain ⟨y, g3⟩ := some_of (xs := st) (k := k) (by omega)
    have eo : ow.getD k 0 = o := getD_some g2
    have ey : st.getD k 0 = y := getD_some g3
    obtain ⟨hw0, hs0⟩ := hhi k (Nat.le_refl _) hk'
    have up : ∀ (ws' ss' : List Int), ws'.length = ow.length → ss'.length = ow.length → ws'[k]? = some (if bm w1 k then 1 else 0) → ss'[k]? = some (if (if bm w1 k then 1 else 0) = o then y else -1) → (∀ v, v ≠ k → ws'[v]? = ws[v]? ∧ ss'[v]? = ss[v]?) →
        k + 1 ≤ ow.length ∧ ws'.length = ow.length ∧ ss'.length = ow.length ∧ (∀ v, v < k + 1 → ws'[v]? = some (if bm w1 v then 1 else 0) ∧ ss'[v]? = some (if (if bm w1 v then 1 else 0) = ow.getD v 0 then st.getD v 0 else -1)) ∧ ∀ v, k + 1 ≤ v → v < ow.length → ws'[v]? = some 0 ∧ ss'[v]? = st[v]? := by
      intro ws' ss' q1 q2 q3 q4 q5
      refine ⟨by omega, q1, q2, fun v hv => ?_, fun v hv hv2 => ?_⟩
      · by_cases e : v = k
        · subst e; rw [eo, ey]; exact ⟨q3, q4⟩
        · rw [(q5 v e).1, (q5 v e).2]; exact hlo v (by omega)
      · rw [(q5 v (by omega)).1, (q5 v (by omega)).2]; exact hhi v (by omega) hv2
    cases x
    · have hx : ¬ bm w1 k := fun h => by rw [bm_of g1] at h; cases h
      rw [if_neg hx] at up
      simp only [PP, P1, P2, P3, P4, P5, P6, P7, P8, P9, P10, P11, P12, P13, P14, L1, P15, N1, N2, N3, N4, N5, N6, N7, I1, I2, I3, I4, I5, I6, I7, reduceIte, reduceCtorEq, d, k0, kn, g1, g2, z1, lw, ls, hw0]
      refine QIf.intro (fun e => ?_) (fun e => ?_)
      · have e : (0 : Int) = o := e
        simp only [PP, P1, P2, P3, P4, P5, P6, P7, P8, P9, P10, P11, P12, P13, P14, L1, P15, N1, N2, N3, N4, N5, N6, N7, I1, I2, I3, I4, I5, I6, I7, reduceIte, reduceCtorEq, hwk]
        exact SemW_weak (ih2 (k + 1) v6 v2 ws ss (up ws ss lw ls hw0 (by rw [hs0, g3, if_pos e]) fun v _ => ⟨rfl, rfl⟩) (by omega)) (by simp only [PWeak_nil, PWeak_junk, PWeak_same, Int.cast_ofNat_Int, List.length_append, List.length_cons, List.length_nil, Nat.zero_add])
      · have e : ¬ (0 : Int) = o := e
        simp only [PP, P1, P2, P3, P4, P5, P6, P7, P8, P9, P10, P11, P12, P13, P14, L1, P15, N1, N2, N3, N4, N5, N6, N7, I1, I2, I3, I4, I5, I6, I7, reduceIte, reduceCtorEq, k0, kn, k1, lw, ls, hwk]
        exact SemW_to (ih2 (k + 1) v6 (v2 + 1) ws (ss.set k (-1)) (up ws _ lw (by simp [ls]) hw0 (by rw [List.getElem?_set_self (by omega), if_neg e]) fun v hv => ⟨rfl, List.getElem?_set_ne (by omega)⟩) (by omega)) (by simp only [PWeak_nil, PWeak_junk, PWeak_same, Int.cast_ofNat_Int, List.length_append, List.length_cons, List.length_nil, Nat.zero_add]) (by simp only [← List.map_set])
    · have hx : bm w1 k := (bm_of g1).2 rfl
      rw [if_pos hx] at up
      have hset : (ws.set k 1)[k]? = some 1 := List.getElem?_set_self (by omega)
      have lset : (ws.set k 1).length = ow.length := by simp [lw]
      simp only [PP, P1, P2, P3, P4, P5, P6, P7, P8, P9, P10, P11, P12, P13, P14, L1, P15, N1, N2, N3, N4, N5, N6, N7, I1, I2, I3, I4, I5, I6, I7, reduceIte, reduceCtorEq, d, k0, kn, k1, g1, g2, z1, lw, ls, ← List.map_set, hset]
      refine QIf.intro (fun e => ?_) (fun e => ?_)
      · have e : (1 : Int) = o := e
        simp only [PP, P1, P2, P3, P4, P5, P6, P7, P8, P9, P10, P11, P12, P13, P14, L1, P15, N1, N2, N3, N4, N5, N6, N7, I1, I2, I3, I4, I5, I6, I7, reduceIte, reduceCtorEq, hwk]
        exact SemW_to (ih2 (k + 1) (v6 + 1) v2 (ws.set k 1) ss (up _ ss lset ls hset (by rw [hs0, g3, if_pos e]) fun v hv => ⟨List.getElem?_set_ne (by omega), rfl⟩) (by omega)) (by simp only [PWeak_nil, PWeak_junk, PWeak_same, Int.cast_ofNat_Int, List.length_append, List.length_cons, List.length_nil, Nat.zero_add]) rfl
      · have e : ¬ (1 : Int) = o := e
        simp only [PP, P1, P2, P3, P4, P5, P6, P7, P8, P9, P10, P11, P12, P13, P14, L1, P15, N1, N2, N3, N4, N5, N6, N7, I1, I2, I3, I4, I5, I6, I7, reduceIte, reduceCtorEq, k0, kn, k1, lw, ls, hwk]
        exact SemW_to (ih2 (k + 1) (v6 + 1) (v2 + 1) (ws.set k 1) (ss.set k (-1)) (up _ _ lset (by simp [ls]) hset (by rw [List.getElem?_set_self (by omega), if_neg e]) fun v hv => ⟨List.getElem?_set_ne (by omega), List.getElem?_set_ne (by omega)⟩) (by omega)) (by simp only [PWeak_nil, PWeak_junk, PWeak_same, Int.cast_ofNat_Int, List.length_append, List.length_cons, List.length_nil, Nat.zero_add]) (by simp only [← List.map_set])
  · have hkn : k = ow.length := by omega
    subst hkn
    have gw : ∀ v, v < ow.length → ws.getD v 0 = if bm w1 v then 1 else 0 := fun v hv => getD_some (hlo v hv).1
    have gs : ∀ v, v < ow.length → ss.getD v 0 = if ws.getD v 0 = ow.getD v 0 then st.getD v 0 else -1 := fun v hv => by rw [gw v hv]; exact getD_some (hlo v hv).2
    have eD : bm w = fun v => v < ow.length := funext fun v => propext (hall v)
    have e1 : bm w1 = fun v => v < ow.length ∧ ws.getD v 0 = 1 := funext fun v => propext (by
      constructor
      · intro h
        have hv : v < ow.length := (hall v).1 ((Z.all v).2 (.inr h))
        exact ⟨hv, by rw [gw v hv, if_pos h]⟩
      · rintro ⟨hv, h⟩
        rw [gw v hv] at h
        split at h
        · assumption
        · omega)
    have e0 : bm w0 = fun v => v < ow.length ∧ ws.getD v 0 = 0 := funext fun v => propext (by
      constructor
      · intro h
        have hv : v < ow.length := (hall v).1 ((Z.all v).2 (.inl h))
        exact ⟨hv, by rw [gw v hv, if_neg (Z.dis v h)]⟩
      · rintro ⟨hv, h⟩
        rw [gw v hv] at h
        split at h
        · omega
        · rename_i q; exact ((Z.all v).1 ((hall v).2 hv)).resolve_right q)
    have hst : ∀ v, v < ow.length → ws.getD v 0 = ow.getD v 0 → stN ss v = stN st v := fun v hv h => by
      unfold stN; rw [gs v hv, if_pos h]
    have q0 := Z.p0
    have q1 := Z.p1
    rw [eD, e0] at q0
    rw [eD, e1] at q1
    have hL : SolL ow pr su ws ss := by
      refine ⟨lw, ls, ⟨fun v hv => ?_, q0.congr fun v hv h => hst v hv.1 (by rw [hv.2]; exact h.symm), q1.congr fun v hv h => hst v hv.1 (by rw [hv.2]; exact h.symm)⟩, fun v hv h => ?_, fun v hv h => by rw [gs v hv, if_neg h]⟩
      · show ws.getD v 0 = 0 ∨ ws.getD v 0 = 1
        rw [gw v hv]; split <;> simp
      · rw [gs v hv, if_pos h, List.getD, List.getElem?_eq_getElem (by omega : v < st.length)]
        exact Z.nn _ (List.getElem_mem _)
    simp only [PP, P1, P2, P3, P4, P5, P6, P7, P8, P9, P10, P11, P12, P13, P14, L1, P15, N1, N2, N3, N4, N5, N6, N7, I1, I2, I3, I4, I5, I6, I7, reduceIte, reduceCtorEq, d]
    exact hk2 c1 ws ss _ _ _ _ _ _ _ _ hL
end
end Go.Am.Ar

