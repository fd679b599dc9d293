/- Contract: a refutation of a player's part (certify.refute), and what goes with it. -/
import Derived.Test.YtkbdnbmnopmhdaaCertifyDualG4
import Derived.Test.YtkbdnbmnopmhdaaCertifyDualG3
import Derived.Test.YtkbdnbmnopmhdaaCertifyDualG0
import Derived.Test.YtkbdnbmnopmhdaaPmL
set_option linter.unusedVariables false
set_option linter.unusedSimpArgs false
set_option maxRecDepth 10000
namespace Go.Am.Ar
open Go.Am renaming pchk → P1, pold → P2, PKNo → P3, ppack → P4, PObj.under → P5, pput → P6, ptset → P7, ptget → P8, pev → P9, ofAV → P10, ofAV1 → P11, ppad → P12, pfill → P13, prepl → P14, AO.effect → P15
open List renaming replicate → L1
open Nat renaming reduceAdd → N1, reduceSub → N2, reduceMul → N3, reduceLT → N4, reduceLeDiff → N5, reduceEqDiff → N6, reduceBEq → N7
open Int renaming reduceToNat → I1, reduceLT → I2, reduceLE → I3, reduceEq → I4, reduceAdd → I5, reduceSub → I6, reduceNeg → I7
theorem Ch.mono {S : Nat → List Nat} {A A' : Nat → Prop} {u : Nat} (h : ∀ x, A x → A' x) : ∀ {c : List Nat}, Ch S A u c → Ch S A' u c
  | [], _ => trivial
  | [x], q => q
  | x :: y :: c, ⟨h1, h2, h3⟩ => ⟨h1, h y h2, Ch.mono h h3⟩
theorem Rch.mono' {E : Nat → Nat → Prop} {Q Q' : Nat → Prop} {v u : Nat} (hq : ∀ x, Q x → Q' x) (h : Rch E Q v u) : Rch E Q' v u := h.cond fun _ b _ q => hq b q
def LoopR (mv : List (List Int)) (pr : List Int) (p : Int) (w : Nat) (lc : List Nat) : Prop :=
  w < mv.length ∧ Ch (Sf mv) (fun x => zP pr x ≤ zP pr w) w (w :: lc) ∧ lc.length + 1 ≤ mv.length ∧ zP pr w % 2 ≠ p
def StemR (mv : List (List Int)) (ws : List Int) (p : Int) (w : Nat) (stem : PV) : Prop :=
  (stem = .nils ∧ ws.getD w 0 = p) ∨ ∃ (v : Nat) (sc : List Nat), stem = slI false true .i64 (nI (v :: sc)) ∧ v < mv.length ∧ ws.getD v 0 = p ∧ ¬ ws.getD w 0 = p ∧ Ch (Sf mv) (fun _ => True) w (v :: sc) ∧ sc.length + 1 ≤ mv.length
theorem cer_in {ow pr ws ss : List Int} {su : List (List Int)} {p : Int} (F : FormP ow pr su ws ss) (B : Bnd ow pr su) : RowsIn (tabA ow.length (movC ow ws ss su p)) := by
  have : tabA ow.length (movF ow su p (tabA ow.length (ownF ow ws ss p))) = tabA ow.length (movC ow ws ss su p) := tabA_congr fun v hv => mov_eq F hv
  rw [← this]
  exact mov_in (valid_of F.c) B
theorem loop_ref {ow pr ws ss : List Int} {su : List (List Int)} {p : Int} {w : Nat} {lc : List Nat} {stem : PV} (hl : LoopR (tabA ow.length (movC ow ws ss su p)) pr p w lc) (hs : StemR (tabA ow.length (movC ow ws ss su p)) ws p w stem) : RefP ow pr ws ss su p := by
  obtain ⟨h1, h2, h3, h4⟩ := hl
  rw [tabA_len] at h1
  refine ⟨w, h1, ?_, h4, h2.rch (Int.le_refl _)⟩
  rcases hs with ⟨_, q⟩ | ⟨v, sc, _, q1, q2, _, q3, _⟩
  · exact ⟨w, h1, q, .inl rfl⟩
  · rw [tabA_len] at q1
    exact ⟨v, q1, q2, .inr (q3.rch trivial)⟩
section
variable {tab : FuncId → Option AF} (T : HasA tab)
include T
set_option maxHeartbeats 2000000 in
theorem refute_p {M : Mem} {K : PV → Mem → Prop} {f1 o1 f2 o2 f3 o3 f4 o4 f5 o5 f6 o6 : Bool} {ow pr ws ss : List Int} {su : List (List Int)} {p : Int} (B : Bnd ow pr su) (F : FormP ow pr su ws ss) (hp : p = 0 ∨ p = 1)
    (hk1 : ¬ RefP ow pr ws ss su p → K (.tuple [.nils, .nils]) M)
    (hk2 : ∀ (w : Nat) (lc : List Nat) (stem : PV), LoopR (tabA ow.length (movC ow ws ss su p)) pr p w lc → StemR (tabA ow.length (movC ow ws ss su p)) ws p w stem → K (.tuple [stem, slI false true .i64 (nI (w :: lc))]) M) :
    SemC tab 34 [gmP f1 o1 f2 o2 f3 o3 f4 o4 ow pr su, .agg (sC f5 o5 f6 o6 ws ss), p8 p] M K := by
  have V := valid_of F.c
  have n1 := V.n1
  have hs := V.s
  have hpl := V.p
  have lw := F.lw
  have ls := F.ls
  have hwp : IntKind.i64.wrap p = p := wrap64 (by omega) (by omega)
  have hF : ∀ v, v < ow.length → ∀ (M' : Mem) (K' : PV → Mem → Prop), K' (.bool (decide (ws.getD v 0 = p))) M' → SemC tab 56 (p64 v :: [.cp (sC f5 o5 f6 o6 ws ss) 0, .cp [p8 p] 0]) M' K' := fun v hv M' K' hK' => by
    have v0 : (0 : Int) ≤ v := by omega
    have vn : (v : Int) < ow.length := by omega
    obtain ⟨w, g2⟩ := some_of (xs := ws) (k := v) (by omega)
    rw [getD_some g2] at hK'
    refine SemC_pure T.h56 (by simp only [PP, P1, P2, P3, P4, P5, P6, P7, P8, P9, P10, P11, P12, P13, P14, L1, P15, N1, N2, N3, N4, N5, N6, N7, I1, I2, I3, I4, I5, I6, I7, reduceIte, reduceCtorEq, PV.under]) ?_
    simp only [af56, PP, P1, P2, P3, P4, P5, P6, P7, P8, P9, P10, P11, P12, P13, P14, L1, P15, N1, N2, N3, N4, N5, N6, N7, I1, I2, I3, I4, I5, I6, I7, reduceIte, reduceCtorEq, v0, vn, g2, lw]
    exact hK'
  have hA : ∀ (k : Nat), k < ow.length → ∀ v, v < ow.length → ∀ (M' : Mem) (K' : PV → Mem → Prop), K' (.bool (decide (pr.getD v 0 ≤ pr.getD k 0))) M' → SemC tab 58 (p64 v :: [.cp (gC f1 o1 f2 o2 f3 o3 f4 o4 ow pr su) 0, .cp [p64 k] 0]) M' K' := fun k hk v hv M' K' hK' => by
    have v0 : (0 : Int) ≤ v := by omega
    have vn : (v : Int) < ow.length := by omega
    have k0 : (0 : Int) ≤ k := by omega
    have kn : (k : Int) < ow.length := by omega
    obtain ⟨a, g1⟩ := some_of (xs := pr) (k := v) (by omega)
    obtain ⟨b, g2⟩ := some_of (xs := pr) (k := k) (by omega)
    rw [getD_some g1, getD_some g2] at hK'
    refine SemC_pure T.h58 (by simp only [PP, P1, P2, P3, P4, P5, P6, P7, P8, P9, P10, P11, P12, P13, P14, L1, P15, N1, N2, N3, N4, N5, N6, N7, I1, I2, I3, I4, I5, I6, I7, reduceIte, reduceCtorEq, PV.under]) ?_
    simp only [af58, PP, P1, P2, P3, P4, P5, P6, P7, P8, P9, P10, P11, P12, P13, P14, L1, P15, N1, N2, N3, N4, N5, N6, N7, I1, I2, I3, I4, I5, I6, I7, reduceIte, reduceCtorEq, v0, vn, k0, kn, g1, g2, hpl]
    exact hK'
  have hT : ∀ (k : Nat), ∀ v, ∀ (M' : Mem) (K' : PV → Mem → Prop), K' (.bool (decide (v = k))) M' → SemC tab 59 (p64 v :: [.cp [p64 k] 0]) M' K' := fun k v M' K' hK' => by
    refine SemC_pure T.h59 (by simp only [PP, P1, P2, P3, P4, P5, P6, P7, P8, P9, P10, P11, P12, P13, P14, L1, P15, N1, N2, N3, N4, N5, N6, N7, I1, I2, I3, I4, I5, I6, I7, reduceIte, reduceCtorEq, PV.under]) ?_
    simp only [af59, PP, P1, P2, P3, P4, P5, P6, P7, P8, P9, P10, P11, P12, P13, P14, L1, P15, N1, N2, N3, N4, N5, N6, N7, I1, I2, I3, I4, I5, I6, I7, reduceIte, reduceCtorEq]
    rw [decide_eq_decide.2 (show (v : Int) = k ↔ v = k by omega)]
    exact hK'
  have hU : ∀ v : Nat, ∀ (M' : Mem) (K' : PV → Mem → Prop), K' (.bool true) M' → SemC tab 61 (p64 v :: []) M' K' := fun v M' K' hK' => by
    refine SemC_pure T.h61 (by simp only [PP, P1, P2, P3, P4, P5, P6, P7, P8, P9, P10, P11, P12, P13, P14, L1, P15, N1, N2, N3, N4, N5, N6, N7, I1, I2, I3, I4, I5, I6, I7, reduceIte, reduceCtorEq, PV.under]) ?_
    simp only [af61, PP, P1, P2, P3, P4, P5, P6, P7, P8, P9, P10, P11, P12, P13, P14, L1, P15, N1, N2, N3, N4, N5, N6, N7, I1, I2, I3, I4, I5, I6, I7, reduceIte, reduceCtorEq]
    exact hK'
  refine SemC_pureS T.h34 (by simp only [PP, P1, P2, P3, P4, P5, P6, P7, P8, P9, P10, P11, P12, P13, P14, L1, P15, N1, N2, N3, N4, N5, N6, N7, I1, I2, I3, I4, I5, I6, I7, reduceIte, reduceCtorEq, PV.under]) ?_
  simp only [af34]
  refine SemW_seq (SemW_of ?_)
  simp only [PP, P1, P2, P3, P4, P5, P6, P7, P8, P9, P10, P11, P12, P13, P14, L1, P15, N1, N2, N3, N4, N5, N6, N7, I1, I2, I3, I4, I5, I6, I7, reduceIte, reduceCtorEq]
  refine SemW_re (GStep.freezeP (b := [.junk, .junk, .junk, .cp (gC f1 o1 f2 o2 f3 o3 f4 o4 ow pr su) 0, .ptr 1 0 0, .ptr 2 0 0, .nils, .nils, .junk, .junk, .junk, .junk, .junk, .junk, .junk, .junk, .junk, .junk, .junk, .junk, .junk, .junk, .junk, .junk, .junk, .junk, .junk, .junk, .junk, .junk, .junk, .junk, .junk, .junk, .junk, .junk, .junk, .junk, .junk, .junk, .junk, .junk, .junk, .junk, .junk, .junk, .junk, .junk, .junk, .junk, .junk, .junk, .junk, .junk, .junk, .junk, .junk, .junk, .junk, .junk, .junk, .junk, .junk, .junk, .junk, .junk, .junk, .junk, .junk, .junk, .junk, .junk, .junk, .junk, .junk, .junk, .junk, .junk, .junk, .junk, .junk, .junk, .junk, .junk, .junk, .junk]) 0 (Nat.zero_le _) rfl (by simp only [PFrzP_nil, PFrzP_junk, PFrzP_same, PFrzP_ptr]) rfl) ?_
  refine SemW_re (GStep.freezeP (b := [.junk, .junk, .junk, .cp (gC f1 o1 f2 o2 f3 o3 f4 o4 ow pr su) 0, .cp (sC f5 o5 f6 o6 ws ss) 0, .ptr 2 0 0, .nils, .nils, .junk, .junk, .junk, .junk, .junk, .junk, .junk, .junk, .junk, .junk, .junk, .junk, .junk, .junk, .junk, .junk, .junk, .junk, .junk, .junk, .junk, .junk, .junk, .junk, .junk, .junk, .junk, .junk, .junk, .junk, .junk, .junk, .junk, .junk, .junk, .junk, .junk, .junk, .junk, .junk, .junk, .junk, .junk, .junk, .junk, .junk, .junk, .junk, .junk, .junk, .junk, .junk, .junk, .junk, .junk, .junk, .junk, .junk, .junk, .junk, .junk, .junk, .junk, .junk, .junk, .junk, .junk, .junk, .junk, .junk, .junk, .junk, .junk, .junk, .junk, .junk, .junk, .junk]) 1 (Nat.zero_le _) rfl (by simp only [PFrzP_nil, PFrzP_junk, PFrzP_same, PFrzP_ptr]) rfl) ?_
  refine SemW_re (GStep.freezeP (b := [.junk, .junk, .junk, .cp (gC f1 o1 f2 o2 f3 o3 f4 o4 ow pr su) 0, .cp (sC f5 o5 f6 o6 ws ss) 0, .cp [p8 p] 0, .nils, .nils, .junk, .junk, .junk, .junk, .junk, .junk, .junk, .junk, .junk, .junk, .junk, .junk, .junk, .junk, .junk, .junk, .junk, .junk, .junk, .junk, .junk, .junk, .junk, .junk, .junk, .junk, .junk, .junk, .junk, .junk, .junk, .junk, .junk, .junk, .junk, .junk, .junk, .junk, .junk, .junk, .junk, .junk, .junk, .junk, .junk, .junk, .junk, .junk, .junk, .junk, .junk, .junk, .junk, .junk, .junk, .junk, .junk, .junk, .junk, .junk, .junk, .junk, .junk, .junk, .junk, .junk, .junk, .junk, .junk, .junk, .junk, .junk, .junk, .junk, .junk, .junk, .junk, .junk]) 2 (Nat.zero_le _) rfl (by simp only [PFrzP_nil, PFrzP_junk, PFrzP_same, PFrzP_ptr]) rfl) ?_
  refine SemW_re (GStep.drop (b := [.junk, .junk, .junk, .cp (gC f1 o1 f2 o2 f3 o3 f4 o4 ow pr su) 0, .cp (sC f5 o5 f6 o6 ws ss) 0, .cp [p8 p] 0, .nils, .nils, .junk, .junk, .junk, .junk, .junk, .junk, .junk, .junk, .junk, .junk, .junk, .junk, .junk, .junk, .junk, .junk, .junk, .junk, .junk, .junk, .junk, .junk, .junk, .junk, .junk, .junk, .junk, .junk, .junk, .junk, .junk, .junk, .junk, .junk, .junk, .junk, .junk, .junk, .junk, .junk, .junk, .junk, .junk, .junk, .junk, .junk, .junk, .junk, .junk, .junk, .junk, .junk, .junk, .junk, .junk, .junk, .junk, .junk, .junk, .junk, .junk, .junk, .junk, .junk, .junk, .junk, .junk, .junk, .junk, .junk, .junk, .junk, .junk, .junk, .junk, .junk, .junk, .junk]) 0 (Nat.zero_le _) (by simp) (by simp only [PWeak_nil, PWeak_junk, PWeak_same, Int.cast_ofNat_Int, List.length_append, List.length_cons, List.length_nil, Nat.zero_add]) (by simp only [PP, P1, P2, P3, P4, P5, P6, P7, P8, P9, P10, P11, P12, P13, P14, L1, P15, N1, N2, N3, N4, N5, N6, N7, I1, I2, I3, I4, I5, I6, I7, reduceIte, reduceCtorEq, PV.under]) rfl rfl) ?_
  refine SemW_of ?_
  simp only [PP, P1, P2, P3, P4, P5, P6, P7, P8, P9, P10, P11, P12, P13, P14, L1, P15, N1, N2, N3, N4, N5, N6, N7, I1, I2, I3, I4, I5, I6, I7, reduceIte, reduceCtorEq]
  refine moves33_p T B hs lw ls ?_
  have R := cer_in (p := p) F B
  have hRef : RefP ow pr ws ss su p ↔ ∃ w, w < ow.length ∧ (∃ v, v < ow.length ∧ ws.getD v 0 = p ∧ (w = v ∨ Rch (fun a b => b ∈ Sf (tabA ow.length (movC ow ws ss su p)) a) (fun _ => True) v w)) ∧ Bad (fun a b => b ∈ Sf (tabA ow.length (movC ow ws ss su p)) a) (zP pr) p w := Iff.rfl
  have lmv : (tabA ow.length (movC ow ws ss su p)).length = ow.length := tabA_len _ _
  revert R hRef hk2 lmv
  generalize tabA ow.length (movC ow ws ss su p) = mv
  intro hk2 R hRef lmv
  rw [hRef] at hk1
  simp only [PP, P1, P2, P3, P4, P5, P6, P7, P8, P9, P10, P11, P12, P13, P14, L1, P15, N1, N2, N3, N4, N5, N6, N7, I1, I2, I3, I4, I5, I6, I7, reduceIte, reduceCtorEq]
  refine reach33_p T R (F := fun v => decide (ws.getD v 0 = p)) (by simp only [PP, P1, P2, P3, P4, P5, P6, P7, P8, P9, P10, P11, P12, P13, P14, L1, P15, N1, N2, N3, N4, N5, N6, N7, I1, I2, I3, I4, I5, I6, I7, reduceIte, reduceCtorEq, PV.under]) (fun v hv => hF v (by omega)) fun sn lsn hsn => ?_
  simp only [PP, P1, P2, P3, P4, P5, P6, P7, P8, P9, P10, P11, P12, P13, P14, L1, P15, N1, N2, N3, N4, N5, N6, N7, I1, I2, I3, I4, I5, I6, I7, reduceIte, reduceCtorEq]
  refine loop1 (fun (k : Nat) => k ≤ ow.length ∧ ∀ w, w < k → bm sn w → ¬ Bad (fun a b => b ∈ Sf mv a) (zP pr) p w)
    (fun k => [.junk, .junk, .junk, .cp (gC f1 o1 f2 o2 f3 o3 f4 o4 ow pr su) 0, .junk, .cp [p8 p] 0, .nils, .junk, slR false true true false .i64 mv, .func (.func 56) [] [.cp (sC f5 o5 f6 o6 ws ss) 0, .cp [p8 p] 0], .junk, .junk, .junk, .junk, .junk, .junk, .junk, .junk, .junk, .junk, .junk, .junk, .junk, .junk, .junk, slB false true sn, p64 sn.length, p64 k, .junk, .junk, .junk, .junk, .junk, .junk, .junk, .junk, .junk, .junk, .junk, .junk, .junk, .junk, .junk, .junk, .junk, .junk, .junk, .junk, .junk, .junk, .junk, .junk, .junk, .junk, .junk, .junk, .junk, .junk, .junk, .junk, .junk, .junk, .junk, .junk, .junk, .junk, .junk, .junk, .junk, .junk, .junk, .junk, .junk, .junk, .junk, .junk, .junk, .junk, .junk, .junk, .junk, .junk, .junk, .junk, .junk, .junk])
    (fun k => []) (fun k => ow.length - k) 0 ⟨by omega, by intro w h; omega⟩ (by simp only [PWeak_nil, PWeak_junk, PWeak_same, Int.cast_ofNat_Int, List.length_append, List.length_cons, List.length_nil, Nat.zero_add]) rfl ?_
  intro k ⟨hle, hbad⟩ ih
  refine SemW_loop (by kernel_rfl) (SemW_seq (SemW_of ?_))
  simp only [PP, P1, P2, P3, P4, P5, P6, P7, P8, P9, P10, P11, P12, P13, P14, L1, P15, N1, N2, N3, N4, N5, N6, N7, I1, I2, I3, I4, I5, I6, I7, reduceIte, reduceCtorEq]
  refine SemW_seq (SemW_of ?_)
  simp only [PP, P1, P2, P3, P4, P5, P6, P7, P8, P9, P10, P11, P12, P13, P14, L1, P15, N1, N2, N3, N4, N5, N6, N7, I1, I2, I3, I4, I5, I6, I7, reduceIte, reduceCtorEq]
  refine QIf.intro (fun c => ?_) (fun c => ?_)
  rotate_left
  · simp only [PP, P1, P2, P3, P4, P5, P6, P7, P8, P9, P10, P11, P12, P13, P14, L1, P15, N1, N2, N3, N4, N5, N6, N7, I1, I2, I3, I4, I5, I6, I7, reduceIte, reduceCtorEq, c]
    refine hk1 ?_
    rintro ⟨w, hw, ⟨v, hv, hwv, hvw⟩, hb⟩
    exact hbad w (by omega) ((hsn w).2 ⟨v, by omega, decide_eq_true hwv, hvw⟩) hb
  have hk' : k < ow.length := by omega
  have k0 : (0 : Int) ≤ k := by omega
  have kn : (k : Int) < ow.length := by omega
  have hwk := wrap_succ (k := k) (by show _ < 1000000000000; omega)
  obtain ⟨z, gz⟩ := some_of (xs := sn) (k := k) (by omega)
  obtain ⟨q, gq⟩ := some_of (xs := pr) (k := k) (by omega)
  have eq : zP pr k = q := getD_some gq
  have q0 : 0 ≤ q := (V.pri0 q (List.mem_of_getElem? gq)).1
  have hrem : q.tmod 2 = q % 2 := Int.tmod_eq_emod_of_nonneg q0
  simp only [PP, P1, P2, P3, P4, P5, P6, P7, P8, P9, P10, P11, P12, P13, P14, L1, P15, N1, N2, N3, N4, N5, N6, N7, I1, I2, I3, I4, I5, I6, I7, reduceIte, reduceCtorEq, c]
  refine SemW_seq (SemW_blk (SemW_seq (SemW_of ?_)))
  simp only [PP, P1, P2, P3, P4, P5, P6, P7, P8, P9, P10, P11, P12, P13, P14, L1, P15, N1, N2, N3, N4, N5, N6, N7, I1, I2, I3, I4, I5, I6, I7, reduceIte, reduceCtorEq, k0, c, gz]
  refine SemW_re (GStep.freezeP (b := [.junk, .junk, .junk, .cp (gC f1 o1 f2 o2 f3 o3 f4 o4 ow pr su) 0, .junk, .cp [p8 p] 0, .nils, .junk, slR false true true false .i64 mv, .func (.func 56) [] [.cp (sC f5 o5 f6 o6 ws ss) 0, .cp [p8 p] 0], .junk, .cp [p64 k] 0, .bool z, .junk, .junk, .junk, .junk, .junk, .junk, .junk, .junk, .junk, .junk, .junk, .junk, slB false true sn, p64 sn.length, p64 k, .junk, .junk, .junk, .junk, .junk, .junk, .junk, .junk, .junk, .junk, .junk, .junk, .junk, .junk, .junk, .junk, .junk, .junk, .junk, .junk, .junk, .junk, .junk, .junk, .junk, .junk, .junk, .junk, .junk, .junk, .junk, .junk, .junk, .junk, .junk, .junk, .junk, .junk, .junk, .junk, .junk, .junk, .junk, .junk, .junk, .junk, .junk, .junk, .junk, .junk, .junk, .junk, .junk, .junk, .junk, .junk, .junk, .junk]) 0 (Nat.zero_le _) rfl (by simp only [PFrzP_nil, PFrzP_junk, PFrzP_same, PFrzP_ptr]) rfl) ?_
  refine SemW_re (GStep.drop (b := [.junk, .junk, .junk, .cp (gC f1 o1 f2 o2 f3 o3 f4 o4 ow pr su) 0, .junk, .cp [p8 p] 0, .nils, .junk, slR false true true false .i64 mv, .func (.func 56) [] [.cp (sC f5 o5 f6 o6 ws ss) 0, .cp [p8 p] 0], .junk, .cp [p64 k] 0, .bool z, .junk, .junk, .junk, .junk, .junk, .junk, .junk, .junk, .junk, .junk, .junk, .junk, slB false true sn, p64 sn.length, p64 k, .junk, .junk, .junk, .junk, .junk, .junk, .junk, .junk, .junk, .junk, .junk, .junk, .junk, .junk, .junk, .junk, .junk, .junk, .junk, .junk, .junk, .junk, .junk, .junk, .junk, .junk, .junk, .junk, .junk, .junk, .junk, .junk, .junk, .junk, .junk, .junk, .junk, .junk, .junk, .junk, .junk, .junk, .junk, .junk, .junk, .junk, .junk, .junk, .junk, .junk, .junk, .junk, .junk, .junk, .junk, .junk, .junk, .junk]) 0 (Nat.zero_le _) (by simp) (by simp only [PWeak_nil, PWeak_junk, PWeak_same, Int.cast_ofNat_Int, List.length_append, List.length_cons, List.length_nil, Nat.zero_add]) (by simp only [PP, P1, P2, P3, P4, P5, P6, P7, P8, P9, P10, P11, P12, P13, P14, L1, P15, N1, N2, N3, N4, N5, N6, N7, I1, I2, I3, I4, I5, I6, I7, reduceIte, reduceCtorEq, PV.under]) rfl rfl) ?_
  refine SemW_of ?_
  have next : (bm sn k → ¬ Bad (fun a b => b ∈ Sf mv a) (zP pr) p k) → k + 1 ≤ ow.length ∧ ∀ w, w < k + 1 → bm sn w → ¬ Bad (fun a b => b ∈ Sf mv a) (zP pr) p w := fun h => ⟨hk', fun w hw hb => by
    by_cases e : w = k
    · subst e; exact h hb
    · exact hbad w (by omega) hb⟩
  cases z with
  | false =>
    simp only [PP, P1, P2, P3, P4, P5, P6, P7, P8, P9, P10, P11, P12, P13, P14, L1, P15, N1, N2, N3, N4, N5, N6, N7, I1, I2, I3, I4, I5, I6, I7, reduceIte, reduceCtorEq]
    refine SemW_of ?_
    simp only [PP, P1, P2, P3, P4, P5, P6, P7, P8, P9, P10, P11, P12, P13, P14, L1, P15, N1, N2, N3, N4, N5, N6, N7, I1, I2, I3, I4, I5, I6, I7, reduceIte, reduceCtorEq, hwk]
    exact SemW_weak (ih (k + 1) (next fun h => by rw [bm_of gz] at h; cases h) (by omega)) (by simp only [PWeak_nil, PWeak_junk, PWeak_same, Int.cast_ofNat_Int, List.length_append, List.length_cons, List.length_nil, Nat.zero_add])
  | true =>
    have hbk : bm sn k := (bm_of gz).2 rfl
    obtain ⟨v1, hv1, hv2, hv3⟩ := (hsn k).1 hbk
    simp only [PP, P1, P2, P3, P4, P5, P6, P7, P8, P9, P10, P11, P12, P13, P14, L1, P15, N1, N2, N3, N4, N5, N6, N7, I1, I2, I3, I4, I5, I6, I7, reduceIte, reduceCtorEq, k0, kn, gq, hpl, hwp, prem (show (2 : Int) ≠ 0 by decide), hrem]
    refine QIf.intro (fun d => ?_) (fun d => ?_)
    · simp only [PP, P1, P2, P3, P4, P5, P6, P7, P8, P9, P10, P11, P12, P13, P14, L1, P15, N1, N2, N3, N4, N5, N6, N7, I1, I2, I3, I4, I5, I6, I7, reduceIte, reduceCtorEq, d]
      refine SemW_of ?_
      simp only [PP, P1, P2, P3, P4, P5, P6, P7, P8, P9, P10, P11, P12, P13, P14, L1, P15, N1, N2, N3, N4, N5, N6, N7, I1, I2, I3, I4, I5, I6, I7, reduceIte, reduceCtorEq, hwk]
      exact SemW_weak (ih (k + 1) (next fun _ h => h.1 (by rw [eq]; exact d)) (by omega)) (by simp only [PWeak_nil, PWeak_junk, PWeak_same, Int.cast_ofNat_Int, List.length_append, List.length_cons, List.length_nil, Nat.zero_add])
    simp only [PP, P1, P2, P3, P4, P5, P6, P7, P8, P9, P10, P11, P12, P13, P14, L1, P15, N1, N2, N3, N4, N5, N6, N7, I1, I2, I3, I4, I5, I6, I7, reduceIte, reduceCtorEq, d]
    refine path_p T R (al := fun v => decide (pr.getD v 0 ≤ pr.getD k 0)) (to := fun v => decide (v = k)) (by omega) (by simp only [PP, P1, P2, P3, P4, P5, P6, P7, P8, P9, P10, P11, P12, P13, P14, L1, P15, N1, N2, N3, N4, N5, N6, N7, I1, I2, I3, I4, I5, I6, I7, reduceIte, reduceCtorEq, PV.under]) (by simp only [PP, P1, P2, P3, P4, P5, P6, P7, P8, P9, P10, P11, P12, P13, P14, L1, P15, N1, N2, N3, N4, N5, N6, N7, I1, I2, I3, I4, I5, I6, I7, reduceIte, reduceCtorEq, PV.under]) (fun v hv => hA k hk' v (by omega)) (fun v hv => hT k v) (fun hno => ?_) (fun lc x hx htx hax hch hlc => ?_)
    · simp only [PP, P1, P2, P3, P4, P5, P6, P7, P8, P9, P10, P11, P12, P13, P14, L1, P15, N1, N2, N3, N4, N5, N6, N7, I1, I2, I3, I4, I5, I6, I7, reduceIte, reduceCtorEq]
      refine SemW_of ?_
      simp only [PP, P1, P2, P3, P4, P5, P6, P7, P8, P9, P10, P11, P12, P13, P14, L1, P15, N1, N2, N3, N4, N5, N6, N7, I1, I2, I3, I4, I5, I6, I7, reduceIte, reduceCtorEq, hwk]
      exact SemW_weak (ih (k + 1) (next fun _ h => hno k (by omega) (decide_eq_true rfl) (h.2.mono' fun x hx => decide_eq_true hx)) (by omega)) (by simp only [PWeak_nil, PWeak_junk, PWeak_same, Int.cast_ofNat_Int, List.length_append, List.length_cons, List.length_nil, Nat.zero_add])
    · have hxk : x = k := of_decide_eq_true htx
      subst hxk
      have hL : LoopR mv pr p x lc := ⟨by omega, hch.mono fun x hx => of_decide_eq_true hx, hlc, by rw [eq]; exact d⟩
      have hk3 := fun stem hst => hk2 x lc stem hL hst
      obtain ⟨xl, hxl⟩ : ∃ xl, xl = nI (x :: lc) := ⟨_, rfl⟩
      have hx0 : ¬ xl.length = 0 := by rw [hxl]; simp
      rw [← hxl] at hk3 ⊢
      simp only [PP, P1, P2, P3, P4, P5, P6, P7, P8, P9, P10, P11, P12, P13, P14, L1, P15, N1, N2, N3, N4, N5, N6, N7, I1, I2, I3, I4, I5, I6, I7, reduceIte, reduceCtorEq, hx0]
      refine loop2 (fun (i : Nat) (st : PV) => i ≤ ow.length ∧ ((st = .nils ∧ ∀ v, v < i → ws.getD v 0 = p → v ≠ x → ¬ ws.getD x 0 = p → ¬ Rch (fun a b => b ∈ Sf mv a) (fun _ => True) v x) ∨ ∃ (v : Nat) (sc : List Nat), st = slI false true .i64 (nI (v :: sc)) ∧ v < mv.length ∧ ws.getD v 0 = p ∧ ¬ ws.getD x 0 = p ∧ Ch (Sf mv) (fun _ => True) x (v :: sc) ∧ sc.length + 1 ≤ mv.length))
        (fun i st => [.junk, .junk, .junk, .junk, .junk, .junk, st, slI false true .i64 xl, slR false true true false .i64 mv, .func (.func 56) [] [.cp (sC f5 o5 f6 o6 ws ss) 0, .cp [p8 p] 0], .junk, .cp [p64 x] 0, .junk, .junk, .func (.func 59) [] [.cp [p64 x] 0], .func (.func 61) [] [], .junk, .junk, .junk, .junk, .junk, .junk, .junk, .junk, .junk, .junk, .junk, .junk, .junk, .junk, .junk, .junk, .junk, .junk, .junk, .junk, .junk, .junk, .junk, .junk, .junk, .junk, .junk, .junk, .junk, .junk, .junk, .junk, .junk, .junk, .junk, .junk, .junk, .junk, .junk, p64 mv.length, p64 i, .junk, .junk, .junk, .junk, .junk, .junk, .junk, .junk, .junk, .junk, .junk, .junk, .junk, .junk, .junk, .junk, .junk, .junk, .junk, .junk, .junk, .junk, .junk, .junk, .junk, .junk, .junk, .junk, .junk])
        (fun i st => []) (fun i st => ow.length - i) 0 .nils ⟨by omega, .inl ⟨rfl, by intro v h; omega⟩⟩ (by simp only [PWeak_nil, PWeak_junk, PWeak_same, Int.cast_ofNat_Int, List.length_append, List.length_cons, List.length_nil, Nat.zero_add]) rfl ?_
      intro i st ⟨hle2, hst⟩ ih2
      have hwi := wrap_succ (k := i) (by show _ < 1000000000000; omega)
      rcases hst with ⟨rfl, hno⟩ | ⟨v, sc, rfl, w1, w2, w3, w4, w5⟩
      · refine SemW_go (by kernel_rfl) ?_
        simp only [PP, P1, P2, P3, P4, P5, P6, P7, P8, P9, P10, P11, P12, P13, P14, L1, P15, N1, N2, N3, N4, N5, N6, N7, I1, I2, I3, I4, I5, I6, I7, reduceIte, reduceCtorEq]
        refine QIf.intro (fun c2 => ?_) (fun c2 => ?_)
        · have hi : i < ow.length := by omega
          have nx : (ws.getD i 0 = p → i ≠ x → ¬ ws.getD x 0 = p → ¬ Rch (fun a b => b ∈ Sf mv a) (fun _ => True) i x) → ∀ v, v < i + 1 → ws.getD v 0 = p → v ≠ x → ¬ ws.getD x 0 = p → ¬ Rch (fun a b => b ∈ Sf mv a) (fun _ => True) v x := fun h v hv => by
            by_cases e : v = i
            · subst e; exact h
            · exact hno v (by omega)
          simp only [PP, P1, P2, P3, P4, P5, P6, P7, P8, P9, P10, P11, P12, P13, P14, L1, P15, N1, N2, N3, N4, N5, N6, N7, I1, I2, I3, I4, I5, I6, I7, reduceIte, reduceCtorEq, c2]
          refine hF i hi _ _ ?_
          by_cases d1 : ws.getD i 0 = p
          · rw [decide_eq_true d1]
            by_cases d2 : i = x
            · subst d2
              simp only [PP, P1, P2, P3, P4, P5, P6, P7, P8, P9, P10, P11, P12, P13, P14, L1, P15, N1, N2, N3, N4, N5, N6, N7, I1, I2, I3, I4, I5, I6, I7, reduceIte, reduceCtorEq, hwi]
              exact SemW_weak (ih2 (i + 1) .nils ⟨by omega, .inl ⟨rfl, nx fun _ h => absurd rfl h⟩⟩ (by omega)) (by simp only [PWeak_nil, PWeak_junk, PWeak_same, Int.cast_ofNat_Int, List.length_append, List.length_cons, List.length_nil, Nat.zero_add])
            · have d2' : ¬ (i : Int) = (x : Int) := by omega
              simp only [PP, P1, P2, P3, P4, P5, P6, P7, P8, P9, P10, P11, P12, P13, P14, L1, P15, N1, N2, N3, N4, N5, N6, N7, I1, I2, I3, I4, I5, I6, I7, reduceIte, reduceCtorEq, d2', hwi]
              refine hF x hk' _ _ ?_
              by_cases d3 : ws.getD x 0 = p
              · rw [decide_eq_true d3]
                simp only [PP, P1, P2, P3, P4, P5, P6, P7, P8, P9, P10, P11, P12, P13, P14, L1, P15, N1, N2, N3, N4, N5, N6, N7, I1, I2, I3, I4, I5, I6, I7, reduceIte, reduceCtorEq, hwi]
                exact SemW_weak (ih2 (i + 1) .nils ⟨by omega, .inl ⟨rfl, nx fun _ _ h => absurd d3 h⟩⟩ (by omega)) (by simp only [PWeak_nil, PWeak_junk, PWeak_same, Int.cast_ofNat_Int, List.length_append, List.length_cons, List.length_nil, Nat.zero_add])
              · rw [decide_eq_false d3]
                simp only [PP, P1, P2, P3, P4, P5, P6, P7, P8, P9, P10, P11, P12, P13, P14, L1, P15, N1, N2, N3, N4, N5, N6, N7, I1, I2, I3, I4, I5, I6, I7, reduceIte, reduceCtorEq, hwi]
                refine path_p T R (al := fun v => true) (to := fun v => decide (v = x)) (by omega) (by simp only [PP, P1, P2, P3, P4, P5, P6, P7, P8, P9, P10, P11, P12, P13, P14, L1, P15, N1, N2, N3, N4, N5, N6, N7, I1, I2, I3, I4, I5, I6, I7, reduceIte, reduceCtorEq, PV.under]) (by simp only [PP, P1, P2, P3, P4, P5, P6, P7, P8, P9, P10, P11, P12, P13, P14, L1, P15, N1, N2, N3, N4, N5, N6, N7, I1, I2, I3, I4, I5, I6, I7, reduceIte, reduceCtorEq, PV.under]) (fun v hv => hU v) (fun v hv => hT x v) (fun hno => ?_) (fun sc y hy hty hay hcy hls => ?_)
                · simp only [PP, P1, P2, P3, P4, P5, P6, P7, P8, P9, P10, P11, P12, P13, P14, L1, P15, N1, N2, N3, N4, N5, N6, N7, I1, I2, I3, I4, I5, I6, I7, reduceIte, reduceCtorEq, hwi]
                  exact SemW_weak (ih2 (i + 1) .nils ⟨by omega, .inl ⟨rfl, nx fun _ _ _ h => hno x (by omega) (decide_eq_true rfl) (h.mono' fun _ _ => rfl)⟩⟩ (by omega)) (by simp only [PWeak_nil, PWeak_junk, PWeak_same, Int.cast_ofNat_Int, List.length_append, List.length_cons, List.length_nil, Nat.zero_add])
                · have hyx : y = x := of_decide_eq_true hty
                  subst hyx
                  obtain ⟨yl, hyl⟩ : ∃ yl, yl = nI (i :: sc) := ⟨_, rfl⟩
                  rw [← hyl]
                  simp only [PP, P1, P2, P3, P4, P5, P6, P7, P8, P9, P10, P11, P12, P13, P14, L1, P15, N1, N2, N3, N4, N5, N6, N7, I1, I2, I3, I4, I5, I6, I7, reduceIte, reduceCtorEq, hwi]
                  exact SemW_weak (ih2 (i + 1) (slI false true .i64 yl) ⟨by omega, .inr ⟨i, sc, by rw [hyl], by omega, d1, d3, hcy.mono fun _ _ => trivial, hls⟩⟩ (by omega)) (by simp only [PWeak_nil, PWeak_junk, PWeak_same, Int.cast_ofNat_Int, List.length_append, List.length_cons, List.length_nil, Nat.zero_add])
          · rw [decide_eq_false d1]
            simp only [PP, P1, P2, P3, P4, P5, P6, P7, P8, P9, P10, P11, P12, P13, P14, L1, P15, N1, N2, N3, N4, N5, N6, N7, I1, I2, I3, I4, I5, I6, I7, reduceIte, reduceCtorEq, hwi]
            exact SemW_weak (ih2 (i + 1) .nils ⟨by omega, .inl ⟨rfl, nx fun h => absurd h d1⟩⟩ (by omega)) (by simp only [PWeak_nil, PWeak_junk, PWeak_same, Int.cast_ofNat_Int, List.length_append, List.length_cons, List.length_nil, Nat.zero_add])
        · simp only [PP, P1, P2, P3, P4, P5, P6, P7, P8, P9, P10, P11, P12, P13, P14, L1, P15, N1, N2, N3, N4, N5, N6, N7, I1, I2, I3, I4, I5, I6, I7, reduceIte, reduceCtorEq, c2]
          refine hk3 .nils ?_
          by_cases d3 : ws.getD x 0 = p
          · exact .inl ⟨rfl, d3⟩
          · exfalso
            have hv2 := of_decide_eq_true hv2
            rcases hv3 with e | e
            · subst e; exact d3 hv2
            · exact hno v1 (by omega) hv2 (fun e' => d3 (e' ▸ hv2)) d3 e
      · have hst0 : StemR mv ws p x (slI false true .i64 (nI (v :: sc))) := .inr ⟨v, sc, rfl, w1, w2, w3, w4, w5⟩
        have hk4 := hk3 _ hst0
        have stay : ∀ st, st = slI false true .i64 (nI (v :: sc)) → ∃ (v : Nat) (sc : List Nat), st = slI false true .i64 (nI (v :: sc)) ∧ v < mv.length ∧ ws.getD v 0 = p ∧ ¬ ws.getD x 0 = p ∧ Ch (Sf mv) (fun _ => True) x (v :: sc) ∧ sc.length + 1 ≤ mv.length := fun st e => ⟨v, sc, e, w1, w2, w3, w4, w5⟩
        obtain ⟨yl, hyl⟩ : ∃ yl, yl = nI (v :: sc) := ⟨_, rfl⟩
        have hy0 : ¬ yl.length = 0 := by rw [hyl]; simp
        rw [← hyl] at hk4 stay ⊢
        refine SemW_go (by kernel_rfl) ?_
        simp only [PP, P1, P2, P3, P4, P5, P6, P7, P8, P9, P10, P11, P12, P13, P14, L1, P15, N1, N2, N3, N4, N5, N6, N7, I1, I2, I3, I4, I5, I6, I7, reduceIte, reduceCtorEq]
        refine QIf.intro (fun c2 => ?_) (fun c2 => ?_)
        · have hi : i < ow.length := by omega
          have keep := ih2 (i + 1) (slI false true .i64 yl) ⟨by omega, .inr (stay _ rfl)⟩ (by omega)
          simp only [PP, P1, P2, P3, P4, P5, P6, P7, P8, P9, P10, P11, P12, P13, P14, L1, P15, N1, N2, N3, N4, N5, N6, N7, I1, I2, I3, I4, I5, I6, I7, reduceIte, reduceCtorEq, c2]
          refine hF i hi _ _ ?_
          by_cases d1 : ws.getD i 0 = p
          · rw [decide_eq_true d1]
            by_cases d2 : i = x
            · subst d2
              simp only [PP, P1, P2, P3, P4, P5, P6, P7, P8, P9, P10, P11, P12, P13, P14, L1, P15, N1, N2, N3, N4, N5, N6, N7, I1, I2, I3, I4, I5, I6, I7, reduceIte, reduceCtorEq, hwi, hy0]
              exact SemW_weak keep (by simp only [PWeak_nil, PWeak_junk, PWeak_same, Int.cast_ofNat_Int, List.length_append, List.length_cons, List.length_nil, Nat.zero_add])
            · have d2' : ¬ (i : Int) = (x : Int) := by omega
              simp only [PP, P1, P2, P3, P4, P5, P6, P7, P8, P9, P10, P11, P12, P13, P14, L1, P15, N1, N2, N3, N4, N5, N6, N7, I1, I2, I3, I4, I5, I6, I7, reduceIte, reduceCtorEq, d2', hwi, hy0]
              exact SemW_weak keep (by simp only [PWeak_nil, PWeak_junk, PWeak_same, Int.cast_ofNat_Int, List.length_append, List.length_cons, List.length_nil, Nat.zero_add])
          · rw [decide_eq_false d1]
            simp only [PP, P1, P2, P3, P4, P5, P6, P7, P8, P9, P10, P11, P12, P13, P14, L1, P15, N1, N2, N3, N4, N5, N6, N7, I1, I2, I3, I4, I5, I6, I7, reduceIte, reduceCtorEq, hwi, hy0]
            exact SemW_weak keep (by simp only [PWeak_nil, PWeak_junk, PWeak_same, Int.cast_ofNat_Int, List.length_append, List.length_cons, List.length_nil, Nat.zero_add])
        · simp only [PP, P1, P2, P3, P4, P5, P6, P7, P8, P9, P10, P11, P12, P13, P14, L1, P15, N1, N2, N3, N4, N5, N6, N7, I1, I2, I3, I4, I5, I6, I7, reduceIte, reduceCtorEq, c2]
          exact hk4
end
end Go.Am.Ar
set_option linter.unusedVariables false
set_option linter.unusedSimpArgs false
set_option maxRecDepth 10000
namespace Go.Am.Ar
open Go.Am renaming pchk → P1, pold → P2, PKNo → P3, ppack → P4, PObj.under → P5, pput → P6, ptset → P7, ptget → P8, pev → P9, ofAV → P10, ofAV1 → P11, ppad → P12, pfill → P13, prepl → P14, AO.effect → P15
open List renaming replicate → L1
open Nat renaming reduceAdd → N1, reduceSub → N2, reduceMul → N3, reduceLT → N4, reduceLeDiff → N5, reduceEqDiff → N6, reduceBEq → N7
open Int renaming reduceToNat → I1, reduceLT → I2, reduceLE → I3, reduceEq → I4, reduceAdd → I5, reduceSub → I6, reduceNeg → I7
section
variable {tab : FuncId → Option AF} (T : HasA tab)
include T
def ChkE (ow pr : List Int) (su : List (List Int)) (ws ss : List Int) (e : Int) : Prop := (¬ e = 0 ∧ FormE ow pr su ws ss e) ∨ (FormP ow pr su ws ss ∧ ¬ CorrP ow pr su ws ss ∧ e = 14) ∨ (CorrP ow pr su ws ss ∧ e = 0)
omit T in
theorem ChkE.eq {ow pr ws ss : List Int} {su : List (List Int)} {e e' : Int} (h : ChkE ow pr su ws ss e) (h' : ChkE ow pr su ws ss e') : e = e' := by
  rcases h with ⟨h1, h2⟩ | ⟨h1, h2, rfl⟩ | ⟨h1, rfl⟩
  · have nf : ¬ FormP ow pr su ws ss := fun q => h1 (h2.zero.2 q)
    rcases h' with ⟨g1, g2⟩ | ⟨g1, g2, rfl⟩ | ⟨g1, rfl⟩
    · exact h2.eq g2
    · exact absurd g1 nf
    · exact absurd g1.formP nf
  · rcases h' with ⟨g1, g2⟩ | ⟨g1, g2, rfl⟩ | ⟨g1, rfl⟩
    · exact absurd (g2.zero.2 h1) g1
    · rfl
    · exact absurd g1 h2
  · rcases h' with ⟨g1, g2⟩ | ⟨g1, g2, rfl⟩ | ⟨g1, rfl⟩
    · exact absurd (g2.zero.2 h1.formP) g1
    · exact absurd h1 g2
    · rfl
end
end Go.Am.Ar
set_option linter.unusedVariables false
set_option linter.unusedSimpArgs false
set_option maxRecDepth 10000
namespace Go.Am.Ar
open Go.Am renaming pchk → P1, pold → P2, PKNo → P3, ppack → P4, PObj.under → P5, pput → P6, ptset → P7, ptget → P8, pev → P9, ofAV → P10, ofAV1 → P11, ppad → P12, pfill → P13, prepl → P14, AO.effect → P15
open List renaming replicate → L1
open Nat renaming reduceAdd → N1, reduceSub → N2, reduceMul → N3, reduceLT → N4, reduceLeDiff → N5, reduceEqDiff → N6, reduceBEq → N7
open Int renaming reduceToNat → I1, reduceLT → I2, reduceLE → I3, reduceEq → I4, reduceAdd → I5, reduceSub → I6, reduceNeg → I7
theorem LoopR.par {ow pr ws ss : List Int} {su : List (List Int)} {p : Int} {w : Nat} {lc : List Nat} {stem : PV} (F : FormP ow pr su ws ss) (hp : p = 0 ∨ p = 1) (hl : LoopR (tabA ow.length (movC ow ws ss su p)) pr p w lc) (hs : StemR (tabA ow.length (movC ow ws ss su p)) ws p w stem) : ¬ CorrP ow pr su ws ss := fun h => by
  have h2 := (corr_iff F).1 h
  have := loop_ref hl hs
  rcases hp with rfl | rfl
  · exact h2.1 this
  · exact h2.2 this
section
variable {tab : FuncId → Option AF} (T : HasA tab)
include T
theorem refuteAll_p {M : Mem} {K : PV → Mem → Prop} {f1 o1 f2 o2 f3 o3 f4 o4 f5 o5 f6 o6 : Bool} {ow pr ws ss : List Int} {su : List (List Int)} (B : Bnd ow pr su)
    (hk0 : ∀ e : Int, ¬ e = 0 → FormE ow pr su ws ss e → K (.tuple [.nils, .nils, p64 e]) M)
    (hk1 : CorrP ow pr su ws ss → K (.tuple [.nils, .nils, p64 0]) M)
    (hk2 : ∀ (p : Int) (w : Nat) (lc : List Nat) (stem : PV), FormP ow pr su ws ss → (p = 0 ∨ p = 1) → LoopR (tabA ow.length (movC ow ws ss su p)) pr p w lc → StemR (tabA ow.length (movC ow ws ss su p)) ws p w stem → K (.tuple [stem, slI false true .i64 (nI (w :: lc)), p64 14]) M) :
    SemC tab 10 [gmP f1 o1 f2 o2 f3 o3 f4 o4 ow pr su, .agg [slI f5 o5 .u8 ws, slI f6 o6 .i64 ss]] M K := by
  refine SemC_pure T.h10 (by simp only [PP, P1, P2, P3, P4, P5, P6, P7, P8, P9, P10, P11, P12, P13, P14, L1, P15, N1, N2, N3, N4, N5, N6, N7, I1, I2, I3, I4, I5, I6, I7, reduceIte, reduceCtorEq]) ?_
  simp only [af10, PP, P1, P2, P3, P4, P5, P6, P7, P8, P9, P10, P11, P12, P13, P14, L1, P15, N1, N2, N3, N4, N5, N6, N7, I1, I2, I3, I4, I5, I6, I7, reduceIte, reduceCtorEq]
  refine form33_p T B fun e he => ?_
  simp only [PP, P1, P2, P3, P4, P5, P6, P7, P8, P9, P10, P11, P12, P13, P14, L1, P15, N1, N2, N3, N4, N5, N6, N7, I1, I2, I3, I4, I5, I6, I7, reduceIte, reduceCtorEq]
  refine QIf.intro (fun c1 => ?_) (fun c1 => ?_)
  rotate_left
  · simp only [PP, P1, P2, P3, P4, P5, P6, P7, P8, P9, P10, P11, P12, P13, P14, L1, P15, N1, N2, N3, N4, N5, N6, N7, I1, I2, I3, I4, I5, I6, I7, reduceIte, reduceCtorEq, c1]
    exact hk0 e c1 he
  have F := he.zero.1 c1
  simp only [PP, P1, P2, P3, P4, P5, P6, P7, P8, P9, P10, P11, P12, P13, P14, L1, P15, N1, N2, N3, N4, N5, N6, N7, I1, I2, I3, I4, I5, I6, I7, reduceIte, reduceCtorEq, c1]
  refine loop1 (fun (q : Nat) => q ≤ 2 ∧ ∀ p : Int, 0 ≤ p → p < q → ¬ RefP ow pr ws ss su p)
    (fun q => [.junk, .junk, .ptr 0 0 0, .ptr 1 0 0, .junk, .junk, .junk, .junk, .junk, .junk, .junk, .junk, .junk, .junk, .junk, p8 q, .junk, .junk, .junk, .junk, .junk, .junk, .junk, .junk, .junk, .junk, .junk, .junk, .junk, .junk])
    (fun q => [.cells 0 0 [slI f1 o1 .u8 ow, slI f2 o2 .i64 pr, slR f3 o3 f4 o4 .i64 su], .cells 0 0 [slI f5 o5 .u8 ws, slI f6 o6 .i64 ss]])
    (fun q => 2 - q) 0 ⟨by omega, by intro v h1 h2; omega⟩ (by simp only [PWeak_nil, PWeak_junk, PWeak_same, Int.cast_ofNat_Int, List.length_append, List.length_cons, List.length_nil, Nat.zero_add]) rfl ?_
  intro q ⟨hle2, hq⟩ ih2
  refine SemW_go (by kernel_rfl) ?_
  simp only [PP, P1, P2, P3, P4, P5, P6, P7, P8, P9, P10, P11, P12, P13, P14, L1, P15, N1, N2, N3, N4, N5, N6, N7, I1, I2, I3, I4, I5, I6, I7, reduceIte, reduceCtorEq]
  refine QIf.intro (fun d => ?_) (fun d => ?_)
  · have hq2 : q < 2 := by omega
    have hwq : IntKind.u8.wrap ((q : Int) + 1) = ((q + 1 : Nat) : Int) := by
      have : q = 0 ∨ q = 1 := by omega
      rcases this with rfl | rfl <;> rfl
    simp only [PP, P1, P2, P3, P4, P5, P6, P7, P8, P9, P10, P11, P12, P13, P14, L1, P15, N1, N2, N3, N4, N5, N6, N7, I1, I2, I3, I4, I5, I6, I7, reduceIte, reduceCtorEq, d]
    refine refute_p T B F (by omega) (fun hno => ?_) (fun w lc stem hL hS => ?_)
    · simp only [PP, P1, P2, P3, P4, P5, P6, P7, P8, P9, P10, P11, P12, P13, P14, L1, P15, N1, N2, N3, N4, N5, N6, N7, I1, I2, I3, I4, I5, I6, I7, reduceIte, reduceCtorEq, hwq]
      refine SemW_weak (ih2 (q + 1) ⟨by omega, fun p h1 h2 => ?_⟩ (by omega)) (by simp only [PWeak_nil, PWeak_junk, PWeak_same, Int.cast_ofNat_Int, List.length_append, List.length_cons, List.length_nil, Nat.zero_add])
      by_cases e : p = q
      · subst e; exact hno
      · exact hq p h1 (by omega)
    · have hk3 := hk2 q w lc stem F (by omega) hL hS
      obtain ⟨xl, hxl⟩ : ∃ xl, xl = nI (w :: lc) := ⟨_, rfl⟩
      have hx0 : ¬ xl.length = 0 := by rw [hxl]; simp
      rw [← hxl] at hk3 ⊢
      rcases hS with ⟨rfl, _⟩ | ⟨v, sc, rfl, _⟩
      · simp only [PP, P1, P2, P3, P4, P5, P6, P7, P8, P9, P10, P11, P12, P13, P14, L1, P15, N1, N2, N3, N4, N5, N6, N7, I1, I2, I3, I4, I5, I6, I7, reduceIte, reduceCtorEq, hx0]
        exact hk3
      · revert hk3
        generalize nI (v :: sc) = yl
        intro hk3
        simp only [PP, P1, P2, P3, P4, P5, P6, P7, P8, P9, P10, P11, P12, P13, P14, L1, P15, N1, N2, N3, N4, N5, N6, N7, I1, I2, I3, I4, I5, I6, I7, reduceIte, reduceCtorEq, hx0]
        exact hk3
  · have : q = 2 := by omega
    subst this
    simp only [PP, P1, P2, P3, P4, P5, P6, P7, P8, P9, P10, P11, P12, P13, P14, L1, P15, N1, N2, N3, N4, N5, N6, N7, I1, I2, I3, I4, I5, I6, I7, reduceIte, reduceCtorEq, d]
    exact hk1 ((corr_iff F).2 ⟨hq 0 (by omega) (by omega), hq 1 (by omega) (by omega)⟩)
theorem check33_p {M : Mem} {K : PV → Mem → Prop} {f1 o1 f2 o2 f3 o3 f4 o4 f5 o5 f6 o6 : Bool} {ow pr ws ss : List Int} {su : List (List Int)} (B : Bnd ow pr su)
    (hk : ∀ e : Int, ChkE ow pr su ws ss e → K (p64 e) M) :
    SemC tab 14 [gmP f1 o1 f2 o2 f3 o3 f4 o4 ow pr su, .agg [slI f5 o5 .u8 ws, slI f6 o6 .i64 ss]] M K := by
  refine SemC_pure T.h14 (by simp only [PP, P1, P2, P3, P4, P5, P6, P7, P8, P9, P10, P11, P12, P13, P14, L1, P15, N1, N2, N3, N4, N5, N6, N7, I1, I2, I3, I4, I5, I6, I7, reduceIte, reduceCtorEq]) ?_
  simp only [af14, PP, P1, P2, P3, P4, P5, P6, P7, P8, P9, P10, P11, P12, P13, P14, L1, P15, N1, N2, N3, N4, N5, N6, N7, I1, I2, I3, I4, I5, I6, I7, reduceIte, reduceCtorEq]
  refine refuteAll_p T B (fun e h0 he => ?_) (fun h => ?_) (fun p w lc stem F hp hL hS => ?_)
  · simp only [PP, P1, P2, P3, P4, P5, P6, P7, P8, P9, P10, P11, P12, P13, P14, L1, P15, N1, N2, N3, N4, N5, N6, N7, I1, I2, I3, I4, I5, I6, I7, reduceIte, reduceCtorEq]
    exact hk e (.inl ⟨h0, he⟩)
  · simp only [PP, P1, P2, P3, P4, P5, P6, P7, P8, P9, P10, P11, P12, P13, P14, L1, P15, N1, N2, N3, N4, N5, N6, N7, I1, I2, I3, I4, I5, I6, I7, reduceIte, reduceCtorEq]
    exact hk 0 (.inr (.inr ⟨h, rfl⟩))
  · simp only [PP, P1, P2, P3, P4, P5, P6, P7, P8, P9, P10, P11, P12, P13, P14, L1, P15, N1, N2, N3, N4, N5, N6, N7, I1, I2, I3, I4, I5, I6, I7, reduceIte, reduceCtorEq]
    exact hk 14 (.inr (.inl ⟨F, hL.par F hp hS, rfl⟩))
end
end Go.Am.Ar
set_option linter.unusedVariables false
set_option linter.unusedSimpArgs false
set_option maxRecDepth 10000
namespace Go.Am.Ar
open Go.Am renaming pchk → P1, pold → P2, PKNo → P3, ppack → P4, PObj.under → P5, pput → P6, ptset → P7, ptget → P8, pev → P9, ofAV → P10, ofAV1 → P11, ppad → P12, pfill → P13, prepl → P14, AO.effect → P15
open List renaming replicate → L1
open Nat renaming reduceAdd → N1, reduceSub → N2, reduceMul → N3, reduceLT → N4, reduceLeDiff → N5, reduceEqDiff → N6, reduceBEq → N7
open Int renaming reduceToNat → I1, reduceLT → I2, reduceLE → I3, reduceEq → I4, reduceAdd → I5, reduceSub → I6, reduceNeg → I7
def ClsA (ow ws ss : List Int) (su : List (List Int)) (p : Int) (v : Nat) : Prop := ws.getD v 0 = p → ∀ u ∈ movC ow ws ss su p v, ws.getD u.toNat 0 = p
theorem closP_iff {ow pr ws ss : List Int} {su : List (List Int)} (F : FormP ow pr su ws ss) (hw0 : ∀ x ∈ ws, 0 ≤ x) : ClosP ow ws ss su ↔ ∀ p : Int, p = 0 ∨ p = 1 → ∀ v, v < ow.length → ClsA ow ws ss su p v := by
  constructor
  · intro h p hp v hv hw u hu
    unfold movC at hu
    by_cases e : ow.getD v 0 = p ∧ ws.getD v 0 = p
    · rw [if_pos e, List.mem_singleton] at hu
      subst hu
      rw [← hw]
      exact h v hv _ ((F.form v hv).own (by rw [e.1, e.2])) (.inr rfl)
    · rw [if_neg e] at hu
      rw [← hw]
      exact h v hv u hu (.inl fun q => e ⟨by rw [← q]; exact hw, hw⟩)
  · intro h v hv u hu hc
    have h1 := (F.form v hv).k
    obtain ⟨w, gw⟩ := some_of (xs := ws) (k := v) (by rw [F.lw]; exact hv)
    have h0 := hw0 w (List.mem_of_getElem? gw)
    have ew : ws.getD v 0 = w := getD_some gw
    refine h (ws.getD v 0) (by omega) v hv rfl u ?_
    unfold movC
    by_cases e : ow.getD v 0 = ws.getD v 0 ∧ ws.getD v 0 = ws.getD v 0
    · rw [if_pos e, List.mem_singleton]
      rcases hc with q | q
      · exact absurd e.1.symm q
      · exact q.symm
    · rw [if_neg e]; exact hu
def ClsE (ow pr : List Int) (su : List (List Int)) (ws ss : List Int) (b : Bool) (e : Int) : Prop := (¬ e = 0 ∧ FormE ow pr su ws ss e ∧ b = false) ∨ (FormP ow pr su ws ss ∧ e = 0 ∧ (b = true ↔ ClosP ow ws ss su))
theorem ClsE.eq {ow pr ws ss : List Int} {su : List (List Int)} {b b' : Bool} {e e' : Int} (h : ClsE ow pr su ws ss b e) (h' : ClsE ow pr su ws ss b' e') : b = b' ∧ e = e' := by
  rcases h with ⟨h1, h2, rfl⟩ | ⟨h1, rfl, h2⟩
  · rcases h' with ⟨g1, g2, rfl⟩ | ⟨g1, rfl, g2⟩
    · exact ⟨rfl, h2.eq g2⟩
    · exact absurd (h2.zero.2 g1) h1
  · rcases h' with ⟨g1, g2, rfl⟩ | ⟨g1, rfl, g2⟩
    · exact absurd (g2.zero.2 h1) g1
    · refine ⟨?_, rfl⟩
      rw [Bool.eq_iff_iff, h2, g2]
section
variable {tab : FuncId → Option AF} (T : HasA tab)
include T
theorem idxF_p {M : Mem} {K : PV → Mem → Prop} {f o : Bool} {xs : List Int} {g : FuncId} {cap : List PV} {F : Int → Bool} (hm : xs.length < 1000000000000) (hu : underL 0 cap = true)
    (hf : ∀ x ∈ xs, ∀ (M' : Mem) (K' : PV → Mem → Prop), K' (.bool (F x)) M' → SemC tab g (p64 x :: cap) M' K')
    (hk1 : (∀ x ∈ xs, F x = false) → K (p64 (-1)) M) (hk2 : ∀ (k : Nat) (x : Int), x ∈ xs → F x = true → K (p64 k) M) :
    SemC tab 65 [slI f o .i64 xs, .func (.func g) [] cap] M K := by
  refine SemC_pure T.h65 (by simp only [PP, P1, P2, P3, P4, P5, P6, P7, P8, P9, P10, P11, P12, P13, P14, L1, P15, N1, N2, N3, N4, N5, N6, N7, I1, I2, I3, I4, I5, I6, I7, reduceIte, reduceCtorEq, PV.under, hu]) ?_
  simp only [af65, PP, P1, P2, P3, P4, P5, P6, P7, P8, P9, P10, P11, P12, P13, P14, L1, P15, N1, N2, N3, N4, N5, N6, N7, I1, I2, I3, I4, I5, I6, I7, reduceIte, reduceCtorEq]
  refine loop1 (fun (k : Nat) => k ≤ xs.length ∧ ∀ j, j < k → ∀ x, xs[j]? = some x → F x = false) (fun k => [slI f o .i64 xs, .func (.func g) [] cap, .junk, .junk, .junk, .junk, .junk, p64 xs.length, p64 k, .junk, .junk, .junk, .junk, .junk, .junk, .junk, .junk, .junk, .junk])
    (fun k => []) (fun k => xs.length - k) 0 ⟨by omega, by intro j h; omega⟩ (by simp only [PWeak_nil, PWeak_junk, PWeak_same, Int.cast_ofNat_Int, List.length_append, List.length_cons, List.length_nil, Nat.zero_add]) rfl ?_
  intro k ⟨hle, hd⟩ ih
  refine SemW_go (by kernel_rfl) ?_
  simp only [PP, P1, P2, P3, P4, P5, P6, P7, P8, P9, P10, P11, P12, P13, P14, L1, P15, N1, N2, N3, N4, N5, N6, N7, I1, I2, I3, I4, I5, I6, I7, reduceIte, reduceCtorEq]
  refine QIf.intro (fun c => ?_) (fun c => ?_)
  · have hk' : k < xs.length := by omega
    have k0 : (0 : Int) ≤ k := by omega
    have hwk := wrap_succ (k := k) (by show _ < 1000000000000; omega)
    obtain ⟨x, gx⟩ := some_of (xs := xs) (k := k) hk'
    simp only [PP, P1, P2, P3, P4, P5, P6, P7, P8, P9, P10, P11, P12, P13, P14, L1, P15, N1, N2, N3, N4, N5, N6, N7, I1, I2, I3, I4, I5, I6, I7, reduceIte, reduceCtorEq, c, k0, gx]
    refine hf x (List.mem_of_getElem? gx) _ _ ?_
    cases hF : F x with
    | true =>
      simp only [PP, P1, P2, P3, P4, P5, P6, P7, P8, P9, P10, P11, P12, P13, P14, L1, P15, N1, N2, N3, N4, N5, N6, N7, I1, I2, I3, I4, I5, I6, I7, reduceIte, reduceCtorEq]
      exact hk2 k x (List.mem_of_getElem? gx) hF
    | false =>
      simp only [PP, P1, P2, P3, P4, P5, P6, P7, P8, P9, P10, P11, P12, P13, P14, L1, P15, N1, N2, N3, N4, N5, N6, N7, I1, I2, I3, I4, I5, I6, I7, reduceIte, reduceCtorEq, hwk]
      refine SemW_weak (ih (k + 1) ⟨by omega, fun j hj y gy => ?_⟩ (by omega)) (by simp only [PWeak_nil, PWeak_junk, PWeak_same, Int.cast_ofNat_Int, List.length_append, List.length_cons, List.length_nil, Nat.zero_add])
      by_cases e : j = k
      · subst e; rw [gx] at gy; cases gy; exact hF
      · exact hd j (by omega) y gy
  · simp only [PP, P1, P2, P3, P4, P5, P6, P7, P8, P9, P10, P11, P12, P13, P14, L1, P15, N1, N2, N3, N4, N5, N6, N7, I1, I2, I3, I4, I5, I6, I7, reduceIte, reduceCtorEq, c]
    exact hk1 fun x hx => by
      obtain ⟨j, hj⟩ := List.getElem?_of_mem hx
      exact hd j (by have := getSome_lt hj; omega) x hj
theorem contF_p {M : Mem} {K : PV → Mem → Prop} {f o : Bool} {xs : List Int} {g : FuncId} {cap : List PV} {F : Int → Bool} (hm : xs.length < 1000000000000) (hu : underL 0 cap = true)
    (hf : ∀ x ∈ xs, ∀ (M' : Mem) (K' : PV → Mem → Prop), K' (.bool (F x)) M' → SemC tab g (p64 x :: cap) M' K')
    (hk1 : (∀ x ∈ xs, F x = false) → K (.bool false) M) (hk2 : (∃ x, x ∈ xs ∧ F x = true) → K (.bool true) M) :
    SemC tab 39 [slI f o .i64 xs, .func (.func g) [] cap] M K := by
  refine SemC_pure T.h39 (by simp only [PP, P1, P2, P3, P4, P5, P6, P7, P8, P9, P10, P11, P12, P13, P14, L1, P15, N1, N2, N3, N4, N5, N6, N7, I1, I2, I3, I4, I5, I6, I7, reduceIte, reduceCtorEq, PV.under, hu]) ?_
  simp only [af39, PP, P1, P2, P3, P4, P5, P6, P7, P8, P9, P10, P11, P12, P13, P14, L1, P15, N1, N2, N3, N4, N5, N6, N7, I1, I2, I3, I4, I5, I6, I7, reduceIte, reduceCtorEq]
  refine idxF_p T hm hu hf (fun h => ?_) (fun k x hx hF => ?_)
  · have e : ¬ (0 : Int) ≤ -1 := by omega
    simp only [PP, P1, P2, P3, P4, P5, P6, P7, P8, P9, P10, P11, P12, P13, P14, L1, P15, N1, N2, N3, N4, N5, N6, N7, I1, I2, I3, I4, I5, I6, I7, reduceIte, reduceCtorEq, e]
    exact hk1 h
  · have e : (0 : Int) ≤ k := by omega
    simp only [PP, P1, P2, P3, P4, P5, P6, P7, P8, P9, P10, P11, P12, P13, P14, L1, P15, N1, N2, N3, N4, N5, N6, N7, I1, I2, I3, I4, I5, I6, I7, reduceIte, reduceCtorEq, e]
    exact hk2 ⟨x, hx, hF⟩
set_option maxHeartbeats 1000000 in
theorem closed33_p {M : Mem} {K : PV → Mem → Prop} {f1 o1 f2 o2 f3 o3 f4 o4 f5 o5 f6 o6 : Bool} {ow pr ws ss : List Int} {su : List (List Int)} (B : Bnd ow pr su) (hw0 : ∀ x ∈ ws, 0 ≤ x)
    (hk : ∀ (b : Bool) (e : Int), ClsE ow pr su ws ss b e → K (.tuple [.bool b, p64 e]) M) :
    SemC tab 18 [gmP f1 o1 f2 o2 f3 o3 f4 o4 ow pr su, .agg (sC f5 o5 f6 o6 ws ss)] M K := by
  refine SemC_pureS T.h18 (by simp only [PP, P1, P2, P3, P4, P5, P6, P7, P8, P9, P10, P11, P12, P13, P14, L1, P15, N1, N2, N3, N4, N5, N6, N7, I1, I2, I3, I4, I5, I6, I7, reduceIte, reduceCtorEq, PV.under]) ?_
  simp only [af18]
  refine SemW_seq (SemW_of ?_)
  simp only [PP, P1, P2, P3, P4, P5, P6, P7, P8, P9, P10, P11, P12, P13, P14, L1, P15, N1, N2, N3, N4, N5, N6, N7, I1, I2, I3, I4, I5, I6, I7, reduceIte, reduceCtorEq]
  refine SemW_re (GStep.freezeP (b := [.junk, .junk, .cp (gC f1 o1 f2 o2 f3 o3 f4 o4 ow pr su) 0, .ptr 1 0 0, .bool false, p64 0, .junk, .junk, .junk, .junk, .junk, .junk, .junk, .junk, .junk, .junk, .junk, .junk, .junk, .junk, .junk, .junk, .junk, .junk, .junk, .junk, .junk, .junk, .junk, .junk, .junk, .junk, .junk, .junk, .junk, .junk, .junk, .junk, .junk, .junk, .junk, .junk, .junk]) 0 (Nat.zero_le _) rfl (by simp only [PFrzP_nil, PFrzP_junk, PFrzP_same, PFrzP_ptr]) rfl) ?_
  refine SemW_re (GStep.freezeP (b := [.junk, .junk, .cp (gC f1 o1 f2 o2 f3 o3 f4 o4 ow pr su) 0, .cp (sC f5 o5 f6 o6 ws ss) 0, .bool false, p64 0, .junk, .junk, .junk, .junk, .junk, .junk, .junk, .junk, .junk, .junk, .junk, .junk, .junk, .junk, .junk, .junk, .junk, .junk, .junk, .junk, .junk, .junk, .junk, .junk, .junk, .junk, .junk, .junk, .junk, .junk, .junk, .junk, .junk, .junk, .junk, .junk, .junk]) 1 (Nat.zero_le _) rfl (by simp only [PFrzP_nil, PFrzP_junk, PFrzP_same, PFrzP_ptr]) rfl) ?_
  refine SemW_re (GStep.drop (b := [.junk, .junk, .cp (gC f1 o1 f2 o2 f3 o3 f4 o4 ow pr su) 0, .cp (sC f5 o5 f6 o6 ws ss) 0, .bool false, p64 0, .junk, .junk, .junk, .junk, .junk, .junk, .junk, .junk, .junk, .junk, .junk, .junk, .junk, .junk, .junk, .junk, .junk, .junk, .junk, .junk, .junk, .junk, .junk, .junk, .junk, .junk, .junk, .junk, .junk, .junk, .junk, .junk, .junk, .junk, .junk, .junk, .junk]) 0 (Nat.zero_le _) (by simp) (by simp only [PWeak_nil, PWeak_junk, PWeak_same, Int.cast_ofNat_Int, List.length_append, List.length_cons, List.length_nil, Nat.zero_add]) (by simp only [PP, P1, P2, P3, P4, P5, P6, P7, P8, P9, P10, P11, P12, P13, P14, L1, P15, N1, N2, N3, N4, N5, N6, N7, I1, I2, I3, I4, I5, I6, I7, reduceIte, reduceCtorEq, PV.under]) rfl rfl) ?_
  refine SemW_of ?_
  simp only [PP, P1, P2, P3, P4, P5, P6, P7, P8, P9, P10, P11, P12, P13, P14, L1, P15, N1, N2, N3, N4, N5, N6, N7, I1, I2, I3, I4, I5, I6, I7, reduceIte, reduceCtorEq]
  refine form33_p T B fun e he => ?_
  simp only [PP, P1, P2, P3, P4, P5, P6, P7, P8, P9, P10, P11, P12, P13, P14, L1, P15, N1, N2, N3, N4, N5, N6, N7, I1, I2, I3, I4, I5, I6, I7, reduceIte, reduceCtorEq]
  refine QIf.intro (fun c1 => ?_) (fun c1 => ?_)
  rotate_left
  · simp only [PP, P1, P2, P3, P4, P5, P6, P7, P8, P9, P10, P11, P12, P13, P14, L1, P15, N1, N2, N3, N4, N5, N6, N7, I1, I2, I3, I4, I5, I6, I7, reduceIte, reduceCtorEq, c1]
    exact hk _ _ (.inl ⟨c1, he, rfl⟩)
  have F := he.zero.1 c1
  have V := valid_of F.c
  have n1 := V.n1
  have hs := V.s
  have lw := F.lw
  have ls := F.ls
  have no : ∀ (p : Int) (v : Nat), p = 0 ∨ p = 1 → v < ow.length → ¬ ClsA ow ws ss su p v → K (.tuple [.bool false, p64 0]) M := fun p v hp hv hn => hk _ _ (.inr ⟨F, rfl, ⟨(fun q => by cases q), fun q => absurd ((closP_iff F hw0).1 q p hp v hv) hn⟩⟩)
  simp only [PP, P1, P2, P3, P4, P5, P6, P7, P8, P9, P10, P11, P12, P13, P14, L1, P15, N1, N2, N3, N4, N5, N6, N7, I1, I2, I3, I4, I5, I6, I7, reduceIte, reduceCtorEq, c1]
  refine loop1 (fun (q : Nat) => q ≤ 2 ∧ ∀ p : Int, 0 ≤ p → p < q → ∀ v, v < ow.length → ClsA ow ws ss su p v)
    (fun q => [.junk, .junk, .cp (gC f1 o1 f2 o2 f3 o3 f4 o4 ow pr su) 0, .cp (sC f5 o5 f6 o6 ws ss) 0, .junk, .junk, .junk, .junk, .junk, .junk, .junk, .junk, .junk, .junk, .junk, .junk, p8 q, .junk, .junk, .junk, .junk, .junk, .junk, .junk, .junk, .junk, .junk, .junk, .junk, .junk, .junk, .junk, .junk, .junk, .junk, .junk, .junk, .junk, .junk, .junk, .junk, .junk, .junk])
    (fun q => []) (fun q => 2 - q) 0 ⟨by omega, by intro v h1 h2; omega⟩ (by simp only [PWeak_nil, PWeak_junk, PWeak_same, Int.cast_ofNat_Int, List.length_append, List.length_cons, List.length_nil, Nat.zero_add]) rfl ?_
  intro q ⟨hle2, hq⟩ ih2
  refine SemW_loop (by kernel_rfl) (SemW_seq (SemW_of ?_))
  simp only [PP, P1, P2, P3, P4, P5, P6, P7, P8, P9, P10, P11, P12, P13, P14, L1, P15, N1, N2, N3, N4, N5, N6, N7, I1, I2, I3, I4, I5, I6, I7, reduceIte, reduceCtorEq]
  refine SemW_seq (SemW_of ?_)
  simp only [PP, P1, P2, P3, P4, P5, P6, P7, P8, P9, P10, P11, P12, P13, P14, L1, P15, N1, N2, N3, N4, N5, N6, N7, I1, I2, I3, I4, I5, I6, I7, reduceIte, reduceCtorEq]
  refine QIf.intro (fun d => ?_) (fun d => ?_)
  rotate_left
  · have : q = 2 := by omega
    subst this
    simp only [PP, P1, P2, P3, P4, P5, P6, P7, P8, P9, P10, P11, P12, P13, P14, L1, P15, N1, N2, N3, N4, N5, N6, N7, I1, I2, I3, I4, I5, I6, I7, reduceIte, reduceCtorEq, d]
    exact hk _ _ (.inr ⟨F, rfl, ⟨fun _ => (closP_iff F hw0).2 fun p hp => hq p (by omega) (by omega), fun _ => rfl⟩⟩)
  have hq2 : q < 2 := by omega
  have hwq : IntKind.u8.wrap ((q : Int) + 1) = ((q + 1 : Nat) : Int) := by
    have : q = 0 ∨ q = 1 := by omega
    rcases this with rfl | rfl <;> rfl
  simp only [PP, P1, P2, P3, P4, P5, P6, P7, P8, P9, P10, P11, P12, P13, P14, L1, P15, N1, N2, N3, N4, N5, N6, N7, I1, I2, I3, I4, I5, I6, I7, reduceIte, reduceCtorEq, d]
  refine SemW_seq (SemW_blk (SemW_seq (SemW_of ?_)))
  simp only [PP, P1, P2, P3, P4, P5, P6, P7, P8, P9, P10, P11, P12, P13, P14, L1, P15, N1, N2, N3, N4, N5, N6, N7, I1, I2, I3, I4, I5, I6, I7, reduceIte, reduceCtorEq]
  refine SemW_re (GStep.freezeP (b := [.junk, .junk, .cp (gC f1 o1 f2 o2 f3 o3 f4 o4 ow pr su) 0, .cp (sC f5 o5 f6 o6 ws ss) 0, .junk, .junk, .junk, .cp [p8 q] 0, .junk, .junk, .junk, .junk, .junk, .junk, .junk, .junk, p8 q, .junk, .junk, .junk, .junk, .junk, .junk, .junk, .junk, .junk, .junk, .junk, .junk, .junk, .junk, .junk, .junk, .junk, .junk, .junk, .junk, .junk, .junk, .junk, .junk, .junk, .junk]) 0 (Nat.zero_le _) rfl (by simp only [PFrzP_nil, PFrzP_junk, PFrzP_same, PFrzP_ptr]) rfl) ?_
  refine SemW_re (GStep.drop (b := [.junk, .junk, .cp (gC f1 o1 f2 o2 f3 o3 f4 o4 ow pr su) 0, .cp (sC f5 o5 f6 o6 ws ss) 0, .junk, .junk, .junk, .cp [p8 q] 0, .junk, .junk, .junk, .junk, .junk, .junk, .junk, .junk, p8 q, .junk, .junk, .junk, .junk, .junk, .junk, .junk, .junk, .junk, .junk, .junk, .junk, .junk, .junk, .junk, .junk, .junk, .junk, .junk, .junk, .junk, .junk, .junk, .junk, .junk, .junk]) 0 (Nat.zero_le _) (by simp) (by simp only [PWeak_nil, PWeak_junk, PWeak_same, Int.cast_ofNat_Int, List.length_append, List.length_cons, List.length_nil, Nat.zero_add]) (by simp only [PP, P1, P2, P3, P4, P5, P6, P7, P8, P9, P10, P11, P12, P13, P14, L1, P15, N1, N2, N3, N4, N5, N6, N7, I1, I2, I3, I4, I5, I6, I7, reduceIte, reduceCtorEq, PV.under]) rfl rfl) ?_
  refine SemW_of ?_
  simp only [PP, P1, P2, P3, P4, P5, P6, P7, P8, P9, P10, P11, P12, P13, P14, L1, P15, N1, N2, N3, N4, N5, N6, N7, I1, I2, I3, I4, I5, I6, I7, reduceIte, reduceCtorEq]
  refine moves33_p T B hs lw ls ?_
  have R := cer_in (p := (q : Int)) F B
  have hget : ∀ v, v < ow.length → (tabA ow.length (movC ow ws ss su q))[v]? = some (movC ow ws ss su q v) := fun v hv => tabA_get hv
  have lmv : (tabA ow.length (movC ow ws ss su q)).length = ow.length := tabA_len _ _
  revert R hget lmv
  generalize tabA ow.length (movC ow ws ss su q) = mv
  intro R hget lmv
  simp only [PP, P1, P2, P3, P4, P5, P6, P7, P8, P9, P10, P11, P12, P13, P14, L1, P15, N1, N2, N3, N4, N5, N6, N7, I1, I2, I3, I4, I5, I6, I7, reduceIte, reduceCtorEq]
  refine loop1 (fun (i : Nat) => i ≤ ow.length ∧ ∀ v, v < i → ClsA ow ws ss su q v)
    (fun i => [.junk, .junk, .cp (gC f1 o1 f2 o2 f3 o3 f4 o4 ow pr su) 0, .cp (sC f5 o5 f6 o6 ws ss) 0, .junk, .junk, .junk, .cp [p8 q] 0, .junk, .junk, .junk, .junk, .junk, .junk, .junk, .junk, p8 q, .junk, .junk, .junk, .junk, .junk, slR false true true false .i64 mv, p64 mv.length, p64 i, .junk, .junk, .junk, .junk, .junk, .junk, .junk, .junk, .junk, .junk, .junk, .junk, .junk, .junk, .junk, .junk, .junk, .junk])
    (fun i => []) (fun i => ow.length - i) 0 ⟨by omega, by intro v h1; omega⟩ (by simp only [PWeak_nil, PWeak_junk, PWeak_same, Int.cast_ofNat_Int, List.length_append, List.length_cons, List.length_nil, Nat.zero_add]) rfl ?_
  intro i ⟨hle3, hcl⟩ ih3
  refine SemW_go (by kernel_rfl) ?_
  simp only [PP, P1, P2, P3, P4, P5, P6, P7, P8, P9, P10, P11, P12, P13, P14, L1, P15, N1, N2, N3, N4, N5, N6, N7, I1, I2, I3, I4, I5, I6, I7, reduceIte, reduceCtorEq]
  refine QIf.intro (fun c => ?_) (fun c => ?_)
  · have hi : i < ow.length := by omega
    have i0 : (0 : Int) ≤ i := by omega
    have i1 : (i : Int) < ow.length := by omega
    have hwi := wrap_succ (k := i) (by show _ < 1000000000000; omega)
    obtain ⟨w, gw⟩ := some_of (xs := ws) (k := i) (by omega)
    have ew : ws.getD i 0 = w := getD_some gw
    have gr := hget i hi
    have hin := R.2 _ (List.mem_of_getElem? gr)
    have next : ClsA ow ws ss su q i → i + 1 ≤ ow.length ∧ ∀ v, v < i + 1 → ClsA ow ws ss su q v := fun h => ⟨hi, fun v hv => by
      by_cases e : v = i
      · subst e; exact h
      · exact hcl v (by omega)⟩
    have hcn : ∀ r, r = movC ow ws ss su q i → (∀ u ∈ r, ws.getD u.toNat 0 = q) → ClsA ow ws ss su q i := fun r hr h _ u hu => h u (by rw [hr]; exact hu)
    have hcb : ∀ r, r = movC ow ws ss su q i → w = q → (∃ u, u ∈ r ∧ ¬ ws.getD u.toNat 0 = q) → ¬ ClsA ow ws ss su q i := fun r hr hwq ⟨u, hu, h⟩ hc => h (hc (by rw [ew]; exact hwq) u (by rw [← hr]; exact hu))
    revert gr hin hcn hcb
    generalize movC ow ws ss su q i = r
    intro gr hin hcn hcb
    simp only [PP, P1, P2, P3, P4, P5, P6, P7, P8, P9, P10, P11, P12, P13, P14, L1, P15, N1, N2, N3, N4, N5, N6, N7, I1, I2, I3, I4, I5, I6, I7, reduceIte, reduceCtorEq, c, i0, i1, gr, gw, lw]
    refine QIf.intro (fun e => ?_) (fun e => ?_)
    · simp only [PP, P1, P2, P3, P4, P5, P6, P7, P8, P9, P10, P11, P12, P13, P14, L1, P15, N1, N2, N3, N4, N5, N6, N7, I1, I2, I3, I4, I5, I6, I7, reduceIte, reduceCtorEq, e]
      refine contF_p T (F := fun u => decide (¬ ws.getD u.toNat 0 = q)) hin.1 (by simp only [PP, P1, P2, P3, P4, P5, P6, P7, P8, P9, P10, P11, P12, P13, P14, L1, P15, N1, N2, N3, N4, N5, N6, N7, I1, I2, I3, I4, I5, I6, I7, reduceIte, reduceCtorEq, PV.under]) (fun u hu M' K' hK' => ?_) (fun hall => ?_) (fun hex => ?_)
      · have hur := hin.2 u hu
        obtain ⟨a, rfl⟩ : ∃ a : Nat, u = a := ⟨u.toNat, by omega⟩
        have a0 : (0 : Int) ≤ a := by omega
        have an : (a : Int) < ow.length := by omega
        obtain ⟨y, gy⟩ := some_of (xs := ws) (k := a) (by omega)
        rw [Int.toNat_natCast, getD_some gy] at hK'
        refine SemC_pure T.h40 (by simp only [PP, P1, P2, P3, P4, P5, P6, P7, P8, P9, P10, P11, P12, P13, P14, L1, P15, N1, N2, N3, N4, N5, N6, N7, I1, I2, I3, I4, I5, I6, I7, reduceIte, reduceCtorEq, PV.under]) ?_
        simp only [af40, PP, P1, P2, P3, P4, P5, P6, P7, P8, P9, P10, P11, P12, P13, P14, L1, P15, N1, N2, N3, N4, N5, N6, N7, I1, I2, I3, I4, I5, I6, I7, reduceIte, reduceCtorEq, a0, an, gy, lw]
        by_cases z : y = (q : Int)
        · simp only [PP, P1, P2, P3, P4, P5, P6, P7, P8, P9, P10, P11, P12, P13, P14, L1, P15, N1, N2, N3, N4, N5, N6, N7, I1, I2, I3, I4, I5, I6, I7, reduceIte, reduceCtorEq, z, not_true_eq_false, decide_false] at hK' ⊢
          exact hK'
        · simp only [PP, P1, P2, P3, P4, P5, P6, P7, P8, P9, P10, P11, P12, P13, P14, L1, P15, N1, N2, N3, N4, N5, N6, N7, I1, I2, I3, I4, I5, I6, I7, reduceIte, reduceCtorEq, z, not_false_eq_true, decide_true] at hK' ⊢
          exact hK'
      · simp only [PP, P1, P2, P3, P4, P5, P6, P7, P8, P9, P10, P11, P12, P13, P14, L1, P15, N1, N2, N3, N4, N5, N6, N7, I1, I2, I3, I4, I5, I6, I7, reduceIte, reduceCtorEq, hwi]
        refine SemW_weak (ih3 (i + 1) (next (hcn r rfl fun u hu => ?_)) (by omega)) (by simp only [PWeak_nil, PWeak_junk, PWeak_same, Int.cast_ofNat_Int, List.length_append, List.length_cons, List.length_nil, Nat.zero_add])
        have := of_decide_eq_false (hall u hu)
        exact Classical.byContradiction this
      · simp only [PP, P1, P2, P3, P4, P5, P6, P7, P8, P9, P10, P11, P12, P13, P14, L1, P15, N1, N2, N3, N4, N5, N6, N7, I1, I2, I3, I4, I5, I6, I7, reduceIte, reduceCtorEq]
        obtain ⟨u, hu, h⟩ := hex
        exact no q i (by omega) hi (hcb r rfl e ⟨u, hu, of_decide_eq_true h⟩)
    · simp only [PP, P1, P2, P3, P4, P5, P6, P7, P8, P9, P10, P11, P12, P13, P14, L1, P15, N1, N2, N3, N4, N5, N6, N7, I1, I2, I3, I4, I5, I6, I7, reduceIte, reduceCtorEq, e, hwi]
      exact SemW_weak (ih3 (i + 1) (next fun h => absurd (by rw [← ew]; exact h) e) (by omega)) (by simp only [PWeak_nil, PWeak_junk, PWeak_same, Int.cast_ofNat_Int, List.length_append, List.length_cons, List.length_nil, Nat.zero_add])
  · have : i = ow.length := by omega
    subst this
    simp only [PP, P1, P2, P3, P4, P5, P6, P7, P8, P9, P10, P11, P12, P13, P14, L1, P15, N1, N2, N3, N4, N5, N6, N7, I1, I2, I3, I4, I5, I6, I7, reduceIte, reduceCtorEq, c]
    refine SemW_of ?_
    simp only [PP, P1, P2, P3, P4, P5, P6, P7, P8, P9, P10, P11, P12, P13, P14, L1, P15, N1, N2, N3, N4, N5, N6, N7, I1, I2, I3, I4, I5, I6, I7, reduceIte, reduceCtorEq, hwq]
    refine SemW_weak (ih2 (q + 1) ⟨by omega, fun p h1 h2 => ?_⟩ (by omega)) (by simp only [PWeak_nil, PWeak_junk, PWeak_same, Int.cast_ofNat_Int, List.length_append, List.length_cons, List.length_nil, Nat.zero_add])
    by_cases e : p = q
    · subst e; exact hcl
    · exact hq p h1 (by omega)
end
end Go.Am.Ar
set_option linter.unusedVariables false
namespace Go.Am.Ar
section
variable {ow pr ow' pr' ws ss : List Int} {su : List (List Int)} (D : Dual1 ow pr su ow' pr') (hw : ∀ x ∈ ws, 0 ≤ x ∧ x ≤ 1)
include D hw
omit D in
theorem du_w {v : Nat} (hv : v < ws.length) : (ws.map (1 - ·)).getD v 0 = 1 - ws.getD v 0 ∧ 0 ≤ ws.getD v 0 ∧ ws.getD v 0 ≤ 1 := by
  obtain ⟨x, hx⟩ := some_of (xs := ws) (k := v) hv
  rw [getD_some hx, getD_some (show (ws.map (1 - ·))[v]? = some (1 - x) by rw [List.getElem?_map, hx]; rfl)]
  exact ⟨rfl, hw x (List.mem_of_getElem? hx)⟩
theorem du_at (lw : ws.length = ow.length) {v : Nat} (hv : v < ow.length) : FormAt ow su ws ss v ↔ FormAt ow' su (ws.map (1 - ·)) ss v := by
  obtain ⟨h1, h2, h3⟩ := du_w hw (v := v) (by omega)
  obtain ⟨o1, o2, o3⟩ := D.o v hv
  constructor
  · intro h
    exact ⟨by omega, fun q => h.own (by omega), fun q => h.opp (by omega)⟩
  · intro h
    exact ⟨by omega, fun q => h.own (by omega), fun q => h.opp (by omega)⟩
theorem du_formP (F : FormP ow pr su ws ss) : FormP ow' pr' su (ws.map (1 - ·)) ss :=
  ⟨check_of D.v', by rw [List.length_map, D.n]; exact F.lw, by rw [D.n]; exact F.ls, fun v hv => by rw [D.n] at hv; exact (du_at D hw F.lw hv).1 (F.form v hv)⟩
theorem du_form {e : Int} (h : FormE ow pr su ws ss e) : FormE ow' pr' su (ws.map (1 - ·)) ss e := by
  have c := check_of D.v
  have c' := check_of D.v'
  rcases h with ⟨h1, _⟩ | ⟨_, h2, rfl⟩ | ⟨_, h2, v, hv, h3, h4⟩ | ⟨h1, rfl⟩
  · exact absurd c h1
  · exact .inr (.inl ⟨c', by rw [List.length_map, D.n]; exact h2, rfl⟩)
  · refine .inr (.inr (.inl ⟨c', by rw [List.length_map, D.n]; exact h2, v, by rw [D.n]; exact hv, fun u hu => (du_at D hw h2.1 (by omega)).1 (h3 u hu), ?_⟩))
    obtain ⟨w1, w2, w3⟩ := du_w hw (v := v) (by omega)
    rcases h4 with ⟨q, _⟩ | ⟨_, q, rfl⟩
    · omega
    · exact .inr ⟨by omega, fun z => q ((du_at D hw h2.1 hv).2 z), rfl⟩
  · exact .inr (.inr (.inr ⟨du_formP D hw h1, rfl⟩))
theorem du_mov (F : FormP ow pr su ws ss) {p : Int} {v : Nat} (hv : v < ow.length) : movC ow' (ws.map (1 - ·)) ss su (1 - p) v = movC ow ws ss su p v := by
  obtain ⟨h1, h2, h3⟩ := du_w hw (v := v) (by rw [F.lw]; exact hv)
  obtain ⟨o1, o2, o3⟩ := D.o v hv
  unfold movC
  rw [h1, o3]
  by_cases q : ow.getD v 0 = p ∧ ws.getD v 0 = p
  · rw [if_pos q, if_pos ⟨by omega, by omega⟩]
  · rw [if_neg q, if_neg (fun z => q ⟨by omega, by omega⟩)]
theorem du_E (F : FormP ow pr su ws ss) {p : Int} : cerE ow' (ws.map (1 - ·)) ss su (1 - p) = cerE ow ws ss su p := by
  have : tabA ow'.length (movC ow' (ws.map (1 - ·)) ss su (1 - p)) = tabA ow.length (movC ow ws ss su p) := by
    rw [D.n]; exact tabA_congr fun v hv => du_mov D hw F hv
  unfold cerE
  rw [this]
theorem du_ref (F : FormP ow pr su ws ss) {p : Int} (hp : p = 0 ∨ p = 1) : RefP ow' pr' (ws.map (1 - ·)) ss su (1 - p) ↔ RefP ow pr ws ss su p := by
  have V := D.v
  have near : ∀ w, NearP ow' (ws.map (1 - ·)) ss su (1 - p) w ↔ NearP ow ws ss su p w := fun w => by
    unfold NearP
    rw [du_E D hw F, D.n]
    constructor
    · rintro ⟨v, hv, h1, h2⟩
      have := du_w hw (v := v) (by rw [F.lw]; exact hv)
      exact ⟨v, hv, by omega, h2⟩
    · rintro ⟨v, hv, h1, h2⟩
      have := du_w hw (v := v) (by rw [F.lw]; exact hv)
      exact ⟨v, hv, by omega, h2⟩
  have bad : ∀ w, w < ow.length → (Bad (cerE ow ws ss su p) (zP pr') (1 - p) w ↔ Bad (cerE ow ws ss su p) (zP pr) p w) := fun w hw' => by
    have hr := D.r w hw'
    unfold Bad
    have e1 : zP pr' w = zP pr w + 1 := hr.2
    have e0 : 0 ≤ zP pr w := hr.1
    constructor
    · rintro ⟨h1, h2⟩
      refine ⟨by omega, h2.cond fun a b hab q => ?_⟩
      have hb := D.r b (cer_tgt V F hab).2.1
      have e2 : zP pr' b = zP pr b + 1 := hb.2
      have q : zP pr' b ≤ zP pr' w := q
      show zP pr b ≤ zP pr w
      omega
    · rintro ⟨h1, h2⟩
      refine ⟨by omega, h2.cond fun a b hab q => ?_⟩
      have hb := D.r b (cer_tgt V F hab).2.1
      have e2 : zP pr' b = zP pr b + 1 := hb.2
      have q : zP pr b ≤ zP pr w := q
      show zP pr' b ≤ zP pr' w
      omega
  unfold RefP
  rw [D.n, du_E D hw F]
  constructor
  · rintro ⟨w, h1, h2, h3⟩; exact ⟨w, h1, (near w).1 h2, (bad w h1).1 h3⟩
  · rintro ⟨w, h1, h2, h3⟩; exact ⟨w, h1, (near w).2 h2, (bad w h1).2 h3⟩
theorem du_corr (F : FormP ow pr su ws ss) : CorrP ow' pr' su (ws.map (1 - ·)) ss ↔ CorrP ow pr su ws ss := by
  have h0 := du_ref D hw F (p := 0) (.inl rfl)
  have h1 := du_ref D hw F (p := 1) (.inr rfl)
  rw [show (1 : Int) - 0 = 1 from rfl] at h0
  rw [show (1 : Int) - 1 = 0 from rfl] at h1
  rw [corr_iff F, corr_iff (du_formP D hw F), h0, h1, and_comm]
theorem du_chk {e : Int} (h : ChkE ow pr su ws ss e) : ChkE ow' pr' su (ws.map (1 - ·)) ss e := by
  rcases h with ⟨h1, h2⟩ | ⟨h1, h2, rfl⟩ | ⟨h1, rfl⟩
  · exact .inl ⟨h1, du_form D hw h2⟩
  · exact .inr (.inl ⟨du_formP D hw h1, fun q => h2 ((du_corr D hw h1).1 q), rfl⟩)
  · exact .inr (.inr ⟨(du_corr D hw h1.formP).2 h1, rfl⟩)
theorem du_clos (F : FormP ow pr su ws ss) : ClosP ow' (ws.map (1 - ·)) ss su ↔ ClosP ow ws ss su := by
  unfold ClosP
  rw [D.n]
  have key : ∀ v, v < ow.length → ∀ u ∈ su.getD v [], ((¬ (ws.map (1 - ·)).getD v 0 = ow'.getD v 0 ∨ ss.getD v 0 = u) ↔ (¬ ws.getD v 0 = ow.getD v 0 ∨ ss.getD v 0 = u)) ∧ ((ws.map (1 - ·)).getD u.toNat 0 = (ws.map (1 - ·)).getD v 0 ↔ ws.getD u.toNat 0 = ws.getD v 0) := fun v hv u hu => by
    have hur := su_range D.v hv hu
    obtain ⟨h1, h2, h3⟩ := du_w hw (v := v) (by rw [F.lw]; exact hv)
    obtain ⟨g1, g2, g3⟩ := du_w hw (v := u.toNat) (by rw [F.lw]; omega)
    obtain ⟨o1, o2, o3⟩ := D.o v hv
    rw [h1, g1, o3]
    refine ⟨?_, by omega⟩
    rw [show (1 - ws.getD v 0 = 1 - ow.getD v 0) ↔ ws.getD v 0 = ow.getD v 0 by omega]
  constructor
  · intro h v hv u hu q
    exact (key v hv u hu).2.1 (h v hv u hu ((key v hv u hu).1.2 q))
  · intro h v hv u hu q
    exact (key v hv u hu).2.2 (h v hv u hu ((key v hv u hu).1.1 q))
theorem du_cls {b : Bool} {e : Int} (h : ClsE ow pr su ws ss b e) : ClsE ow' pr' su (ws.map (1 - ·)) ss b e := by
  rcases h with ⟨h1, h2, rfl⟩ | ⟨h1, rfl, h2⟩
  · exact .inl ⟨h1, du_form D hw h2, rfl⟩
  · exact .inr ⟨du_formP D hw h1, rfl, by rw [h2, du_clos D hw h1]⟩
end
end Go.Am.Ar
set_option linter.unusedVariables false
set_option linter.unusedSimpArgs false
namespace Go.Am.Ar
abbrev gameTy : Ty := .pair (.slice (.int .u8)) (.pair (.slice (.int .i64)) (.pair (.slice (.slice (.int .i64))) .unit))
structure Nums (ow pr : List Int) (su : List (List Int)) : Prop where
  o : ∀ x ∈ ow, 0 ≤ x ∧ x ≤ 255
  p : ∀ x ∈ pr, -9223372036854775808 ≤ x ∧ x ≤ 9223372036854775807
  s : ∀ r ∈ su, ∀ x ∈ r, -9223372036854775808 ≤ x ∧ x ≤ 9223372036854775807
  lo : ow.length ≤ 9223372036854775807
  lp : pr.length ≤ 9223372036854775807
  ls : su.length ≤ 9223372036854775807
  lr : ∀ r ∈ su, r.length ≤ 9223372036854775807
theorem arg_game {v : AV} {h : H} (hs : ShV gameTy v h) : ∃ (ow pr : List Int) (su : List (List Int)), RepV (wH h) (gmP false false false false false false false false ow pr su) v ∧ Nums ow pr su := by
  obtain ⟨avs, hs, rfl⟩ := hs
  obtain ⟨c1, c2, rfl, h1, c3, c4, rfl, h2, c5, c6, rfl, h3, h4⟩ := hs
  have h4 : c6 = [] := h4
  subst h4
  obtain ⟨vo, ow, rfl, p1, q1, r1⟩ := sh_intsP h1
  obtain ⟨vp, pr, rfl, p2, q2, r2⟩ := sh_intsP h2
  obtain ⟨vs, su, rfl, p3, q3, r3⟩ := sh_rowsP h3
  refine ⟨ow, pr, su, ?_, ⟨r1, r2, fun r hr => (r3 r hr).2, q1, q2, q3, fun r hr => (r3 r hr).1⟩⟩
  have := RepL.cons p1 (.cons p2 (.cons p3 (.nil (wH h))))
  exact .agg this.len this.get
theorem run_of_C {tab : FuncId → Option AF} {g : FuncId} {args : List AV} {h : H} (hc : C (lim tab) g args h fun v _ => v = .bool true) : ∃ n h', (run tab n).call g args h = some (.bool true, h') := by
  unfold C at hc
  obtain ⟨v, h', he, rfl⟩ := hc
  obtain ⟨n, hn⟩ := (lim_call_iff tab).1 he
  exact ⟨n, h', hn⟩
theorem shVs2 {A B : Ty} {args : List AV} {h : H} (hs : ShVs [A, B] args h) : ∃ a b, args = [a, b] ∧ ShV A a h ∧ ShV B b h := by
  match args, hs with
  | [a, b], ⟨h1, h2, _⟩ => exact ⟨a, b, rfl, h1, h2⟩
end Go.Am.Ar
set_option linter.unusedVariables false
set_option linter.unusedSimpArgs false
set_option maxRecDepth 10000
namespace Go.Am.Ar
open Go.Am renaming pchk → P1, pold → P2, PKNo → P3, ppack → P4, PObj.under → P5, pput → P6, ptset → P7, ptget → P8, pev → P9, ofAV → P10, ofAV1 → P11, ppad → P12, pfill → P13, prepl → P14, AO.effect → P15
open List renaming replicate → L1
open Nat renaming reduceAdd → N1, reduceSub → N2, reduceMul → N3, reduceLT → N4, reduceLeDiff → N5, reduceEqDiff → N6, reduceBEq → N7
open Int renaming reduceToNat → I1, reduceLT → I2, reduceLE → I3, reduceEq → I4, reduceAdd → I5, reduceSub → I6, reduceNeg → I7
abbrev solTy : Ty := .pair (.slice (.int .u8)) (.pair (.slice (.int .i64)) .unit)
theorem arg_sol {v : AV} {h : H} (hs : ShV solTy v h) : ∃ (ws ss : List Int), RepV (wH h) (.agg [slI false false .u8 ws, slI false false .i64 ss]) v ∧ ∀ x ∈ ws, 0 ≤ x ∧ x ≤ 255 := by
  obtain ⟨avs, hs, rfl⟩ := hs
  obtain ⟨c1, c2, rfl, h1, c3, c4, rfl, h2, h4⟩ := hs
  have h4 : c4 = [] := h4
  subst h4
  obtain ⟨vo, ws, rfl, p1, q1, r1⟩ := sh_intsP h1
  obtain ⟨vp, ss, rfl, p2, q2, r2⟩ := sh_intsP h2
  refine ⟨ws, ss, ?_, r1⟩
  have := RepL.cons p1 (.cons p2 (.nil (wH h)))
  exact .agg this.len this.get
section
variable {tab : FuncId → Option AF} (T : HasA tab)
include T
theorem long33_p {M : Mem} {K : PV → Mem → Prop} {f1 o1 f2 o2 f3 o3 f4 o4 f5 o5 f6 o6 : Bool} {ow pr ws ss : List Int} {su : List (List Int)} (hk : ∀ b : Bool, (b = false → longM ow pr su [ss] = false ∧ ws.length ≤ 40) → K (.bool b) M) :
    SemC tab 8 [gmP f1 o1 f2 o2 f3 o3 f4 o4 ow pr su, .agg [slI f5 o5 .u8 ws, slI f6 o6 .i64 ss]] M K := by
  refine SemC_pure T.h8 (by simp only [PP, P1, P2, P3, P4, P5, P6, P7, P8, P9, P10, P11, P12, P13, P14, L1, P15, N1, N2, N3, N4, N5, N6, N7, I1, I2, I3, I4, I5, I6, I7, reduceIte, reduceCtorEq]) ?_
  simp only [af8, PP, P1, P2, P3, P4, P5, P6, P7, P8, P9, P10, P11, P12, P13, P14, L1, P15, N1, N2, N3, N4, N5, N6, N7, I1, I2, I3, I4, I5, I6, I7, reduceIte, reduceCtorEq]
  refine long_p T (ls := [ss]) (f5 := true) (o5 := true) (f6 := f6) (o6 := o6) (by show 1 < 1000000000000; omega) ?_
  simp only [PP, P1, P2, P3, P4, P5, P6, P7, P8, P9, P10, P11, P12, P13, P14, L1, P15, N1, N2, N3, N4, N5, N6, N7, I1, I2, I3, I4, I5, I6, I7, reduceIte, reduceCtorEq]
  cases hl : longM ow pr su [ss] with
  | true =>
    simp only [PP, P1, P2, P3, P4, P5, P6, P7, P8, P9, P10, P11, P12, P13, P14, L1, P15, N1, N2, N3, N4, N5, N6, N7, I1, I2, I3, I4, I5, I6, I7, reduceIte, reduceCtorEq]
    exact hk true fun h => by cases h
  | false =>
    simp only [PP, P1, P2, P3, P4, P5, P6, P7, P8, P9, P10, P11, P12, P13, P14, L1, P15, N1, N2, N3, N4, N5, N6, N7, I1, I2, I3, I4, I5, I6, I7, reduceIte, reduceCtorEq]
    by_cases c : (40 : Int) < ws.length
    · rw [decide_eq_true c]
      exact hk true fun h => by cases h
    · rw [decide_eq_false c]
      exact hk false fun h => ⟨hl, by omega⟩
end
end Go.Am.Ar
set_option linter.unusedVariables false
set_option linter.unusedSimpArgs false
set_option maxRecDepth 10000
namespace Go.Am.Ar
open Go.Am renaming pchk → P1, pold → P2, PKNo → P3, ppack → P4, PObj.under → P5, pput → P6, ptset → P7, ptget → P8, pev → P9, ofAV → P10, ofAV1 → P11, ppad → P12, pfill → P13, prepl → P14, AO.effect → P15
open List renaming replicate → L1
open Nat renaming reduceAdd → N1, reduceSub → N2, reduceMul → N3, reduceLT → N4, reduceLeDiff → N5, reduceEqDiff → N6, reduceBEq → N7
open Int renaming reduceToNat → I1, reduceLT → I2, reduceLE → I3, reduceEq → I4, reduceAdd → I5, reduceSub → I6, reduceNeg → I7
section
variable {tab : FuncId → Option AF} (T : HasA tab)
include T
theorem dual_p {M : Mem} {K : PV → Mem → Prop} {f1 o1 f2 o2 f3 o3 f4 o4 : Bool} {ow pr : List Int} {su : List (List Int)} (B : Bnd ow pr su) (hq : K (dualM ow pr su) M) :
    SemC tab 27 [gmP f1 o1 f2 o2 f3 o3 f4 o4 ow pr su] M K := by
  refine SemC_pure T.h27 (by simp only [PP, P1, P2, P3, P4, P5, P6, P7, P8, P9, P10, P11, P12, P13, P14, L1, P15, N1, N2, N3, N4, N5, N6, N7, I1, I2, I3, I4, I5, I6, I7, reduceIte, reduceCtorEq]) ?_
  simp only [af27, PP, P1, P2, P3, P4, P5, P6, P7, P8, P9, P10, P11, P12, P13, P14, L1, P15, N1, N2, N3, N4, N5, N6, N7, I1, I2, I3, I4, I5, I6, I7, reduceIte, reduceCtorEq, dualM] at hq ⊢
  refine check_p T B ?_
  simp only [PP, P1, P2, P3, P4, P5, P6, P7, P8, P9, P10, P11, P12, P13, P14, L1, P15, N1, N2, N3, N4, N5, N6, N7, I1, I2, I3, I4, I5, I6, I7, reduceIte, reduceCtorEq]
  refine QIf.intro (fun c1 => ?_) (fun c1 => ?_)
  rotate_left
  · simp only [PP, P1, P2, P3, P4, P5, P6, P7, P8, P9, P10, P11, P12, P13, P14, L1, P15, N1, N2, N3, N4, N5, N6, N7, I1, I2, I3, I4, I5, I6, I7, reduceIte, reduceCtorEq, c1] at hq ⊢
    exact hq
  simp only [PP, P1, P2, P3, P4, P5, P6, P7, P8, P9, P10, P11, P12, P13, P14, L1, P15, N1, N2, N3, N4, N5, N6, N7, I1, I2, I3, I4, I5, I6, I7, reduceIte, reduceCtorEq, c1] at hq ⊢
  have V := valid_of c1
  cases hpr : pr with
  | nil => exact absurd V.p (by have := V.n0; simp only [hpr, List.length_nil]; omega)
  | cons x xs =>
  have hpb : (x :: xs).length < big := by rw [← hpr]; exact B.p
  refine max_p T hpb ?_
  rw [← hpr]
  have hmx : maxFrom x xs = maxL pr := by rw [hpr]; rfl
  simp only [PP, P1, P2, P3, P4, P5, P6, P7, P8, P9, P10, P11, P12, P13, P14, L1, P15, N1, N2, N3, N4, N5, N6, N7, I1, I2, I3, I4, I5, I6, I7, reduceIte, reduceCtorEq, hmx]
  refine QIf.intro (fun c2 => ?_) (fun c2 => ?_)
  · simp only [PP, P1, P2, P3, P4, P5, P6, P7, P8, P9, P10, P11, P12, P13, P14, L1, P15, N1, N2, N3, N4, N5, N6, N7, I1, I2, I3, I4, I5, I6, I7, reduceIte, reduceCtorEq, c2] at hq ⊢
    exact hq
  simp only [PP, P1, P2, P3, P4, P5, P6, P7, P8, P9, P10, P11, P12, P13, P14, L1, P15, N1, N2, N3, N4, N5, N6, N7, I1, I2, I3, I4, I5, I6, I7, reduceIte, reduceCtorEq, c2] at hq ⊢
  refine SemW_re (GStep.nilbox 1 0 1 rfl rfl rfl) ?_
  refine SemW_re (GStep.nilbox 1 1 1 rfl rfl rfl) ?_
  refine SemW_re (GStep.nilbox 1 2 1 rfl rfl rfl) ?_
  simp only [List.length_cons, List.length_nil, List.length_append, List.length_set, List.set_cons_zero, List.set_cons_succ, List.cons_append, List.nil_append, Nat.reduceAdd]
  have hs := V.s
  have hp := V.p
  have n1 := V.n1
  refine loop5 (fun (k v g : Nat) (a1 a2 : List Int) => k ≤ su.length ∧ a1 = dualO (ow.take k) ∧ a2 = dualP (pr.take k))
    (fun k v g a1 a2 => [.junk, .ptr 0 0 0, .ptr 1 0 0, .junk, .junk, .junk, .junk, .junk, .junk, .junk, .junk, .junk, .junk, .junk, .junk, .junk, .junk, .junk, .junk, slR f3 o3 f4 o4 .i64 su, p64 su.length, p64 k, .junk, .junk, .junk, .junk, .junk, .junk, .junk, .junk, .junk, .junk, .junk, .junk, .junk, .junk, .junk, .junk, .junk, .junk, .junk, .junk, .junk, .junk, .junk, .junk, .junk, .junk, .junk, .junk, .junk, .junk, .junk, .junk, .junk, .junk, .junk])
    (fun k v g a1 a2 => [.cells 0 0 [slI f1 o1 .u8 ow, slI f2 o2 .i64 pr, slR f3 o3 f4 o4 .i64 su], .cells 0 v [.ref 2 g 1 0 a1.length, .ref 3 g 1 0 a2.length, .ref 4 g 1 0 (su.take k).length], .cells g 0 (a1.map (PV.int .u8)), .cells g 0 (a2.map (PV.int .i64)), .cells g 0 ((su.take k).map (slI false true .i64))])
    (fun k _ _ _ _ => su.length - k) 0 0 0 [] [] ⟨by omega, rfl, rfl⟩ (by simp only [PWeak_nil, PWeak_junk, PWeak_same, Int.cast_ofNat_Int, List.length_append, List.length_cons, List.length_nil, Nat.zero_add]) (by simp only [List.take_zero, List.map_nil, List.length_nil]) ?_
  intro k v g a1 a2 ⟨hle, ha1, ha2⟩ ih
  refine SemW_go (by kernel_rfl) ?_
  simp only [PP, P1, P2, P3, P4, P5, P6, P7, P8, P9, P10, P11, P12, P13, P14, L1, P15, N1, N2, N3, N4, N5, N6, N7, I1, I2, I3, I4, I5, I6, I7, reduceIte, reduceCtorEq]
  refine QIf.intro (fun c => ?_) (fun c => ?_)
  · have hk' : k < su.length := by omega
    obtain ⟨row, g1⟩ := some_of hk'
    obtain ⟨o, g2⟩ := some_of (xs := ow) (k := k) (by omega)
    obtain ⟨p, g3⟩ := some_of (xs := pr) (k := k) (by omega)
    have h0 : (0 : Int) ≤ k := by omega
    have hw := wrap_succ (k := k) (by show _ < 1000000000000; omega)
    have cp : (k : Int) < pr.length := by omega
    have co : (k : Int) < ow.length := by omega
    have l1 : a1.length = k := by rw [ha1]; simp [dualO]; omega
    have l2 : a2.length = k := by rw [ha2]; simp [dualP]; omega
    have l3 : (su.take k).length = k := by simp; omega
    have b1 : a1.length + 1 ≤ 140737488355328 := by omega
    have b2 : (a2.length + 1) * 8 ≤ 140737488355328 := by omega
    have b3 : ((su.take k).length + 1) * 24 ≤ 140737488355328 := by omega
    have b4 : a1.length + 1 ≤ 9223372036854775807 := by omega
    have b5 : a2.length + 1 ≤ 9223372036854775807 := by omega
    have b6 : (su.take k).length + 1 ≤ 9223372036854775807 := by omega
    simp only [PP, P1, P2, P3, P4, P5, P6, P7, P8, P9, P10, P11, P12, P13, P14, L1, P15, N1, N2, N3, N4, N5, N6, N7, I1, I2, I3, I4, I5, I6, I7, reduceIte, reduceCtorEq, c, g1, g2, g3, h0, cp, co, b1, b2, b4, b5]
    refine clone_p T (B.r _ (List.mem_of_getElem? g1)) ?_
    simp only [PP, P1, P2, P3, P4, P5, P6, P7, P8, P9, P10, P11, P12, P13, P14, L1, P15, N1, N2, N3, N4, N5, N6, N7, I1, I2, I3, I4, I5, I6, I7, reduceIte, reduceCtorEq, hw, b3, b6]
    refine SemW_to (ih (k + 1) (v + 1 + 1 + 1) (g + 1) (a1 ++ [IntKind.u8.wrap (1 - o)]) (a2 ++ [IntKind.i64.wrap (p + 1)]) ⟨by omega, ?_, ?_⟩ (by omega)) (by simp only [PWeak_nil, PWeak_junk, PWeak_same, Int.cast_ofNat_Int, List.length_append, List.length_cons, List.length_nil, Nat.zero_add]) ?_
    · rw [take_some g2, ha1]; simp [dualO]
    · rw [take_some g3, ha2]; simp [dualP]
    · simp only [take_some g1, List.map_append, List.map_cons, List.map_nil, List.length_append, List.length_cons, List.length_nil]
  · have t1 : su.take k = su := List.take_of_length_le (by omega)
    have ha1 : a1 = dualO ow := by rw [ha1, List.take_of_length_le (by omega)]
    have ha2 : a2 = dualP pr := by rw [ha2, List.take_of_length_le (by omega)]
    subst ha1 ha2
    simp only [PP, P1, P2, P3, P4, P5, P6, P7, P8, P9, P10, P11, P12, P13, P14, L1, P15, N1, N2, N3, N4, N5, N6, N7, I1, I2, I3, I4, I5, I6, I7, reduceIte, reduceCtorEq, c, t1]
    exact hq
end
end Go.Am.Ar
set_option linter.unusedVariables false
set_option linter.unusedSimpArgs false
set_option maxRecDepth 10000
namespace Go.Am.Ar
open Go.Am renaming pchk → P1, pold → P2, PKNo → P3, ppack → P4, PObj.under → P5, pput → P6, ptset → P7, ptget → P8, pev → P9, ofAV → P10, ofAV1 → P11, ppad → P12, pfill → P13, prepl → P14, AO.effect → P15
open List renaming replicate → L1
open Nat renaming reduceAdd → N1, reduceSub → N2, reduceMul → N3, reduceLT → N4, reduceLeDiff → N5, reduceEqDiff → N6, reduceBEq → N7
open Int renaming reduceToNat → I1, reduceLT → I2, reduceLE → I3, reduceEq → I4, reduceAdd → I5, reduceSub → I6, reduceNeg → I7
section
variable {tab : FuncId → Option AF} (T : HasA tab)
include T
set_option maxHeartbeats 2000000 in
theorem cdual_p {ow pr ws ss : List Int} {su : List (List Int)} (ho : ∀ x ∈ ow, 0 ≤ x) (hw0 : ∀ x ∈ ws, 0 ≤ x) :
    SemC tab 5 [gmP false false false false false false false false ow pr su, .agg [slI false false .u8 ws, slI false false .i64 ss]] [] fun r _ => r = .bool true := by
  refine SemC_fn T.h5 ?_
  simp only [af5, PP, P1, P2, P3, P4, P5, P6, P7, P8, P9, P10, P11, P12, P13, P14, L1, P15, N1, N2, N3, N4, N5, N6, N7, I1, I2, I3, I4, I5, I6, I7, reduceIte, reduceCtorEq]
  refine long33_p T (fun b hb => ?_)
  cases b with
  | true =>
    simp only [PP, P1, P2, P3, P4, P5, P6, P7, P8, P9, P10, P11, P12, P13, P14, L1, P15, N1, N2, N3, N4, N5, N6, N7, I1, I2, I3, I4, I5, I6, I7, reduceIte, reduceCtorEq]
    refine SemC_true T.awake ?_
    simp only [PP, P1, P2, P3, P4, P5, P6, P7, P8, P9, P10, P11, P12, P13, P14, L1, P15, N1, N2, N3, N4, N5, N6, N7, I1, I2, I3, I4, I5, I6, I7, reduceIte, reduceCtorEq]
  | false =>
    obtain ⟨hl, h40⟩ := hb rfl
    have S := longM_false hl
    have B := S.bnd
    have hwb : ws.length < big := by show _ < 1000000000000; omega
    have hsb : ss.length < big := by have := S.l ss (List.mem_singleton.2 rfl); show _ < 1000000000000; omega
    simp only [PP, P1, P2, P3, P4, P5, P6, P7, P8, P9, P10, P11, P12, P13, P14, L1, P15, N1, N2, N3, N4, N5, N6, N7, I1, I2, I3, I4, I5, I6, I7, reduceIte, reduceCtorEq]
    refine SemC_true T.awake ?_
    simp only [PP, P1, P2, P3, P4, P5, P6, P7, P8, P9, P10, P11, P12, P13, P14, L1, P15, N1, N2, N3, N4, N5, N6, N7, I1, I2, I3, I4, I5, I6, I7, reduceIte, reduceCtorEq]
    refine dual_p T B ?_
    unfold dualM
    by_cases c1 : checkM ow pr su = 0
    rotate_left
    · rw [if_neg c1]
      simp only [PP, P1, P2, P3, P4, P5, P6, P7, P8, P9, P10, P11, P12, P13, P14, L1, P15, N1, N2, N3, N4, N5, N6, N7, I1, I2, I3, I4, I5, I6, I7, reduceIte, reduceCtorEq, c1]
    rw [if_pos c1]
    by_cases c2 : maxL pr = 16
    · rw [if_pos c2]
      simp only [PP, P1, P2, P3, P4, P5, P6, P7, P8, P9, P10, P11, P12, P13, P14, L1, P15, N1, N2, N3, N4, N5, N6, N7, I1, I2, I3, I4, I5, I6, I7, reduceIte, reduceCtorEq]
    rw [if_neg c2]
    have V := valid_of c1
    have D := dual_of V ho c2
    have BD : Bnd (dualO ow) (dualP pr) su := ⟨by rw [D.n]; exact B.o, by rw [D.p]; exact B.p, B.s, B.r⟩
    simp only [PP, P1, P2, P3, P4, P5, P6, P7, P8, P9, P10, P11, P12, P13, P14, L1, P15, N1, N2, N3, N4, N5, N6, N7, I1, I2, I3, I4, I5, I6, I7, reduceIte, reduceCtorEq]
    refine copyInts_p T hsb ?_
    simp only [PP, P1, P2, P3, P4, P5, P6, P7, P8, P9, P10, P11, P12, P13, P14, L1, P15, N1, N2, N3, N4, N5, N6, N7, I1, I2, I3, I4, I5, I6, I7, reduceIte, reduceCtorEq]
    refine SemW_re (GStep.nilbox 3 0 1 rfl rfl rfl) ?_
    obtain ⟨wd, hwd⟩ : ∃ wd, wd = ws.map (1 - ·) := ⟨_, rfl⟩
    have lwd : wd.length = ws.length := by rw [hwd, List.length_map]
    refine loop4 (fun (k g v ver : Nat) => k ≤ ws.length ∧ ∀ u, u < k → ws.getD u 0 ≤ 1)
      (fun k g v ver => [.junk, .junk, .ptr 0 0 0, .ptr 1 0 0, .junk, .ptr 2 0 0, .junk, .ptr 3 0 0, p64 k, .junk, .junk, .junk, .junk, .junk, .junk, .junk, .junk, .junk, .junk, .junk, .junk, .junk, .junk, .junk, .junk, .junk, .junk, .junk, .junk, .junk, .junk, .junk, .junk, .junk, .junk, .junk, .junk, .junk, .junk, .junk, .junk, .junk, .junk, .junk, .junk, .junk, .junk, .junk, .junk, .junk, .junk, .junk, .junk, .junk, .junk, .junk, .junk, .junk, .junk, .junk, .junk, .junk, .junk, .junk, .junk, .junk, .junk, .junk, .junk, .junk, .junk, .junk, .junk, .junk, .junk, .junk, .junk, .junk, .junk, .junk, .junk, .junk, .junk, .junk, .junk])
      (fun k g v ver => [.cells 0 0 [slI false false .u8 ow, slI false false .i64 pr, slR false false false false .i64 su], .cells 0 0 [slI false false .u8 ws, slI false false .i64 ss], .cells 0 1 [slI false true .u8 (dualO ow), slI false true .i64 (dualP pr), slR false true false true .i64 su], .cells 0 ver [.ref 4 g 1 0 k, slI false true .i64 ss], .cells g v ((wd.take k).map (PV.int .u8))])
      (fun k _ _ _ => ws.length - k) 0 0 0 1 ⟨by omega, by intro u h; omega⟩ (by simp only [PWeak_nil, PWeak_junk, PWeak_same, Int.cast_ofNat_Int, List.length_append, List.length_cons, List.length_nil, Nat.zero_add]) rfl ?_
    intro k g v ver ⟨hle, hone⟩ ih
    refine SemW_go (by kernel_rfl) ?_
    simp only [PP, P1, P2, P3, P4, P5, P6, P7, P8, P9, P10, P11, P12, P13, P14, L1, P15, N1, N2, N3, N4, N5, N6, N7, I1, I2, I3, I4, I5, I6, I7, reduceIte, reduceCtorEq]
    refine QIf.intro (fun c => ?_) (fun c => ?_)
    · have hk : k < ws.length := by omega
      have k0 : (0 : Int) ≤ k := by omega
      have hwk := wrap_succ (k := k) (by show _ < 1000000000000; omega)
      obtain ⟨x, gx⟩ := some_of (xs := ws) (k := k) hk
      have hx0 := hw0 x (List.mem_of_getElem? gx)
      have ex : ws.getD k 0 = x := getD_some gx
      simp only [PP, P1, P2, P3, P4, P5, P6, P7, P8, P9, P10, P11, P12, P13, P14, L1, P15, N1, N2, N3, N4, N5, N6, N7, I1, I2, I3, I4, I5, I6, I7, reduceIte, reduceCtorEq, c, k0, gx]
      refine QIf.intro (fun d => ?_) (fun d => ?_)
      · simp only [PP, P1, P2, P3, P4, P5, P6, P7, P8, P9, P10, P11, P12, P13, P14, L1, P15, N1, N2, N3, N4, N5, N6, N7, I1, I2, I3, I4, I5, I6, I7, reduceIte, reduceCtorEq, d]
      · have hx : IntKind.u8.wrap (1 - x) = 1 - x := by
          have : x = 0 ∨ x = 1 := by omega
          rcases this with rfl | rfl <;> rfl
        have gd : wd[k]? = some (1 - x) := by rw [hwd, List.getElem?_map, gx]; rfl
        have hps : psub ((wd.take k).map (PV.int .u8)) 0 k = (wd.take k).map (PV.int .u8) := psub_all _ _ (by rw [List.length_map, List.length_take]; omega)
        have hcat : (wd.take k).map (PV.int .u8) ++ [p8 (1 - x)] = (wd.take (k + 1)).map (PV.int .u8) := by rw [List.take_add_one, gd, List.map_append]; rfl
        have c8 : k + 1 ≤ 140737488355328 := by omega
        have c1' : k + 1 ≤ 9223372036854775807 := by omega
        have hex : k ≤ ((wd.take k).map (PV.int .u8)).length := by rw [List.length_map, List.length_take]; omega
        rw [List.length_map] at hex
        simp only [PP, P1, P2, P3, P4, P5, P6, P7, P8, P9, P10, P11, P12, P13, P14, L1, P15, N1, N2, N3, N4, N5, N6, N7, I1, I2, I3, I4, I5, I6, I7, reduceIte, reduceCtorEq, d, k0, c, gx, hx, hps, c8, c1', hex, hwk]
        refine SemW_to (ih (k + 1) (g + 1) 0 (ver + 1) ⟨by omega, fun u hu => ?_⟩ (by omega)) (by simp only [PWeak_nil, PWeak_junk, PWeak_same, Int.cast_ofNat_Int, List.length_append, List.length_cons, List.length_nil, Nat.zero_add]) (by rw [hcat])
        by_cases e : u = k
        · subst e; omega
        · exact hone u (by omega)
    · have hkn : k = ws.length := by omega
      subst hkn
      have hw1 : ∀ x ∈ ws, 0 ≤ x ∧ x ≤ 1 := fun x hx => by
        obtain ⟨i, hi⟩ := List.getElem?_of_mem hx
        have := hone i (getSome_lt hi)
        rw [getD_some hi] at this
        exact ⟨hw0 x hx, this⟩
      have hwd0 : ∀ x ∈ wd, 0 ≤ x := fun x hx => by
        rw [hwd] at hx
        obtain ⟨y, hy, rfl⟩ := List.mem_map.1 hx
        have := hw1 y hy; omega
      simp only [PP, P1, P2, P3, P4, P5, P6, P7, P8, P9, P10, P11, P12, P13, P14, L1, P15, N1, N2, N3, N4, N5, N6, N7, I1, I2, I3, I4, I5, I6, I7, reduceIte, reduceCtorEq, c]
      rw [List.take_of_length_le (by omega)]
      refine closed33_p T B hw0 fun b e hC => ?_
      simp only [PP, P1, P2, P3, P4, P5, P6, P7, P8, P9, P10, P11, P12, P13, P14, L1, P15, N1, N2, N3, N4, N5, N6, N7, I1, I2, I3, I4, I5, I6, I7, reduceIte, reduceCtorEq]
      refine SemC_bor (args2 := [gmP false true false true false true false true (dualO ow) (dualP pr) su, .agg [slI true false .u8 wd, slI false true .i64 ss]]) (.same (by simp only [PP, P1, P2, P3, P4, P5, P6, P7, P8, P9, P10, P11, P12, P13, P14, L1, P15, N1, N2, N3, N4, N5, N6, N7, I1, I2, I3, I4, I5, I6, I7, reduceIte, reduceCtorEq]) (.agg (.ints rfl lwd (.same (by simp only [PP, P1, P2, P3, P4, P5, P6, P7, P8, P9, P10, P11, P12, P13, P14, L1, P15, N1, N2, N3, N4, N5, N6, N7, I1, I2, I3, I4, I5, I6, I7, reduceIte, reduceCtorEq]) .nil)) .nil)) (closed33_p T BD hwd0 fun b2 e2 hC2 => ⟨rfl, ?_⟩)
      rw [hwd] at hC2
      obtain ⟨rfl, rfl⟩ := (du_cls D hw1 hC).eq hC2
      simp only [PP, P1, P2, P3, P4, P5, P6, P7, P8, P9, P10, P11, P12, P13, P14, L1, P15, N1, N2, N3, N4, N5, N6, N7, I1, I2, I3, I4, I5, I6, I7, reduceIte, reduceCtorEq]
      refine check33_p T B fun e5 hE => ?_
      simp only [PP, P1, P2, P3, P4, P5, P6, P7, P8, P9, P10, P11, P12, P13, P14, L1, P15, N1, N2, N3, N4, N5, N6, N7, I1, I2, I3, I4, I5, I6, I7, reduceIte, reduceCtorEq]
      refine SemC_bor (args2 := [gmP false true false true false true false true (dualO ow) (dualP pr) su, .agg [slI true false .u8 wd, slI false true .i64 ss]]) (.same (by simp only [PP, P1, P2, P3, P4, P5, P6, P7, P8, P9, P10, P11, P12, P13, P14, L1, P15, N1, N2, N3, N4, N5, N6, N7, I1, I2, I3, I4, I5, I6, I7, reduceIte, reduceCtorEq]) (.agg (.ints rfl lwd (.same (by simp only [PP, P1, P2, P3, P4, P5, P6, P7, P8, P9, P10, P11, P12, P13, P14, L1, P15, N1, N2, N3, N4, N5, N6, N7, I1, I2, I3, I4, I5, I6, I7, reduceIte, reduceCtorEq]) .nil)) .nil)) (check33_p T BD fun e6 hE2 => ⟨rfl, ?_⟩)
      rw [hwd] at hE2
      obtain rfl := (du_chk D hw1 hE).eq hE2
      cases b with
      | true => simp only [PP, P1, P2, P3, P4, P5, P6, P7, P8, P9, P10, P11, P12, P13, P14, L1, P15, N1, N2, N3, N4, N5, N6, N7, I1, I2, I3, I4, I5, I6, I7, reduceIte, reduceCtorEq]
      | false => simp only [PP, P1, P2, P3, P4, P5, P6, P7, P8, P9, P10, P11, P12, P13, P14, L1, P15, N1, N2, N3, N4, N5, N6, N7, I1, I2, I3, I4, I5, I6, I7, reduceIte, reduceCtorEq]
theorem cdual_all (args : List AV) (h : H) (hs : ShVs [gameTy, solTy] args h) :
    ∃ n h', (run tab n).call 5 args h = some (.bool true, h') := by
  obtain ⟨a, b, rfl, ha, hb⟩ := shVs2 hs
  obtain ⟨ow, pr, su, r1, N⟩ := arg_game ha
  obtain ⟨ws, ss, r2, hw⟩ := arg_sol hb
  exact run_of_C (law_of_sem (.cons r1 (.cons r2 (.nil _))) (cdual_p T (fun x hx => (N.o x hx).1) fun x hx => (hw x hx).1))
end
end Go.Am.Ar

