/- Contract: a refutation of a player's part (certify.refute), and what goes with it. -/
import Derived.Test.YtkbdnbmnopmhdaaCertifyPlaysG4
import Derived.Test.YtkbdnbmnopmhdaaCertifyPlaysG1
import Derived.Test.YtkbdnbmnopmhdaaCertifyPlaysG0
import Derived.Test.YtkbdnbmnopmhdaaPmL
set_option linter.unusedVariables false
set_option linter.unusedSimpArgs false
set_option maxRecDepth 10000
namespace Go.Am.Ar
open Go.Am renaming pchk → P1, pold → P2, PKNo → P3, ppack → P4, PObj.under → P5, pput → P6, ptset → P7, ptget → P8, pev → P9, ofAV → P10, ofAV1 → P11, ppad → P12, pfill → P13, prepl → P14, AO.effect → P15
open List renaming replicate → L1
open Nat renaming reduceAdd → N1, reduceSub → N2, reduceMul → N3, reduceLT → N4, reduceLeDiff → N5, reduceEqDiff → N6, reduceBEq → N7
open Int renaming reduceToNat → I1, reduceLT → I2, reduceLE → I3, reduceEq → I4, reduceAdd → I5, reduceSub → I6, reduceNeg → I7
theorem Ch.mono {S : Nat → List Nat} {A A' : Nat → Prop} {u : Nat} (h : ∀ x, A x → A' x) : ∀ {c : List Nat}, Ch S A u c → Ch S A' u c
  | [], _ => trivial
  | [x], q => q
  | x :: y :: c, ⟨h1, h2, h3⟩ => ⟨h1, h y h2, Ch.mono h h3⟩
theorem Rch.mono' {E : Nat → Nat → Prop} {Q Q' : Nat → Prop} {v u : Nat} (hq : ∀ x, Q x → Q' x) (h : Rch E Q v u) : Rch E Q' v u := h.cond fun _ b _ q => hq b q
def LoopR (mv : List (List Int)) (pr : List Int) (p : Int) (w : Nat) (lc : List Nat) : Prop :=
  w < mv.length ∧ Ch (Sf mv) (fun x => zP pr x ≤ zP pr w) w (w :: lc) ∧ lc.length + 1 ≤ mv.length ∧ zP pr w % 2 ≠ p
def StemR (mv : List (List Int)) (ws : List Int) (p : Int) (w : Nat) (stem : PV) : Prop :=
  (stem = .nils ∧ ws.getD w 0 = p) ∨ ∃ (v : Nat) (sc : List Nat), stem = slI false true .i64 (nI (v :: sc)) ∧ v < mv.length ∧ ws.getD v 0 = p ∧ ¬ ws.getD w 0 = p ∧ Ch (Sf mv) (fun _ => True) w (v :: sc) ∧ sc.length + 1 ≤ mv.length
theorem cer_in {ow pr ws ss : List Int} {su : List (List Int)} {p : Int} (F : FormP ow pr su ws ss) (B : Bnd ow pr su) : RowsIn (tabA ow.length (movC ow ws ss su p)) := by
  have : tabA ow.length (movF ow su p (tabA ow.length (ownF ow ws ss p))) = tabA ow.length (movC ow ws ss su p) := tabA_congr fun v hv => mov_eq F hv
  rw [← this]
  exact mov_in (valid_of F.c) B
theorem loop_ref {ow pr ws ss : List Int} {su : List (List Int)} {p : Int} {w : Nat} {lc : List Nat} {stem : PV} (hl : LoopR (tabA ow.length (movC ow ws ss su p)) pr p w lc) (hs : StemR (tabA ow.length (movC ow ws ss su p)) ws p w stem) : RefP ow pr ws ss su p := by
  obtain ⟨h1, h2, h3, h4⟩ := hl
  rw [tabA_len] at h1
  refine ⟨w, h1, ?_, h4, h2.rch (Int.le_refl _)⟩
  rcases hs with ⟨_, q⟩ | ⟨v, sc, _, q1, q2, _, q3, _⟩
  · exact ⟨w, h1, q, .inl rfl⟩
  · rw [tabA_len] at q1
    exact ⟨v, q1, q2, .inr (q3.rch trivial)⟩
section
variable {tab : FuncId → Option AF} (T : HasA tab)
include T
set_option maxHeartbeats 2000000 in
theorem refute_p {M : Mem} {K : PV → Mem → Prop} {f1 o1 f2 o2 f3 o3 f4 o4 f5 o5 f6 o6 : Bool} {ow pr ws ss : List Int} {su : List (List Int)} {p : Int} (B : Bnd ow pr su) (F : FormP ow pr su ws ss) (hp : p = 0 ∨ p = 1)
    (hk1 : ¬ RefP ow pr ws ss su p → K (.tuple [.nils, .nils]) M)
    (hk2 : ∀ (w : Nat) (lc : List Nat) (stem : PV), LoopR (tabA ow.length (movC ow ws ss su p)) pr p w lc → StemR (tabA ow.length (movC ow ws ss su p)) ws p w stem → K (.tuple [stem, slI false true .i64 (nI (w :: lc))]) M) :
    SemC tab 34 [gmP f1 o1 f2 o2 f3 o3 f4 o4 ow pr su, .agg (sC f5 o5 f6 o6 ws ss), p8 p] M K := by
  have V := valid_of F.c
  have n1 := V.n1
  have hs := V.s
  have hpl := V.p
  have lw := F.lw
  have ls := F.ls
  have hwp : IntKind.i64.wrap p = p := wrap64 (by omega) (by omega)
  have hF : ∀ v, v < ow.length → ∀ (M' : Mem) (K' : PV → Mem → Prop), K' (.bool (decide (ws.getD v 0 = p))) M' → SemC tab 56 (p64 v :: [.cp (sC f5 o5 f6 o6 ws ss) 0, .cp [p8 p] 0]) M' K' := fun v hv M' K' hK' => by
    have v0 : (0 : Int) ≤ v := by omega
    have vn : (v : Int) < ow.length := by omega
    obtain ⟨w, g2⟩ := some_of (xs := ws) (k := v) (by omega)
    rw [getD_some g2] at hK'
    refine SemC_pure T.h56 (by simp only [PP, P1, P2, P3, P4, P5, P6, P7, P8, P9, P10, P11, P12, P13, P14, L1, P15, N1, N2, N3, N4, N5, N6, N7, I1, I2, I3, I4, I5, I6, I7, reduceIte, reduceCtorEq, PV.under]) ?_
    simp only [af56, PP, P1, P2, P3, P4, P5, P6, P7, P8, P9, P10, P11, P12, P13, P14, L1, P15, N1, N2, N3, N4, N5, N6, N7, I1, I2, I3, I4, I5, I6, I7, reduceIte, reduceCtorEq, v0, vn, g2, lw]
    exact hK'
  have hA : ∀ (k : Nat), k < ow.length → ∀ v, v < ow.length → ∀ (M' : Mem) (K' : PV → Mem → Prop), K' (.bool (decide (pr.getD v 0 ≤ pr.getD k 0))) M' → SemC tab 58 (p64 v :: [.cp (gC f1 o1 f2 o2 f3 o3 f4 o4 ow pr su) 0, .cp [p64 k] 0]) M' K' := fun k hk v hv M' K' hK' => by
    have v0 : (0 : Int) ≤ v := by omega
    have vn : (v : Int) < ow.length := by omega
    have k0 : (0 : Int) ≤ k := by omega
    have kn : (k : Int) < ow.length := by omega
    obtain ⟨a, g1⟩ := some_of (xs := pr) (k := v) (by omega)
    obtain ⟨b, g2⟩ := some_of (xs := pr) (k := k) (by omega)
    rw [getD_some g1, getD_some g2] at hK'
    refine SemC_pure T.h58 (by simp only [PP, P1, P2, P3, P4, P5, P6, P7, P8, P9, P10, P11, P12, P13, P14, L1, P15, N1, N2, N3, N4, N5, N6, N7, I1, I2, I3, I4, I5, I6, I7, reduceIte, reduceCtorEq, PV.under]) ?_
    simp only [af58, PP, P1, P2, P3, P4, P5, P6, P7, P8, P9, P10, P11, P12, P13, P14, L1, P15, N1, N2, N3, N4, N5, N6, N7, I1, I2, I3, I4, I5, I6, I7, reduceIte, reduceCtorEq, v0, vn, k0, kn, g1, g2, hpl]
    exact hK'
  have hT : ∀ (k : Nat), ∀ v, ∀ (M' : Mem) (K' : PV → Mem → Prop), K' (.bool (decide (v = k))) M' → SemC tab 59 (p64 v :: [.cp [p64 k] 0]) M' K' := fun k v M' K' hK' => by
    refine SemC_pure T.h59 (by simp only [PP, P1, P2, P3, P4, P5, P6, P7, P8, P9, P10, P11, P12, P13, P14, L1, P15, N1, N2, N3, N4, N5, N6, N7, I1, I2, I3, I4, I5, I6, I7, reduceIte, reduceCtorEq, PV.under]) ?_
    simp only [af59, PP, P1, P2, P3, P4, P5, P6, P7, P8, P9, P10, P11, P12, P13, P14, L1, P15, N1, N2, N3, N4, N5, N6, N7, I1, I2, I3, I4, I5, I6, I7, reduceIte, reduceCtorEq]
    rw [decide_eq_decide.2 (show (v : Int) = k ↔ v = k by omega)]
    exact hK'
  have hU : ∀ v : Nat, ∀ (M' : Mem) (K' : PV → Mem → Prop), K' (.bool true) M' → SemC tab 61 (p64 v :: []) M' K' := fun v M' K' hK' => by
    refine SemC_pure T.h61 (by simp only [PP, P1, P2, P3, P4, P5, P6, P7, P8, P9, P10, P11, P12, P13, P14, L1, P15, N1, N2, N3, N4, N5, N6, N7, I1, I2, I3, I4, I5, I6, I7, reduceIte, reduceCtorEq, PV.under]) ?_
    simp only [af61, PP, P1, P2, P3, P4, P5, P6, P7, P8, P9, P10, P11, P12, P13, P14, L1, P15, N1, N2, N3, N4, N5, N6, N7, I1, I2, I3, I4, I5, I6, I7, reduceIte, reduceCtorEq]
    exact hK'
  refine SemC_pureS T.h34 (by simp only [PP, P1, P2, P3, P4, P5, P6, P7, P8, P9, P10, P11, P12, P13, P14, L1, P15, N1, N2, N3, N4, N5, N6, N7, I1, I2, I3, I4, I5, I6, I7, reduceIte, reduceCtorEq, PV.under]) ?_
  simp only [af34]
  refine SemW_seq (SemW_of ?_)
  simp only [PP, P1, P2, P3, P4, P5, P6, P7, P8, P9, P10, P11, P12, P13, P14, L1, P15, N1, N2, N3, N4, N5, N6, N7, I1, I2, I3, I4, I5, I6, I7, reduceIte, reduceCtorEq]
  refine SemW_re (GStep.freezeP (b := [.junk, .junk, .junk, .cp (gC f1 o1 f2 o2 f3 o3 f4 o4 ow pr su) 0, .ptr 1 0 0, .ptr 2 0 0, .nils, .nils, .junk, .junk, .junk, .junk, .junk, .junk, .junk, .junk, .junk, .junk, .junk, .junk, .junk, .junk, .junk, .junk, .junk, .junk, .junk, .junk, .junk, .junk, .junk, .junk, .junk, .junk, .junk, .junk, .junk, .junk, .junk, .junk, .junk, .junk, .junk, .junk, .junk, .junk, .junk, .junk, .junk, .junk, .junk, .junk, .junk, .junk, .junk, .junk, .junk, .junk, .junk, .junk, .junk, .junk, .junk, .junk, .junk, .junk, .junk, .junk, .junk, .junk, .junk, .junk, .junk, .junk, .junk, .junk, .junk, .junk, .junk, .junk, .junk, .junk, .junk, .junk, .junk, .junk]) 0 (Nat.zero_le _) rfl (by simp only [PFrzP_nil, PFrzP_junk, PFrzP_same, PFrzP_ptr]) rfl) ?_
  refine SemW_re (GStep.freezeP (b := [.junk, .junk, .junk, .cp (gC f1 o1 f2 o2 f3 o3 f4 o4 ow pr su) 0, .cp (sC f5 o5 f6 o6 ws ss) 0, .ptr 2 0 0, .nils, .nils, .junk, .junk, .junk, .junk, .junk, .junk, .junk, .junk, .junk, .junk, .junk, .junk, .junk, .junk, .junk, .junk, .junk, .junk, .junk, .junk, .junk, .junk, .junk, .junk, .junk, .junk, .junk, .junk, .junk, .junk, .junk, .junk, .junk, .junk, .junk, .junk, .junk, .junk, .junk, .junk, .junk, .junk, .junk, .junk, .junk, .junk, .junk, .junk, .junk, .junk, .junk, .junk, .junk, .junk, .junk, .junk, .junk, .junk, .junk, .junk, .junk, .junk, .junk, .junk, .junk, .junk, .junk, .junk, .junk, .junk, .junk, .junk, .junk, .junk, .junk, .junk, .junk, .junk]) 1 (Nat.zero_le _) rfl (by simp only [PFrzP_nil, PFrzP_junk, PFrzP_same, PFrzP_ptr]) rfl) ?_
  refine SemW_re (GStep.freezeP (b := [.junk, .junk, .junk, .cp (gC f1 o1 f2 o2 f3 o3 f4 o4 ow pr su) 0, .cp (sC f5 o5 f6 o6 ws ss) 0, .cp [p8 p] 0, .nils, .nils, .junk, .junk, .junk, .junk, .junk, .junk, .junk, .junk, .junk, .junk, .junk, .junk, .junk, .junk, .junk, .junk, .junk, .junk, .junk, .junk, .junk, .junk, .junk, .junk, .junk, .junk, .junk, .junk, .junk, .junk, .junk, .junk, .junk, .junk, .junk, .junk, .junk, .junk, .junk, .junk, .junk, .junk, .junk, .junk, .junk, .junk, .junk, .junk, .junk, .junk, .junk, .junk, .junk, .junk, .junk, .junk, .junk, .junk, .junk, .junk, .junk, .junk, .junk, .junk, .junk, .junk, .junk, .junk, .junk, .junk, .junk, .junk, .junk, .junk, .junk, .junk, .junk, .junk]) 2 (Nat.zero_le _) rfl (by simp only [PFrzP_nil, PFrzP_junk, PFrzP_same, PFrzP_ptr]) rfl) ?_
  refine SemW_re (GStep.drop (b := [.junk, .junk, .junk, .cp (gC f1 o1 f2 o2 f3 o3 f4 o4 ow pr su) 0, .cp (sC f5 o5 f6 o6 ws ss) 0, .cp [p8 p] 0, .nils, .nils, .junk, .junk, .junk, .junk, .junk, .junk, .junk, .junk, .junk, .junk, .junk, .junk, .junk, .junk, .junk, .junk, .junk, .junk, .junk, .junk, .junk, .junk, .junk, .junk, .junk, .junk, .junk, .junk, .junk, .junk, .junk, .junk, .junk, .junk, .junk, .junk, .junk, .junk, .junk, .junk, .junk, .junk, .junk, .junk, .junk, .junk, .junk, .junk, .junk, .junk, .junk, .junk, .junk, .junk, .junk, .junk, .junk, .junk, .junk, .junk, .junk, .junk, .junk, .junk, .junk, .junk, .junk, .junk, .junk, .junk, .junk, .junk, .junk, .junk, .junk, .junk, .junk, .junk]) 0 (Nat.zero_le _) (by simp) (by simp only [PWeak_nil, PWeak_junk, PWeak_same, Int.cast_ofNat_Int, List.length_append, List.length_cons, List.length_nil, Nat.zero_add]) (by simp only [PP, P1, P2, P3, P4, P5, P6, P7, P8, P9, P10, P11, P12, P13, P14, L1, P15, N1, N2, N3, N4, N5, N6, N7, I1, I2, I3, I4, I5, I6, I7, reduceIte, reduceCtorEq, PV.under]) rfl rfl) ?_
  refine SemW_of ?_
  simp only [PP, P1, P2, P3, P4, P5, P6, P7, P8, P9, P10, P11, P12, P13, P14, L1, P15, N1, N2, N3, N4, N5, N6, N7, I1, I2, I3, I4, I5, I6, I7, reduceIte, reduceCtorEq]
  refine moves33_p T B hs lw ls ?_
  have R := cer_in (p := p) F B
  have hRef : RefP ow pr ws ss su p ↔ ∃ w, w < ow.length ∧ (∃ v, v < ow.length ∧ ws.getD v 0 = p ∧ (w = v ∨ Rch (fun a b => b ∈ Sf (tabA ow.length (movC ow ws ss su p)) a) (fun _ => True) v w)) ∧ Bad (fun a b => b ∈ Sf (tabA ow.length (movC ow ws ss su p)) a) (zP pr) p w := Iff.rfl
  have lmv : (tabA ow.length (movC ow ws ss su p)).length = ow.length := tabA_len _ _
  revert R hRef hk2 lmv
  generalize tabA ow.length (movC ow ws ss su p) = mv
  intro hk2 R hRef lmv
  rw [hRef] at hk1
  simp only [PP, P1, P2, P3, P4, P5, P6, P7, P8, P9, P10, P11, P12, P13, P14, L1, P15, N1, N2, N3, N4, N5, N6, N7, I1, I2, I3, I4, I5, I6, I7, reduceIte, reduceCtorEq]
  refine reach33_p T R (F := fun v => decide (ws.getD v 0 = p)) (by simp only [PP, P1, P2, P3, P4, P5, P6, P7, P8, P9, P10, P11, P12, P13, P14, L1, P15, N1, N2, N3, N4, N5, N6, N7, I1, I2, I3, I4, I5, I6, I7, reduceIte, reduceCtorEq, PV.under]) (fun v hv => hF v (by omega)) fun sn lsn hsn => ?_
  simp only [PP, P1, P2, P3, P4, P5, P6, P7, P8, P9, P10, P11, P12, P13, P14, L1, P15, N1, N2, N3, N4, N5, N6, N7, I1, I2, I3, I4, I5, I6, I7, reduceIte, reduceCtorEq]
  refine loop1 (fun (k : Nat) => k ≤ ow.length ∧ ∀ w, w < k → bm sn w → ¬ Bad (fun a b => b ∈ Sf mv a) (zP pr) p w)
    (fun k => [.junk, .junk, .junk, .cp (gC f1 o1 f2 o2 f3 o3 f4 o4 ow pr su) 0, .junk, .cp [p8 p] 0, .nils, .junk, slR false true true false .i64 mv, .func (.func 56) [] [.cp (sC f5 o5 f6 o6 ws ss) 0, .cp [p8 p] 0], .junk, .junk, .junk, .junk, .junk, .junk, .junk, .junk, .junk, .junk, .junk, .junk, .junk, .junk, .junk, slB false true sn, p64 sn.length, p64 k, .junk, .junk, .junk, .junk, .junk, .junk, .junk, .junk, .junk, .junk, .junk, .junk, .junk, .junk, .junk, .junk, .junk, .junk, .junk, .junk, .junk, .junk, .junk, .junk, .junk, .junk, .junk, .junk, .junk, .junk, .junk, .junk, .junk, .junk, .junk, .junk, .junk, .junk, .junk, .junk, .junk, .junk, .junk, .junk, .junk, .junk, .junk, .junk, .junk, .junk, .junk, .junk, .junk, .junk, .junk, .junk, .junk, .junk])
    (fun k => []) (fun k => ow.length - k) 0 ⟨by omega, by intro w h; omega⟩ (by simp only [PWeak_nil, PWeak_junk, PWeak_same, Int.cast_ofNat_Int, List.length_append, List.length_cons, List.length_nil, Nat.zero_add]) rfl ?_
  intro k ⟨hle, hbad⟩ ih
  refine SemW_loop (by kernel_rfl) (SemW_seq (SemW_of ?_))
  simp only [PP, P1, P2, P3, P4, P5, P6, P7, P8, P9, P10, P11, P12, P13, P14, L1, P15, N1, N2, N3, N4, N5, N6, N7, I1, I2, I3, I4, I5, I6, I7, reduceIte, reduceCtorEq]
  refine SemW_seq (SemW_of ?_)
  simp only [PP, P1, P2, P3, P4, P5, P6, P7, P8, P9, P10, P11, P12, P13, P14, L1, P15, N1, N2, N3, N4, N5, N6, N7, I1, I2, I3, I4, I5, I6, I7, reduceIte, reduceCtorEq]
  refine QIf.intro (fun c => ?_) (fun c => ?_)
  rotate_left
  · simp only [PP, P1, P2, P3, P4, P5, P6, P7, P8, P9, P10, P11, P12, P13, P14, L1, P15, N1, N2, N3, N4, N5, N6, N7, I1, I2, I3, I4, I5, I6, I7, reduceIte, reduceCtorEq, c]
    refine hk1 ?_
    rintro ⟨w, hw, ⟨v, hv, hwv, hvw⟩, hb⟩
    exact hbad w (by omega) ((hsn w).2 ⟨v, by omega, decide_eq_true hwv, hvw⟩) hb
  have hk' : k < ow.length := by omega
  have k0 : (0 : Int) ≤ k := by omega
  have kn : (k : Int) < ow.length := by omega
  have hwk := wrap_succ (k := k) (by show _ < 1000000000000; omega)
  obtain ⟨z, gz⟩ := some_of (xs := sn) (k := k) (by omega)
  obtain ⟨q, gq⟩ := some_of (xs := pr) (k := k) (by omega)
  have eq : zP pr k = q := getD_some gq
  have q0 : 0 ≤ q := (V.pri0 q (List.mem_of_getElem? gq)).1
  have hrem : q.tmod 2 = q % 2 := Int.tmod_eq_emod_of_nonneg q0
  simp only [PP, P1, P2, P3, P4, P5, P6, P7, P8, P9, P10, P11, P12, P13, P14, L1, P15, N1, N2, N3, N4, N5, N6, N7, I1, I2, I3, I4, I5, I6, I7, reduceIte, reduceCtorEq, c]
  refine SemW_seq (SemW_blk (SemW_seq (SemW_of ?_)))
  simp only [PP, P1, P2, P3, P4, P5, P6, P7, P8, P9, P10, P11, P12, P13, P14, L1, P15, N1, N2, N3, N4, N5, N6, N7, I1, I2, I3, I4, I5, I6, I7, reduceIte, reduceCtorEq, k0, c, gz]
  refine SemW_re (GStep.freezeP (b := [.junk, .junk, .junk, .cp (gC f1 o1 f2 o2 f3 o3 f4 o4 ow pr su) 0, .junk, .cp [p8 p] 0, .nils, .junk, slR false true true false .i64 mv, .func (.func 56) [] [.cp (sC f5 o5 f6 o6 ws ss) 0, .cp [p8 p] 0], .junk, .cp [p64 k] 0, .bool z, .junk, .junk, .junk, .junk, .junk, .junk, .junk, .junk, .junk, .junk, .junk, .junk, slB false true sn, p64 sn.length, p64 k, .junk, .junk, .junk, .junk, .junk, .junk, .junk, .junk, .junk, .junk, .junk, .junk, .junk, .junk, .junk, .junk, .junk, .junk, .junk, .junk, .junk, .junk, .junk, .junk, .junk, .junk, .junk, .junk, .junk, .junk, .junk, .junk, .junk, .junk, .junk, .junk, .junk, .junk, .junk, .junk, .junk, .junk, .junk, .junk, .junk, .junk, .junk, .junk, .junk, .junk, .junk, .junk, .junk, .junk, .junk, .junk, .junk, .junk]) 0 (Nat.zero_le _) rfl (by simp only [PFrzP_nil, PFrzP_junk, PFrzP_same, PFrzP_ptr]) rfl) ?_
  refine SemW_re (GStep.drop (b := [.junk, .junk, .junk, .cp (gC f1 o1 f2 o2 f3 o3 f4 o4 ow pr su) 0, .junk, .cp [p8 p] 0, .nils, .junk, slR false true true false .i64 mv, .func (.func 56) [] [.cp (sC f5 o5 f6 o6 ws ss) 0, .cp [p8 p] 0], .junk, .cp [p64 k] 0, .bool z, .junk, .junk, .junk, .junk, .junk, .junk, .junk, .junk, .junk, .junk, .junk, .junk, slB false true sn, p64 sn.length, p64 k, .junk, .junk, .junk, .junk, .junk, .junk, .junk, .junk, .junk, .junk, .junk, .junk, .junk, .junk, .junk, .junk, .junk, .junk, .junk, .junk, .junk, .junk, .junk, .junk, .junk, .junk, .junk, .junk, .junk, .junk, .junk, .junk, .junk, .junk, .junk, .junk, .junk, .junk, .junk, .junk, .junk, .junk, .junk, .junk, .junk, .junk, .junk, .junk, .junk, .junk, .junk, .junk, .junk, .junk, .junk, .junk, .junk, .junk]) 0 (Nat.zero_le _) (by simp) (by simp only [PWeak_nil, PWeak_junk, PWeak_same, Int.cast_ofNat_Int, List.length_append, List.length_cons, List.length_nil, Nat.zero_add]) (by simp only [PP, P1, P2, P3, P4, P5, P6, P7, P8, P9, P10, P11, P12, P13, P14, L1, P15, N1, N2, N3, N4, N5, N6, N7, I1, I2, I3, I4, I5, I6, I7, reduceIte, reduceCtorEq, PV.under]) rfl rfl) ?_
  refine SemW_of ?_
  have next : (bm sn k → ¬ Bad (fun a b => b ∈ Sf mv a) (zP pr) p k) → k + 1 ≤ ow.length ∧ ∀ w, w < k + 1 → bm sn w → ¬ Bad (fun a b => b ∈ Sf mv a) (zP pr) p w := fun h => ⟨hk', fun w hw hb => by
    by_cases e : w = k
    · subst e; exact h hb
    · exact hbad w (by omega) hb⟩
  cases z with
  | false =>
    simp only [PP, P1, P2, P3, P4, P5, P6, P7, P8, P9, P10, P11, P12, P13, P14, L1, P15, N1, N2, N3, N4, N5, N6, N7, I1, I2, I3, I4, I5, I6, I7, reduceIte, reduceCtorEq]
    refine SemW_of ?_
    simp only [PP, P1, P2, P3, P4, P5, P6, P7, P8, P9, P10, P11, P12, P13, P14, L1, P15, N1, N2, N3, N4, N5, N6, N7, I1, I2, I3, I4, I5, I6, I7, reduceIte, reduceCtorEq, hwk]
    exact SemW_weak (ih (k + 1) (next fun h => by rw [bm_of gz] at h; cases h) (by omega)) (by simp only [PWeak_nil, PWeak_junk, PWeak_same, Int.cast_ofNat_Int, List.length_append, List.length_cons, List.length_nil, Nat.zero_add])
  | true =>
    have hbk : bm sn k := (bm_of gz).2 rfl
    obtain ⟨v1, hv1, hv2, hv3⟩ := (hsn k).1 hbk
    simp only [PP, P1, P2, P3, P4, P5, P6, P7, P8, P9, P10, P11, P12, P13, P14, L1, P15, N1, N2, N3, N4, N5, N6, N7, I1, I2, I3, I4, I5, I6, I7, reduceIte, reduceCtorEq, k0, kn, gq, hpl, hwp, prem (show (2 : Int) ≠ 0 by decide), hrem]
    refine QIf.intro (fun d => ?_) (fun d => ?_)
    · simp only [PP, P1, P2, P3, P4, P5, P6, P7, P8, P9, P10, P11, P12, P13, P14, L1, P15, N1, N2, N3, N4, N5, N6, N7, I1, I2, I3, I4, I5, I6, I7, reduceIte, reduceCtorEq, d]
      refine SemW_of ?_
      simp only [PP, P1, P2, P3, P4, P5, P6, P7, P8, P9, P10, P11, P12, P13, P14, L1, P15, N1, N2, N3, N4, N5, N6, N7, I1, I2, I3, I4, I5, I6, I7, reduceIte, reduceCtorEq, hwk]
      exact SemW_weak (ih (k + 1) (next fun _ h => h.1 (by rw [eq]; exact d)) (by omega)) (by simp only [PWeak_nil, PWeak_junk, PWeak_same, Int.cast_ofNat_Int, List.length_append, List.length_cons, List.length_nil, Nat.zero_add])
    simp only [PP, P1, P2, P3, P4, P5, P6, P7, P8, P9, P10, P11, P12, P13, P14, L1, P15, N1, N2, N3, N4, N5, N6, N7, I1, I2, I3, I4, I5, I6, I7, reduceIte, reduceCtorEq, d]
    refine path_p T R (al := fun v => decide (pr.getD v 0 ≤ pr.getD k 0)) (to := fun v => decide (v = k)) (by omega) (by simp only [PP, P1, P2, P3, P4, P5, P6, P7, P8, P9, P10, P11, P12, P13, P14, L1, P15, N1, N2, N3, N4, N5, N6, N7, I1, I2, I3, I4, I5, I6, I7, reduceIte, reduceCtorEq, PV.under]) (by simp only [PP, P1, P2, P3, P4, P5, P6, P7, P8, P9, P10, P11, P12, P13, P14, L1, P15, N1, N2, N3, N4, N5, N6, N7, I1, I2, I3, I4, I5, I6, I7, reduceIte, reduceCtorEq, PV.under]) (fun v hv => hA k hk' v (by omega)) (fun v hv => hT k v) (fun hno => ?_) (fun lc x hx htx hax hch hlc => ?_)
    · simp only [PP, P1, P2, P3, P4, P5, P6, P7, P8, P9, P10, P11, P12, P13, P14, L1, P15, N1, N2, N3, N4, N5, N6, N7, I1, I2, I3, I4, I5, I6, I7, reduceIte, reduceCtorEq]
      refine SemW_of ?_
      simp only [PP, P1, P2, P3, P4, P5, P6, P7, P8, P9, P10, P11, P12, P13, P14, L1, P15, N1, N2, N3, N4, N5, N6, N7, I1, I2, I3, I4, I5, I6, I7, reduceIte, reduceCtorEq, hwk]
      exact SemW_weak (ih (k + 1) (next fun _ h => hno k (by omega) (decide_eq_true rfl) (h.2.mono' fun x hx => decide_eq_true hx)) (by omega)) (by simp only [PWeak_nil, PWeak_junk, PWeak_same, Int.cast_ofNat_Int, List.length_append, List.length_cons, List.length_nil, Nat.zero_add])
    · have hxk : x = k := of_decide_eq_true htx
      subst hxk
      have hL : LoopR mv pr p x lc := ⟨by omega, hch.mono fun x hx => of_decide_eq_true hx, hlc, by rw [eq]; exact d⟩
      have hk3 := fun stem hst => hk2 x lc stem hL hst
      obtain ⟨xl, hxl⟩ : ∃ xl, xl = nI (x :: lc) := ⟨_, rfl⟩
      have hx0 : ¬ xl.length = 0 := by rw [hxl]; simp
      rw [← hxl] at hk3 ⊢
      simp only [PP, P1, P2, P3, P4, P5, P6, P7, P8, P9, P10, P11, P12, P13, P14, L1, P15, N1, N2, N3, N4, N5, N6, N7, I1, I2, I3, I4, I5, I6, I7, reduceIte, reduceCtorEq, hx0]
      refine loop2 (fun (i : Nat) (st : PV) => i ≤ ow.length ∧ ((st = .nils ∧ ∀ v, v < i → ws.getD v 0 = p → v ≠ x → ¬ ws.getD x 0 = p → ¬ Rch (fun a b => b ∈ Sf mv a) (fun _ => True) v x) ∨ ∃ (v : Nat) (sc : List Nat), st = slI false true .i64 (nI (v :: sc)) ∧ v < mv.length ∧ ws.getD v 0 = p ∧ ¬ ws.getD x 0 = p ∧ Ch (Sf mv) (fun _ => True) x (v :: sc) ∧ sc.length + 1 ≤ mv.length))
        (fun i st => [.junk, .junk, .junk, .junk, .junk, .junk, st, slI false true .i64 xl, slR false true true false .i64 mv, .func (.func 56) [] [.cp (sC f5 o5 f6 o6 ws ss) 0, .cp [p8 p] 0], .junk, .cp [p64 x] 0, .junk, .junk, .func (.func 59) [] [.cp [p64 x] 0], .func (.func 61) [] [], .junk, .junk, .junk, .junk, .junk, .junk, .junk, .junk, .junk, .junk, .junk, .junk, .junk, .junk, .junk, .junk, .junk, .junk, .junk, .junk, .junk, .junk, .junk, .junk, .junk, .junk, .junk, .junk, .junk, .junk, .junk, .junk, .junk, .junk, .junk, .junk, .junk, .junk, .junk, p64 mv.length, p64 i, .junk, .junk, .junk, .junk, .junk, .junk, .junk, .junk, .junk, .junk, .junk, .junk, .junk, .junk, .junk, .junk, .junk, .junk, .junk, .junk, .junk, .junk, .junk, .junk, .junk, .junk, .junk, .junk, .junk])
        (fun i st => []) (fun i st => ow.length - i) 0 .nils ⟨by omega, .inl ⟨rfl, by intro v h; omega⟩⟩ (by simp only [PWeak_nil, PWeak_junk, PWeak_same, Int.cast_ofNat_Int, List.length_append, List.length_cons, List.length_nil, Nat.zero_add]) rfl ?_
      intro i st ⟨hle2, hst⟩ ih2
      have hwi := wrap_succ (k := i) (by show _ < 1000000000000; omega)
      rcases hst with ⟨rfl, hno⟩ | ⟨v, sc, rfl, w1, w2, w3, w4, w5⟩
      · refine SemW_go (by kernel_rfl) ?_
        simp only [PP, P1, P2, P3, P4, P5, P6, P7, P8, P9, P10, P11, P12, P13, P14, L1, P15, N1, N2, N3, N4, N5, N6, N7, I1, I2, I3, I4, I5, I6, I7, reduceIte, reduceCtorEq]
        refine QIf.intro (fun c2 => ?_) (fun c2 => ?_)
        · have hi : i < ow.length := by omega
          have nx : (ws.getD i 0 = p → i ≠ x → ¬ ws.getD x 0 = p → ¬ Rch (fun a b => b ∈ Sf mv a) (fun _ => True) i x) → ∀ v, v < i + 1 → ws.getD v 0 = p → v ≠ x → ¬ ws.getD x 0 = p → ¬ Rch (fun a b => b ∈ Sf mv a) (fun _ => True) v x := fun h v hv => by
            by_cases e : v = i
            · subst e; exact h
            · exact hno v (by omega)
          simp only [PP, P1, P2, P3, P4, P5, P6, P7, P8, P9, P10, P11, P12, P13, P14, L1, P15, N1, N2, N3, N4, N5, N6, N7, I1, I2, I3, I4, I5, I6, I7, reduceIte, reduceCtorEq, c2]
          refine hF i hi _ _ ?_
          by_cases d1 : ws.getD i 0 = p
          · rw [decide_eq_true d1]
            by_cases d2 : i = x
            · subst d2
              simp only [PP, P1, P2, P3, P4, P5, P6, P7, P8, P9, P10, P11, P12, P13, P14, L1, P15, N1, N2, N3, N4, N5, N6, N7, I1, I2, I3, I4, I5, I6, I7, reduceIte, reduceCtorEq, hwi]
              exact SemW_weak (ih2 (i + 1) .nils ⟨by omega, .inl ⟨rfl, nx fun _ h => absurd rfl h⟩⟩ (by omega)) (by simp only [PWeak_nil, PWeak_junk, PWeak_same, Int.cast_ofNat_Int, List.length_append, List.length_cons, List.length_nil, Nat.zero_add])
            · have d2' : ¬ (i : Int) = (x : Int) := by omega
              simp only [PP, P1, P2, P3, P4, P5, P6, P7, P8, P9, P10, P11, P12, P13, P14, L1, P15, N1, N2, N3, N4, N5, N6, N7, I1, I2, I3, I4, I5, I6, I7, reduceIte, reduceCtorEq, d2', hwi]
              refine hF x hk' _ _ ?_
              by_cases d3 : ws.getD x 0 = p
              · rw [decide_eq_true d3]
                simp only [PP, P1, P2, P3, P4, P5, P6, P7, P8, P9, P10, P11, P12, P13, P14, L1, P15, N1, N2, N3, N4, N5, N6, N7, I1, I2, I3, I4, I5, I6, I7, reduceIte, reduceCtorEq, hwi]
                exact SemW_weak (ih2 (i + 1) .nils ⟨by omega, .inl ⟨rfl, nx fun _ _ h => absurd d3 h⟩⟩ (by omega)) (by simp only [PWeak_nil, PWeak_junk, PWeak_same, Int.cast_ofNat_Int, List.length_append, List.length_cons, List.length_nil, Nat.zero_add])
              · rw [decide_eq_false d3]
                simp only [PP, P1, P2, P3, P4, P5, P6, P7, P8, P9, P10, P11, P12, P13, P14, L1, P15, N1, N2, N3, N4, N5, N6, N7, I1, I2, I3, I4, I5, I6, I7, reduceIte, reduceCtorEq, hwi]
                refine path_p T R (al := fun v => true) (to := fun v => decide (v = x)) (by omega) (by simp only [PP, P1, P2, P3, P4, P5, P6, P7, P8, P9, P10, P11, P12, P13, P14, L1, P15, N1, N2, N3, N4, N5, N6, N7, I1, I2, I3, I4, I5, I6, I7, reduceIte, reduceCtorEq, PV.under]) (by simp only [PP, P1, P2, P3, P4, P5, P6, P7, P8, P9, P10, P11, P12, P13, P14, L1, P15, N1, N2, N3, N4, N5, N6, N7, I1, I2, I3, I4, I5, I6, I7, reduceIte, reduceCtorEq, PV.under]) (fun v hv => hU v) (fun v hv => hT x v) (fun hno => ?_) (fun sc y hy hty hay hcy hls => ?_)
                · simp only [PP, P1, P2, P3, P4, P5, P6, P7, P8, P9, P10, P11, P12, P13, P14, L1, P15, N1, N2, N3, N4, N5, N6, N7, I1, I2, I3, I4, I5, I6, I7, reduceIte, reduceCtorEq, hwi]
                  exact SemW_weak (ih2 (i + 1) .nils ⟨by omega, .inl ⟨rfl, nx fun _ _ _ h => hno x (by omega) (decide_eq_true rfl) (h.mono' fun _ _ => rfl)⟩⟩ (by omega)) (by simp only [PWeak_nil, PWeak_junk, PWeak_same, Int.cast_ofNat_Int, List.length_append, List.length_cons, List.length_nil, Nat.zero_add])
                · have hyx : y = x := of_decide_eq_true hty
                  subst hyx
                  obtain ⟨yl, hyl⟩ : ∃ yl, yl = nI (i :: sc) := ⟨_, rfl⟩
                  rw [← hyl]
                  simp only [PP, P1, P2, P3, P4, P5, P6, P7, P8, P9, P10, P11, P12, P13, P14, L1, P15, N1, N2, N3, N4, N5, N6, N7, I1, I2, I3, I4, I5, I6, I7, reduceIte, reduceCtorEq, hwi]
                  exact SemW_weak (ih2 (i + 1) (slI false true .i64 yl) ⟨by omega, .inr ⟨i, sc, by rw [hyl], by omega, d1, d3, hcy.mono fun _ _ => trivial, hls⟩⟩ (by omega)) (by simp only [PWeak_nil, PWeak_junk, PWeak_same, Int.cast_ofNat_Int, List.length_append, List.length_cons, List.length_nil, Nat.zero_add])
          · rw [decide_eq_false d1]
            simp only [PP, P1, P2, P3, P4, P5, P6, P7, P8, P9, P10, P11, P12, P13, P14, L1, P15, N1, N2, N3, N4, N5, N6, N7, I1, I2, I3, I4, I5, I6, I7, reduceIte, reduceCtorEq, hwi]
            exact SemW_weak (ih2 (i + 1) .nils ⟨by omega, .inl ⟨rfl, nx fun h => absurd h d1⟩⟩ (by omega)) (by simp only [PWeak_nil, PWeak_junk, PWeak_same, Int.cast_ofNat_Int, List.length_append, List.length_cons, List.length_nil, Nat.zero_add])
        · simp only [PP, P1, P2, P3, P4, P5, P6, P7, P8, P9, P10, P11, P12, P13, P14, L1, P15, N1, N2, N3, N4, N5, N6, N7, I1, I2, I3, I4, I5, I6, I7, reduceIte, reduceCtorEq, c2]
          refine hk3 .nils ?_
          by_cases d3 : ws.getD x 0 = p
          · exact .inl ⟨rfl, d3⟩
          · exfalso
            have hv2 := of_decide_eq_true hv2
            rcases hv3 with e | e
            · subst e; exact d3 hv2
            · exact hno v1 (by omega) hv2 (fun e' => d3 (e' ▸ hv2)) d3 e
      · have hst0 : StemR mv ws p x (slI false true .i64 (nI (v :: sc))) := .inr ⟨v, sc, rfl, w1, w2, w3, w4, w5⟩
        have hk4 := hk3 _ hst0
        have stay : ∀ st, st = slI false true .i64 (nI (v :: sc)) → ∃ (v : Nat) (sc : List Nat), st = slI false true .i64 (nI (v :: sc)) ∧ v < mv.length ∧ ws.getD v 0 = p ∧ ¬ ws.getD x 0 = p ∧ Ch (Sf mv) (fun _ => True) x (v :: sc) ∧ sc.length + 1 ≤ mv.length := fun st e => ⟨v, sc, e, w1, w2, w3, w4, w5⟩
        obtain ⟨yl, hyl⟩ : ∃ yl, yl = nI (v :: sc) := ⟨_, rfl⟩
        have hy0 : ¬ yl.length = 0 := by rw [hyl]; simp
        rw [← hyl] at hk4 stay ⊢
        refine SemW_go (by kernel_rfl) ?_
        simp only [PP, P1, P2, P3, P4, P5, P6, P7, P8, P9, P10, P11, P12, P13, P14, L1, P15, N1, N2, N3, N4, N5, N6, N7, I1, I2, I3, I4, I5, I6, I7, reduceIte, reduceCtorEq]
        refine QIf.intro (fun c2 => ?_) (fun c2 => ?_)
        · have hi : i < ow.length := by omega
          have keep := ih2 (i + 1) (slI false true .i64 yl) ⟨by omega, .inr (stay _ rfl)⟩ (by omega)
          simp only [PP, P1, P2, P3, P4, P5, P6, P7, P8, P9, P10, P11, P12, P13, P14, L1, P15, N1, N2, N3, N4, N5, N6, N7, I1, I2, I3, I4, I5, I6, I7, reduceIte, reduceCtorEq, c2]
          refine hF i hi _ _ ?_
          by_cases d1 : ws.getD i 0 = p
          · rw [decide_eq_true d1]
            by_cases d2 : i = x
            · subst d2
              simp only [PP, P1, P2, P3, P4, P5, P6, P7, P8, P9, P10, P11, P12, P13, P14, L1, P15, N1, N2, N3, N4, N5, N6, N7, I1, I2, I3, I4, I5, I6, I7, reduceIte, reduceCtorEq, hwi, hy0]
              exact SemW_weak keep (by simp only [PWeak_nil, PWeak_junk, PWeak_same, Int.cast_ofNat_Int, List.length_append, List.length_cons, List.length_nil, Nat.zero_add])
            · have d2' : ¬ (i : Int) = (x : Int) := by omega
              simp only [PP, P1, P2, P3, P4, P5, P6, P7, P8, P9, P10, P11, P12, P13, P14, L1, P15, N1, N2, N3, N4, N5, N6, N7, I1, I2, I3, I4, I5, I6, I7, reduceIte, reduceCtorEq, d2', hwi, hy0]
              exact SemW_weak keep (by simp only [PWeak_nil, PWeak_junk, PWeak_same, Int.cast_ofNat_Int, List.length_append, List.length_cons, List.length_nil, Nat.zero_add])
          · rw [decide_eq_false d1]
            simp only [PP, P1, P2, P3, P4, P5, P6, P7, P8, P9, P10, P11, P12, P13, P14, L1, P15, N1, N2, N3, N4, N5, N6, N7, I1, I2, I3, I4, I5, I6, I7, reduceIte, reduceCtorEq, hwi, hy0]
            exact SemW_weak keep (by simp only [PWeak_nil, PWeak_junk, PWeak_same, Int.cast_ofNat_Int, List.length_append, List.length_cons, List.length_nil, Nat.zero_add])
        · simp only [PP, P1, P2, P3, P4, P5, P6, P7, P8, P9, P10, P11, P12, P13, P14, L1, P15, N1, N2, N3, N4, N5, N6, N7, I1, I2, I3, I4, I5, I6, I7, reduceIte, reduceCtorEq, c2]
          exact hk4
end
end Go.Am.Ar
set_option linter.unusedVariables false
set_option linter.unusedSimpArgs false
set_option maxRecDepth 10000
namespace Go.Am.Ar
open Go.Am renaming pchk → P1, pold → P2, PKNo → P3, ppack → P4, PObj.under → P5, pput → P6, ptset → P7, ptget → P8, pev → P9, ofAV → P10, ofAV1 → P11, ppad → P12, pfill → P13, prepl → P14, AO.effect → P15
open List renaming replicate → L1
open Nat renaming reduceAdd → N1, reduceSub → N2, reduceMul → N3, reduceLT → N4, reduceLeDiff → N5, reduceEqDiff → N6, reduceBEq → N7
open Int renaming reduceToNat → I1, reduceLT → I2, reduceLE → I3, reduceEq → I4, reduceAdd → I5, reduceSub → I6, reduceNeg → I7
section
variable {tab : FuncId → Option AF} (T : HasA tab)
include T
set_option maxHeartbeats 1000000 in
theorem refForm_p {M : Mem} {K : PV → Mem → Prop} {f1 o1 f2 o2 f3 o3 f4 o4 f5 o5 f6 o6 : Bool} {ow pr ws ss : List Int} {su : List (List Int)} (B : Bnd ow pr su)
    (hk : ∀ e : Int, FormE ow pr su ws ss e → K (p64 e) M) :
    SemC tab 23 [gmP f1 o1 f2 o2 f3 o3 f4 o4 ow pr su, .agg [slI f5 o5 .u8 ws, slI f6 o6 .i64 ss]] M K := by
  refine SemC_pure T.h23 (by simp only [PP, P1, P2, P3, P4, P5, P6, P7, P8, P9, P10, P11, P12, P13, P14, L1, P15, N1, N2, N3, N4, N5, N6, N7, I1, I2, I3, I4, I5, I6, I7, reduceIte, reduceCtorEq]) ?_
  simp only [af23, PP, P1, P2, P3, P4, P5, P6, P7, P8, P9, P10, P11, P12, P13, P14, L1, P15, N1, N2, N3, N4, N5, N6, N7, I1, I2, I3, I4, I5, I6, I7, reduceIte, reduceCtorEq]
  refine refCheck_p T B ?_
  simp only [PP, P1, P2, P3, P4, P5, P6, P7, P8, P9, P10, P11, P12, P13, P14, L1, P15, N1, N2, N3, N4, N5, N6, N7, I1, I2, I3, I4, I5, I6, I7, reduceIte, reduceCtorEq]
  refine QIf.intro (fun c1 => ?_) (fun c1 => ?_)
  rotate_left
  · simp only [PP, P1, P2, P3, P4, P5, P6, P7, P8, P9, P10, P11, P12, P13, P14, L1, P15, N1, N2, N3, N4, N5, N6, N7, I1, I2, I3, I4, I5, I6, I7, reduceIte, reduceCtorEq, c1]
    exact hk _ (.inl ⟨c1, rfl⟩)
  have V := valid_of c1
  have n0 := V.n0
  have n1 := V.n1
  have hs := V.s
  have hp := V.p
  simp only [PP, P1, P2, P3, P4, P5, P6, P7, P8, P9, P10, P11, P12, P13, P14, L1, P15, N1, N2, N3, N4, N5, N6, N7, I1, I2, I3, I4, I5, I6, I7, reduceIte, reduceCtorEq, c1]
  refine QIf.intro (fun c2 => ?_) (fun c2 => ?_)
  rotate_left
  · simp only [PP, P1, P2, P3, P4, P5, P6, P7, P8, P9, P10, P11, P12, P13, P14, L1, P15, N1, N2, N3, N4, N5, N6, N7, I1, I2, I3, I4, I5, I6, I7, reduceIte, reduceCtorEq, c2]
    exact hk _ (.inr (.inl ⟨c1, fun h => c2 (by have := h.1; omega), rfl⟩))
  simp only [PP, P1, P2, P3, P4, P5, P6, P7, P8, P9, P10, P11, P12, P13, P14, L1, P15, N1, N2, N3, N4, N5, N6, N7, I1, I2, I3, I4, I5, I6, I7, reduceIte, reduceCtorEq, c2]
  refine QIf.intro (fun c3 => ?_) (fun c3 => ?_)
  rotate_left
  · simp only [PP, P1, P2, P3, P4, P5, P6, P7, P8, P9, P10, P11, P12, P13, P14, L1, P15, N1, N2, N3, N4, N5, N6, N7, I1, I2, I3, I4, I5, I6, I7, reduceIte, reduceCtorEq, c3]
    exact hk _ (.inr (.inl ⟨c1, fun h => c3 (by have := h.2; omega), rfl⟩))
  have lw : ws.length = ow.length := by omega
  have ls : ss.length = ow.length := by omega
  simp only [PP, P1, P2, P3, P4, P5, P6, P7, P8, P9, P10, P11, P12, P13, P14, L1, P15, N1, N2, N3, N4, N5, N6, N7, I1, I2, I3, I4, I5, I6, I7, reduceIte, reduceCtorEq, c3]
  refine loop1 (fun (k : Nat) => k ≤ ow.length ∧ ∀ v, v < k → FormAt ow su ws ss v)
    (fun k => [.junk, .junk, .ptr 0 0 0, .ptr 1 0 0, .junk, .junk, p64 k, .junk, .junk, .junk, .junk, .junk, .junk, .junk, .junk, .junk, .junk, .junk, .junk, .junk, .junk, .junk, .junk, .junk, .junk, .junk, .junk, .junk, .junk, .junk, .junk, .junk, .junk, .junk, .junk, .junk, .junk, .junk, .junk, .junk, .junk, .junk, .junk, .junk, .junk, .junk, .junk, .junk, .junk, .junk, .junk, .junk, .junk, .junk, .junk, .junk, .junk, .junk, .junk, .junk, .junk, .junk, .junk, .junk, .junk, .junk, .junk, .junk, .junk, .junk, .junk, .junk, .junk, .junk, .junk, .junk, .junk, .junk, .junk, .junk, .junk, .junk, .junk, .junk, .junk, .junk, .junk])
    (fun k => [.cells 0 0 [slI f1 o1 .u8 ow, slI f2 o2 .i64 pr, slR f3 o3 f4 o4 .i64 su], .cells 0 0 [slI f5 o5 .u8 ws, slI f6 o6 .i64 ss]])
    (fun k => ow.length - k) 0 ⟨by omega, by intro v h; omega⟩ (by simp only [PWeak_nil, PWeak_junk, PWeak_same, Int.cast_ofNat_Int, List.length_append, List.length_cons, List.length_nil, Nat.zero_add]) rfl ?_
  intro k ⟨hle, hf⟩ ih
  refine SemW_go (by kernel_rfl) ?_
  simp only [PP, P1, P2, P3, P4, P5, P6, P7, P8, P9, P10, P11, P12, P13, P14, L1, P15, N1, N2, N3, N4, N5, N6, N7, I1, I2, I3, I4, I5, I6, I7, reduceIte, reduceCtorEq]
  refine QIf.intro (fun c => ?_) (fun c => ?_)
  · have hk' : k < ow.length := by omega
    have k0 : (0 : Int) ≤ k := by omega
    have kn : (k : Int) < ow.length := by omega
    have hwk := wrap_succ (k := k) (by show _ < 1000000000000; omega)
    obtain ⟨o, g1⟩ := some_of (xs := ow) (k := k) hk'
    obtain ⟨w, g2⟩ := some_of (xs := ws) (k := k) (by omega)
    obtain ⟨s, g3⟩ := some_of (xs := ss) (k := k) (by omega)
    obtain ⟨r, g4⟩ := some_of (xs := su) (k := k) (by omega)
    have e1 : ow.getD k 0 = o := getD_some g1
    have e2 : ws.getD k 0 = w := getD_some g2
    have e3 : ss.getD k 0 = s := getD_some g3
    have e4 : su.getD k [] = r := by simp [List.getD, g4]
    have good : FormAt ow su ws ss k → k + 1 ≤ ow.length ∧ ∀ v, v < k + 1 → FormAt ow su ws ss v := fun h => ⟨hk', fun v hv => by
      by_cases e : v = k
      · subst e; exact h
      · exact hf v (by omega)⟩
    simp only [PP, P1, P2, P3, P4, P5, P6, P7, P8, P9, P10, P11, P12, P13, P14, L1, P15, N1, N2, N3, N4, N5, N6, N7, I1, I2, I3, I4, I5, I6, I7, reduceIte, reduceCtorEq, c, k0, kn, g2, lw]
    refine QIf.intro (fun d => ?_) (fun d => ?_)
    · simp only [PP, P1, P2, P3, P4, P5, P6, P7, P8, P9, P10, P11, P12, P13, P14, L1, P15, N1, N2, N3, N4, N5, N6, N7, I1, I2, I3, I4, I5, I6, I7, reduceIte, reduceCtorEq, d]
      exact hk _ (.inr (.inr (.inl ⟨c1, ⟨lw, ls⟩, k, hk', hf, .inl ⟨by rw [e2]; exact d, rfl⟩⟩)))
    have bad : ¬ FormAt ow su ws ss k → K (p64 13) M := fun h => hk _ (.inr (.inr (.inl ⟨c1, ⟨lw, ls⟩, k, hk', hf, .inr ⟨by rw [e2]; exact d, h, rfl⟩⟩)))
    simp only [PP, P1, P2, P3, P4, P5, P6, P7, P8, P9, P10, P11, P12, P13, P14, L1, P15, N1, N2, N3, N4, N5, N6, N7, I1, I2, I3, I4, I5, I6, I7, reduceIte, reduceCtorEq, d, k0, kn, g1, g2, lw]
    refine QIf.intro (fun d2 => ?_) (fun d2 => ?_)
    · simp only [PP, P1, P2, P3, P4, P5, P6, P7, P8, P9, P10, P11, P12, P13, P14, L1, P15, N1, N2, N3, N4, N5, N6, N7, I1, I2, I3, I4, I5, I6, I7, reduceIte, reduceCtorEq, d2, k0, kn, g1, g2, g3, g4, hs, ls, lw]
      refine hasInt_p T (B.r r (List.mem_of_getElem? g4)) ?_
      by_cases q : s ∈ r
      · simp only [PP, P1, P2, P3, P4, P5, P6, P7, P8, P9, P10, P11, P12, P13, P14, L1, P15, N1, N2, N3, N4, N5, N6, N7, I1, I2, I3, I4, I5, I6, I7, reduceIte, reduceCtorEq, d2, q, k0, kn, g1, g2, lw, hwk]
        exact SemW_weak (ih (k + 1) (good ⟨by rw [e2]; exact d, fun _ => by rw [e3, e4]; exact q, fun h => absurd (by rw [e1, e2]; exact d2) h⟩) (by omega)) (by simp only [PWeak_nil, PWeak_junk, PWeak_same, Int.cast_ofNat_Int, List.length_append, List.length_cons, List.length_nil, Nat.zero_add])
      · simp only [PP, P1, P2, P3, P4, P5, P6, P7, P8, P9, P10, P11, P12, P13, P14, L1, P15, N1, N2, N3, N4, N5, N6, N7, I1, I2, I3, I4, I5, I6, I7, reduceIte, reduceCtorEq, q]
        exact bad fun h => q (by have := h.own (by rw [e1, e2]; exact d2); rwa [e3, e4] at this)
    · simp only [PP, P1, P2, P3, P4, P5, P6, P7, P8, P9, P10, P11, P12, P13, P14, L1, P15, N1, N2, N3, N4, N5, N6, N7, I1, I2, I3, I4, I5, I6, I7, reduceIte, reduceCtorEq, d2, k0, kn, g1, g2, g3, ls, lw]
      refine QIf.intro (fun q => ?_) (fun q => ?_)
      · simp only [PP, P1, P2, P3, P4, P5, P6, P7, P8, P9, P10, P11, P12, P13, P14, L1, P15, N1, N2, N3, N4, N5, N6, N7, I1, I2, I3, I4, I5, I6, I7, reduceIte, reduceCtorEq, q, hwk]
        exact SemW_weak (ih (k + 1) (good ⟨by rw [e2]; exact d, fun h => absurd (by rw [← e1, ← e2]; exact h) d2, fun _ => by rw [e3]; exact q⟩) (by omega)) (by simp only [PWeak_nil, PWeak_junk, PWeak_same, Int.cast_ofNat_Int, List.length_append, List.length_cons, List.length_nil, Nat.zero_add])
      · simp only [PP, P1, P2, P3, P4, P5, P6, P7, P8, P9, P10, P11, P12, P13, P14, L1, P15, N1, N2, N3, N4, N5, N6, N7, I1, I2, I3, I4, I5, I6, I7, reduceIte, reduceCtorEq, q]
        exact bad fun h => q (by have := h.opp (by rw [e1, e2]; exact d2); rwa [e3] at this)
  have hkn : k = ow.length := by omega
  subst hkn
  simp only [PP, P1, P2, P3, P4, P5, P6, P7, P8, P9, P10, P11, P12, P13, P14, L1, P15, N1, N2, N3, N4, N5, N6, N7, I1, I2, I3, I4, I5, I6, I7, reduceIte, reduceCtorEq, c]
  exact hk _ (.inr (.inr (.inr ⟨⟨c1, lw, ls, hf⟩, rfl⟩)))
def ChkE (ow pr : List Int) (su : List (List Int)) (ws ss : List Int) (e : Int) : Prop := (¬ e = 0 ∧ FormE ow pr su ws ss e) ∨ (FormP ow pr su ws ss ∧ ¬ CorrP ow pr su ws ss ∧ e = 14) ∨ (CorrP ow pr su ws ss ∧ e = 0)
omit T in
theorem ChkE.eq {ow pr ws ss : List Int} {su : List (List Int)} {e e' : Int} (h : ChkE ow pr su ws ss e) (h' : ChkE ow pr su ws ss e') : e = e' := by
  rcases h with ⟨h1, h2⟩ | ⟨h1, h2, rfl⟩ | ⟨h1, rfl⟩
  · have nf : ¬ FormP ow pr su ws ss := fun q => h1 (h2.zero.2 q)
    rcases h' with ⟨g1, g2⟩ | ⟨g1, g2, rfl⟩ | ⟨g1, rfl⟩
    · exact h2.eq g2
    · exact absurd g1 nf
    · exact absurd g1.formP nf
  · rcases h' with ⟨g1, g2⟩ | ⟨g1, g2, rfl⟩ | ⟨g1, rfl⟩
    · exact absurd (g2.zero.2 h1) g1
    · rfl
    · exact absurd g1 h2
  · rcases h' with ⟨g1, g2⟩ | ⟨g1, g2, rfl⟩ | ⟨g1, rfl⟩
    · exact absurd (g2.zero.2 h1.formP) g1
    · exact absurd h1 g2
    · rfl
end
end Go.Am.Ar
set_option linter.unusedVariables false
set_option linter.unusedSimpArgs false
set_option maxRecDepth 10000
namespace Go.Am.Ar
open Go.Am renaming pchk → P1, pold → P2, PKNo → P3, ppack → P4, PObj.under → P5, pput → P6, ptset → P7, ptget → P8, pev → P9, ofAV → P10, ofAV1 → P11, ppad → P12, pfill → P13, prepl → P14, AO.effect → P15
open List renaming replicate → L1
open Nat renaming reduceAdd → N1, reduceSub → N2, reduceMul → N3, reduceLT → N4, reduceLeDiff → N5, reduceEqDiff → N6, reduceBEq → N7
open Int renaming reduceToNat → I1, reduceLT → I2, reduceLE → I3, reduceEq → I4, reduceAdd → I5, reduceSub → I6, reduceNeg → I7
theorem LoopR.par {ow pr ws ss : List Int} {su : List (List Int)} {p : Int} {w : Nat} {lc : List Nat} {stem : PV} (F : FormP ow pr su ws ss) (hp : p = 0 ∨ p = 1) (hl : LoopR (tabA ow.length (movC ow ws ss su p)) pr p w lc) (hs : StemR (tabA ow.length (movC ow ws ss su p)) ws p w stem) : ¬ CorrP ow pr su ws ss := fun h => by
  have h2 := (corr_iff F).1 h
  have := loop_ref hl hs
  rcases hp with rfl | rfl
  · exact h2.1 this
  · exact h2.2 this
section
variable {tab : FuncId → Option AF} (T : HasA tab)
include T
theorem refuteAll_p {M : Mem} {K : PV → Mem → Prop} {f1 o1 f2 o2 f3 o3 f4 o4 f5 o5 f6 o6 : Bool} {ow pr ws ss : List Int} {su : List (List Int)} (B : Bnd ow pr su)
    (hk0 : ∀ e : Int, ¬ e = 0 → FormE ow pr su ws ss e → K (.tuple [.nils, .nils, p64 e]) M)
    (hk1 : CorrP ow pr su ws ss → K (.tuple [.nils, .nils, p64 0]) M)
    (hk2 : ∀ (p : Int) (w : Nat) (lc : List Nat) (stem : PV), FormP ow pr su ws ss → (p = 0 ∨ p = 1) → LoopR (tabA ow.length (movC ow ws ss su p)) pr p w lc → StemR (tabA ow.length (movC ow ws ss su p)) ws p w stem → K (.tuple [stem, slI false true .i64 (nI (w :: lc)), p64 14]) M) :
    SemC tab 10 [gmP f1 o1 f2 o2 f3 o3 f4 o4 ow pr su, .agg [slI f5 o5 .u8 ws, slI f6 o6 .i64 ss]] M K := by
  refine SemC_pure T.h10 (by simp only [PP, P1, P2, P3, P4, P5, P6, P7, P8, P9, P10, P11, P12, P13, P14, L1, P15, N1, N2, N3, N4, N5, N6, N7, I1, I2, I3, I4, I5, I6, I7, reduceIte, reduceCtorEq]) ?_
  simp only [af10, PP, P1, P2, P3, P4, P5, P6, P7, P8, P9, P10, P11, P12, P13, P14, L1, P15, N1, N2, N3, N4, N5, N6, N7, I1, I2, I3, I4, I5, I6, I7, reduceIte, reduceCtorEq]
  refine form33_p T B fun e he => ?_
  simp only [PP, P1, P2, P3, P4, P5, P6, P7, P8, P9, P10, P11, P12, P13, P14, L1, P15, N1, N2, N3, N4, N5, N6, N7, I1, I2, I3, I4, I5, I6, I7, reduceIte, reduceCtorEq]
  refine QIf.intro (fun c1 => ?_) (fun c1 => ?_)
  rotate_left
  · simp only [PP, P1, P2, P3, P4, P5, P6, P7, P8, P9, P10, P11, P12, P13, P14, L1, P15, N1, N2, N3, N4, N5, N6, N7, I1, I2, I3, I4, I5, I6, I7, reduceIte, reduceCtorEq, c1]
    exact hk0 e c1 he
  have F := he.zero.1 c1
  simp only [PP, P1, P2, P3, P4, P5, P6, P7, P8, P9, P10, P11, P12, P13, P14, L1, P15, N1, N2, N3, N4, N5, N6, N7, I1, I2, I3, I4, I5, I6, I7, reduceIte, reduceCtorEq, c1]
  refine loop1 (fun (q : Nat) => q ≤ 2 ∧ ∀ p : Int, 0 ≤ p → p < q → ¬ RefP ow pr ws ss su p)
    (fun q => [.junk, .junk, .ptr 0 0 0, .ptr 1 0 0, .junk, .junk, .junk, .junk, .junk, .junk, .junk, .junk, .junk, .junk, .junk, p8 q, .junk, .junk, .junk, .junk, .junk, .junk, .junk, .junk, .junk, .junk, .junk, .junk, .junk, .junk])
    (fun q => [.cells 0 0 [slI f1 o1 .u8 ow, slI f2 o2 .i64 pr, slR f3 o3 f4 o4 .i64 su], .cells 0 0 [slI f5 o5 .u8 ws, slI f6 o6 .i64 ss]])
    (fun q => 2 - q) 0 ⟨by omega, by intro v h1 h2; omega⟩ (by simp only [PWeak_nil, PWeak_junk, PWeak_same, Int.cast_ofNat_Int, List.length_append, List.length_cons, List.length_nil, Nat.zero_add]) rfl ?_
  intro q ⟨hle2, hq⟩ ih2
  refine SemW_go (by kernel_rfl) ?_
  simp only [PP, P1, P2, P3, P4, P5, P6, P7, P8, P9, P10, P11, P12, P13, P14, L1, P15, N1, N2, N3, N4, N5, N6, N7, I1, I2, I3, I4, I5, I6, I7, reduceIte, reduceCtorEq]
  refine QIf.intro (fun d => ?_) (fun d => ?_)
  · have hq2 : q < 2 := by omega
    have hwq : IntKind.u8.wrap ((q : Int) + 1) = ((q + 1 : Nat) : Int) := by
      have : q = 0 ∨ q = 1 := by omega
      rcases this with rfl | rfl <;> rfl
    simp only [PP, P1, P2, P3, P4, P5, P6, P7, P8, P9, P10, P11, P12, P13, P14, L1, P15, N1, N2, N3, N4, N5, N6, N7, I1, I2, I3, I4, I5, I6, I7, reduceIte, reduceCtorEq, d]
    refine refute_p T B F (by omega) (fun hno => ?_) (fun w lc stem hL hS => ?_)
    · simp only [PP, P1, P2, P3, P4, P5, P6, P7, P8, P9, P10, P11, P12, P13, P14, L1, P15, N1, N2, N3, N4, N5, N6, N7, I1, I2, I3, I4, I5, I6, I7, reduceIte, reduceCtorEq, hwq]
      refine SemW_weak (ih2 (q + 1) ⟨by omega, fun p h1 h2 => ?_⟩ (by omega)) (by simp only [PWeak_nil, PWeak_junk, PWeak_same, Int.cast_ofNat_Int, List.length_append, List.length_cons, List.length_nil, Nat.zero_add])
      by_cases e : p = q
      · subst e; exact hno
      · exact hq p h1 (by omega)
    · have hk3 := hk2 q w lc stem F (by omega) hL hS
      obtain ⟨xl, hxl⟩ : ∃ xl, xl = nI (w :: lc) := ⟨_, rfl⟩
      have hx0 : ¬ xl.length = 0 := by rw [hxl]; simp
      rw [← hxl] at hk3 ⊢
      rcases hS with ⟨rfl, _⟩ | ⟨v, sc, rfl, _⟩
      · simp only [PP, P1, P2, P3, P4, P5, P6, P7, P8, P9, P10, P11, P12, P13, P14, L1, P15, N1, N2, N3, N4, N5, N6, N7, I1, I2, I3, I4, I5, I6, I7, reduceIte, reduceCtorEq, hx0]
        exact hk3
      · revert hk3
        generalize nI (v :: sc) = yl
        intro hk3
        simp only [PP, P1, P2, P3, P4, P5, P6, P7, P8, P9, P10, P11, P12, P13, P14, L1, P15, N1, N2, N3, N4, N5, N6, N7, I1, I2, I3, I4, I5, I6, I7, reduceIte, reduceCtorEq, hx0]
        exact hk3
  · have : q = 2 := by omega
    subst this
    simp only [PP, P1, P2, P3, P4, P5, P6, P7, P8, P9, P10, P11, P12, P13, P14, L1, P15, N1, N2, N3, N4, N5, N6, N7, I1, I2, I3, I4, I5, I6, I7, reduceIte, reduceCtorEq, d]
    exact hk1 ((corr_iff F).2 ⟨hq 0 (by omega) (by omega), hq 1 (by omega) (by omega)⟩)
theorem check33_p {M : Mem} {K : PV → Mem → Prop} {f1 o1 f2 o2 f3 o3 f4 o4 f5 o5 f6 o6 : Bool} {ow pr ws ss : List Int} {su : List (List Int)} (B : Bnd ow pr su)
    (hk : ∀ e : Int, ChkE ow pr su ws ss e → K (p64 e) M) :
    SemC tab 14 [gmP f1 o1 f2 o2 f3 o3 f4 o4 ow pr su, .agg [slI f5 o5 .u8 ws, slI f6 o6 .i64 ss]] M K := by
  refine SemC_pure T.h14 (by simp only [PP, P1, P2, P3, P4, P5, P6, P7, P8, P9, P10, P11, P12, P13, P14, L1, P15, N1, N2, N3, N4, N5, N6, N7, I1, I2, I3, I4, I5, I6, I7, reduceIte, reduceCtorEq]) ?_
  simp only [af14, PP, P1, P2, P3, P4, P5, P6, P7, P8, P9, P10, P11, P12, P13, P14, L1, P15, N1, N2, N3, N4, N5, N6, N7, I1, I2, I3, I4, I5, I6, I7, reduceIte, reduceCtorEq]
  refine refuteAll_p T B (fun e h0 he => ?_) (fun h => ?_) (fun p w lc stem F hp hL hS => ?_)
  · simp only [PP, P1, P2, P3, P4, P5, P6, P7, P8, P9, P10, P11, P12, P13, P14, L1, P15, N1, N2, N3, N4, N5, N6, N7, I1, I2, I3, I4, I5, I6, I7, reduceIte, reduceCtorEq]
    exact hk e (.inl ⟨h0, he⟩)
  · simp only [PP, P1, P2, P3, P4, P5, P6, P7, P8, P9, P10, P11, P12, P13, P14, L1, P15, N1, N2, N3, N4, N5, N6, N7, I1, I2, I3, I4, I5, I6, I7, reduceIte, reduceCtorEq]
    exact hk 0 (.inr (.inr ⟨h, rfl⟩))
  · simp only [PP, P1, P2, P3, P4, P5, P6, P7, P8, P9, P10, P11, P12, P13, P14, L1, P15, N1, N2, N3, N4, N5, N6, N7, I1, I2, I3, I4, I5, I6, I7, reduceIte, reduceCtorEq]
    exact hk 14 (.inr (.inl ⟨F, hL.par F hp hS, rfl⟩))
end
end Go.Am.Ar
set_option linter.unusedVariables false
set_option linter.unusedSimpArgs false
set_option maxRecDepth 10000
namespace Go.Am.Ar
open Go.Am renaming pchk → P1, pold → P2, PKNo → P3, ppack → P4, PObj.under → P5, pput → P6, ptset → P7, ptget → P8, pev → P9, ofAV → P10, ofAV1 → P11, ppad → P12, pfill → P13, prepl → P14, AO.effect → P15
open List renaming replicate → L1
open Nat renaming reduceAdd → N1, reduceSub → N2, reduceMul → N3, reduceLT → N4, reduceLeDiff → N5, reduceEqDiff → N6, reduceBEq → N7
open Int renaming reduceToNat → I1, reduceLT → I2, reduceLE → I3, reduceEq → I4, reduceAdd → I5, reduceSub → I6, reduceNeg → I7
section
variable {tab : FuncId → Option AF} (T : HasA tab)
include T
end
end Go.Am.Ar
set_option linter.unusedVariables false
set_option linter.unusedSimpArgs false
set_option maxRecDepth 10000
namespace Go.Am.Ar
def tabL (n : Nat) (R : Nat → Int) : List Int := (List.range n).map R
theorem tabL_len (n : Nat) (R : Nat → Int) : (tabL n R).length = n := by simp [tabL]
theorem tabL_get {n : Nat} {R : Nat → Int} {v : Nat} (h : v < n) : (tabL n R)[v]? = some (R v) := by simp [tabL, h]
theorem tabL_of {n : Nat} {R : Nat → Int} {a : List Int} (hl : a.length = n) (h : ∀ v, v < n → a[v]? = some (R v)) : a = tabL n R := by
  apply List.ext_getElem?
  intro v
  rcases Nat.lt_or_ge v n with q | q
  · rw [h v q, tabL_get q]
  · rw [List.getElem?_eq_none (by omega), List.getElem?_eq_none (by rw [tabL_len]; omega)]
theorem psub_tab {n : Nat} {R : Nat → Int} {f : Int → PV} : psub ((tabL n R).map f) 0 n = (tabL n R).map f := psub_all _ _ (by rw [List.length_map, tabL_len])
theorem set_low {a : List Int} {k v : Nat} {x : Int} (h : v ≠ k) : (a.set k x)[v]? = a[v]? := by
  rw [List.getElem?_set_ne (by omega)]
theorem set_at {a : List Int} {k : Nat} {x : Int} (h : k < a.length) : (a.set k x)[k]? = some x := by
  simp [h]
end Go.Am.Ar
set_option linter.unusedVariables false
namespace Go.Am.Ar
theorem movM_of {su : List (List Int)} : ∀ {l : List Int} {k : Nat}, (∀ (i : Nat) (u : Int), l[i]? = some u → u ∈ su.getD (k + i) []) → movM su k l = true
  | [], k, h => rfl
  | x :: l, k, h => by
    unfold movM
    rw [if_pos (by simpa using h 0 x rfl)]
    exact movM_of fun i u q => by rw [show k + 1 + i = k + (i + 1) by omega]; exact h (i + 1) u (by simpa using q)
theorem playE_full {ow pr : List Int} {su : List (List Int)} {q : Nat} {F : Nat → Int} (c : checkM ow pr su = 0) (hqn : q < ow.length) (hF : ∀ v, v < ow.length → F v ∈ su.getD v []) : playE ow pr su (tabL ow.length F) q = 0 := by
  unfold playE
  rw [if_pos c, if_neg (by omega), if_neg (by omega), if_pos (by rw [tabL_len]), if_pos (movM_of fun i u h => ?_)]
  have hi := getSome_lt h
  rw [tabL_len] at hi
  rw [tabL_get hi] at h
  cases h
  rw [Nat.zero_add]
  exact hF i hi
theorem full_play {ow pr : List Int} {su : List (List Int)} (V : Valid ow pr su) {q : Nat} (hqn : q < ow.length) (F : Nat → Int) (hF : ∀ v, v < ow.length → F v ∈ su.getD v []) :
    (∀ v, v < ow.length → F v = ((F v).toNat : Int)) ∧ (∀ v, v < ow.length → (F v).toNat < ow.length) ∧ ∃ m k, IsPlay (fun v => (F v).toNat) q ow.length (playL (tabL ow.length F) (ow.length + 1) q []).1 (playL (tabL ow.length F) (ow.length + 1) q []).2 m k := by
  have h1 : ∀ v, v < ow.length → F v = ((F v).toNat : Int) := fun v hv => by have := su_range V hv (hF v hv); omega
  have h2 : ∀ v, v < ow.length → (F v).toNat < ow.length := fun v hv => by have := su_range V hv (hF v hv); omega
  exact ⟨h1, h2, play_spec (fun v hv => by rw [tabL_get hv, ← h1 v hv]) h2 hqn⟩
end Go.Am.Ar
set_option linter.unusedVariables false
namespace Go.Am.Ar
def mxP (pr : List Int) : Int → List Int → Int
  | m, [] => m
  | m, v :: l => mxP pr (max m (pr.getD v.toNat 0)) l
theorem winL_of {n : Int} {pr : List Int} : ∀ {l : List Int} {m : Int}, (∀ v ∈ l, 0 ≤ v ∧ v < n) → winL n pr m l = .tuple [p8 (IntKind.u8.wrap ((mxP pr m l).tmod 2)), p64 0]
  | [], m, _ => rfl
  | v :: l, m, h => by
    have := h v (by simp)
    unfold winL mxP
    rw [if_neg (by omega), if_neg (by omega)]
    exact winL_of fun x hx => h x (by simp [hx])
theorem mxP_ge {pr : List Int} : ∀ {l : List Int} {m : Int}, m ≤ mxP pr m l
  | [], m => Int.le_refl _
  | v :: l, m => by
    unfold mxP
    have := mxP_ge (pr := pr) (l := l) (m := max m (pr.getD v.toNat 0))
    omega
theorem par_u8 {m : Int} (h : 0 ≤ m) : IntKind.u8.wrap (m.tmod 2) = m % 2 := by
  rw [Int.tmod_eq_emod_of_nonneg h]
  simp only [IntKind.wrap, IntKind.signed, IntKind.bits]
  simp
  omega
theorem mxP_le {pr : List Int} {M : Int} : ∀ {l : List Int} {m : Int}, m ≤ M → (∀ x ∈ l, pr.getD x.toNat 0 ≤ M) → mxP pr m l ≤ M
  | [], m, h, _ => h
  | v :: l, m, h, hl => by
    unfold mxP
    have := hl v (by simp)
    exact mxP_le (by omega) fun x hx => hl x (by simp [hx])
theorem mxP_mem {pr : List Int} : ∀ {l : List Int} {m x : Int}, x ∈ l → pr.getD x.toNat 0 ≤ mxP pr m l
  | v :: l, m, x, h => by
    unfold mxP
    rcases List.mem_cons.1 h with rfl | h
    · have := mxP_ge (pr := pr) (l := l) (m := max m (pr.getD x.toNat 0)); omega
    · exact mxP_mem h
theorem mxP_is {pr : List Int} {M : Int} {l : List Int} {x : Int} (h : ∀ y ∈ l, pr.getD y.toNat 0 ≤ M) (hx : x ∈ l) (e : pr.getD x.toNat 0 = M) (h0 : 0 ≤ M) : mxP pr 0 l = M := by
  have h1 := mxP_le (pr := pr) (m := 0) h0 h
  have h2 := mxP_mem (pr := pr) (m := 0) hx
  omega
end Go.Am.Ar
set_option linter.unusedVariables false
namespace Go.Am.Ar
def detG (ow ws ss : List Int) (su : List (List Int)) (mvs : List Int) (p : Int) (v : Nat) : Int :=
  if ow.getD v 0 = p ∧ ws.getD v 0 = p then ss.getD v 0 else (su.getD v []).getD ((mvs.getD v 0).tmod ((su.getD v []).length : Int)).toNat 0
theorem rch_itr {E : Nat → Nat → Prop} {Q : Nat → Prop} {f : Nat → Nat} {x : Nat} (hE : ∀ i, E (itr f x i) (itr f x (i + 1))) (hQ : ∀ i, Q (itr f x (i + 1))) : ∀ i, Rch E Q x (itr f x (i + 1))
  | 0 => .one (hE 0) (hQ 0)
  | i + 1 => .more (rch_itr hE hQ i) (hE (i + 1)) (hQ (i + 1))
theorem max_at (R : Nat → Int) : ∀ d, 0 < d → ∃ j, j < d ∧ ∀ i, i < d → R i ≤ R j := by
  intro d
  induction d with
  | zero => intro h; omega
  | succ d ih =>
    intro _
    by_cases hd : d = 0
    · subst hd; exact ⟨0, by omega, fun i hi => by have : i = 0 := by omega
                                                   subst this; exact Int.le_refl _⟩
    · obtain ⟨j, hj, h⟩ := ih (by omega)
      by_cases c : R d ≤ R j
      · exact ⟨j, by omega, fun i hi => by
          by_cases e : i = d
          · subst e; exact c
          · exact h i (by omega)⟩
      · exact ⟨d, by omega, fun i hi => by
          by_cases e : i = d
          · subst e; exact Int.le_refl _
          · have := h i (by omega); omega⟩
section
variable {ow pr ws ss mvs : List Int} {su : List (List Int)} {p : Int}
theorem detG_mem (V : Valid ow pr su) (F : FormP ow pr su ws ss) (hm : ∀ x ∈ mvs, 0 ≤ x) {v : Nat} (hv : v < ow.length) : detG ow ws ss su mvs p v ∈ su.getD v [] := by
  unfold detG
  split
  · rename_i h
    exact (F.form v hv).own (by rw [h.1, h.2])
  · have hvs : v < su.length := by have := V.s; omega
    obtain ⟨_, _, _, hl, _⟩ := V.row v hvs
    have hm0 : 0 ≤ mvs.getD v 0 := by
      rw [List.getD]
      cases h : mvs[v]? with
      | none => simp
      | some x => exact hm x (List.mem_of_getElem? h)
    rw [List.getD, List.getElem?_eq_getElem hvs, Option.getD_some]
    have h1 := Int.tmod_nonneg (a := mvs.getD v 0) (su[v].length : Int) hm0
    have h2 := Int.tmod_lt_of_pos (mvs.getD v 0) (b := (su[v].length : Int)) (by omega)
    have h3 : ((mvs.getD v 0).tmod (su[v].length : Int)).toNat < su[v].length := by omega
    rw [List.getD, List.getElem?_eq_getElem h3]
    exact List.getElem_mem h3
theorem detG_wins (V : Valid ow pr su) (C : CorrP ow pr su ws ss) (hp : p = 0 ∨ p = 1) (hm : ∀ x ∈ mvs, 0 ≤ x) {q : Nat} (hqn : q < ow.length) (hw : ws.getD q 0 = p) {P Lp : List Int} {m k : Nat} (hpl : IsPlay (fun v => (detG ow ws ss su mvs p v).toNat) q ow.length P Lp m k) : mxP pr 0 Lp % 2 = p ∧ (∀ x ∈ Lp, 0 ≤ x ∧ x < ow.length) ∧ Lp ≠ [] := by
  have F := C.formP
  have hF := fun v hv => detG_mem (p := p) V F hm (v := v) hv
  have hlt0 : ∀ u, u < ow.length → (detG ow ws ss su mvs p u).toNat < ow.length := fun u hu => by
    have := su_range V hu (hF u hu)
    omega
  have hEd : ∀ u, u < ow.length → cerE ow ws ss su p u (detG ow ws ss su mvs p u).toNat := fun u hu => by
    show _ ∈ Sf (tabA ow.length (movC ow ws ss su p)) u
    rw [sf_tab hu]
    refine List.mem_map.2 ⟨detG ow ws ss su mvs p u, ?_, rfl⟩
    have h0 := hF u hu
    unfold movC
    unfold detG at h0 ⊢
    split
    · rename_i h; rw [if_pos h] at *; exact List.mem_singleton.2 rfl
    · rename_i h; rw [if_neg h] at *; exact h0
  generalize hf : (fun v => (detG ow ws ss su mvs p v).toNat) = f at hpl
  have hfd : ∀ u, (detG ow ws ss su mvs p u).toNat = f u := fun u => by rw [← hf]
  have hfl : ∀ u, u < ow.length → f u < ow.length := fun u hu => by rw [← hfd]; exact hlt0 u hu
  have hfE : ∀ u, u < ow.length → cerE ow ws ss su p u (f u) := fun u hu => by rw [← hfd]; exact hEd u hu
  have hlt : ∀ i, itr f q i < ow.length := fun i => itr_lt hfl hqn i
  have hkm := hpl.km
  have hper := itr_per (by omega) hpl.back
  have hLp := hpl.l
  have mem : ∀ x ∈ Lp, ∃ i, x = ((itr f q (k + i) : Nat) : Int) := fun x hx => by
    rw [hLp] at hx
    obtain ⟨y, hy, rfl⟩ := List.mem_map.1 hx
    obtain ⟨i, hi⟩ := List.getElem?_of_mem hy
    rw [List.getElem?_drop] at hi
    have := getSome_lt hi
    rw [its_len] at this
    rw [its_get this] at hi
    cases hi
    exact ⟨i, rfl⟩
  have hin : ∀ i, i < m - k → ((itr f q (k + i) : Nat) : Int) ∈ Lp := fun i hi => by
    rw [hLp]
    refine List.mem_map.2 ⟨_, List.mem_of_getElem? (i := i) ?_, rfl⟩
    rw [List.getElem?_drop, its_get (by omega)]
  have hpri : ∀ v, v < ow.length → 0 ≤ pr.getD v 0 := fun v hv => (V.row v (by rw [V.s]; exact hv)).1
  obtain ⟨j, hjd, hjm⟩ := max_at (fun i => zP pr (itr f q (k + i))) (m - k) (by omega)
  have hjm : ∀ i, zP pr (itr f q (k + i)) ≤ zP pr (itr f q (k + j)) := fun i => by
    have h1 := per_mul (c := fun i => itr f q (k + i)) hper (i % (m - k)) (i / (m - k))
    have h2 : i % (m - k) + i / (m - k) * (m - k) = i := by rw [Nat.mul_comm]; exact Nat.mod_add_div i (m - k)
    rw [h2] at h1
    have h1 : itr f q (k + i) = itr f q (k + i % (m - k)) := h1
    rw [h1]
    exact hjm _ (Nat.mod_lt _ (by omega))
  have hmx : mxP pr 0 Lp = zP pr (itr f q (k + j)) := by
    refine mxP_is (fun x hx => ?_) (hin j hjd) (by rw [Int.toNat_natCast]) (hpri _ (hlt _))
    obtain ⟨i, rfl⟩ := mem x hx
    rw [Int.toNat_natCast]
    exact hjm i
  refine ⟨?_, fun x hx => by obtain ⟨i, rfl⟩ := mem x hx; have := hlt (k + i); omega, fun e => by have := hin j hjd; rw [e] at this; cases this⟩
  rw [hmx]
  refine Classical.byContradiction fun hne => ?_
  have hd : ∃ d, m - k = d + 1 := ⟨m - k - 1, by omega⟩
  obtain ⟨d, hd⟩ := hd
  have hback : itr f (itr f q (k + j)) (d + 1) = itr f q (k + j) := by
    rw [← itr_add, ← hd, Nat.add_assoc]
    exact hper j
  have hbad : Bad (cerE ow ws ss su p) (zP pr) p (itr f q (k + j)) := by
    refine ⟨hne, ?_⟩
    have h := rch_itr (E := cerE ow ws ss su p) (Q := fun x => zP pr x ≤ zP pr (itr f q (k + j))) (f := f) (x := itr f q (k + j)) (fun i => by
      rw [← itr_add, ← itr_add]
      exact hfE _ (hlt _)) (fun i => by
      rw [← itr_add, Nat.add_assoc]
      exact hjm _) d
    rwa [hback] at h
  have hq : Rch (cerE ow ws ss su p) (fun _ => True) q (itr f q (k + j)) := by
    have h := rch_itr (E := cerE ow ws ss su p) (Q := fun _ => True) (f := f) (x := q) (fun i => hfE _ (hlt _)) (fun _ => trivial) (k + j + d)
    have e : k + j + d + 1 = (k + j) + (d + 1) := by omega
    rw [e, itr_add, hback] at h
    exact h
  refine C.win p hp q hqn hw ?_
  rw [solE_eq F]
  exact .inr ⟨_, hbad, hq⟩
end
end Go.Am.Ar
set_option linter.unusedVariables false
set_option linter.unusedSimpArgs false
namespace Go.Am.Ar
abbrev gameTy : Ty := .pair (.slice (.int .u8)) (.pair (.slice (.int .i64)) (.pair (.slice (.slice (.int .i64))) .unit))
structure Nums (ow pr : List Int) (su : List (List Int)) : Prop where
  o : ∀ x ∈ ow, 0 ≤ x ∧ x ≤ 255
  p : ∀ x ∈ pr, -9223372036854775808 ≤ x ∧ x ≤ 9223372036854775807
  s : ∀ r ∈ su, ∀ x ∈ r, -9223372036854775808 ≤ x ∧ x ≤ 9223372036854775807
  lo : ow.length ≤ 9223372036854775807
  lp : pr.length ≤ 9223372036854775807
  ls : su.length ≤ 9223372036854775807
  lr : ∀ r ∈ su, r.length ≤ 9223372036854775807
theorem arg_game {v : AV} {h : H} (hs : ShV gameTy v h) : ∃ (ow pr : List Int) (su : List (List Int)), RepV (wH h) (gmP false false false false false false false false ow pr su) v ∧ Nums ow pr su := by
  obtain ⟨avs, hs, rfl⟩ := hs
  obtain ⟨c1, c2, rfl, h1, c3, c4, rfl, h2, c5, c6, rfl, h3, h4⟩ := hs
  have h4 : c6 = [] := h4
  subst h4
  obtain ⟨vo, ow, rfl, p1, q1, r1⟩ := sh_intsP h1
  obtain ⟨vp, pr, rfl, p2, q2, r2⟩ := sh_intsP h2
  obtain ⟨vs, su, rfl, p3, q3, r3⟩ := sh_rowsP h3
  refine ⟨ow, pr, su, ?_, ⟨r1, r2, fun r hr => (r3 r hr).2, q1, q2, q3, fun r hr => (r3 r hr).1⟩⟩
  have := RepL.cons p1 (.cons p2 (.cons p3 (.nil (wH h))))
  exact .agg this.len this.get
theorem arg_ints {k : IntKind} {v : AV} {h : H} (hs : ShV (.slice (.int k)) v h) : ∃ (xs : List Int), RepV (wH h) (slI false false k xs) v ∧ xs.length ≤ 9223372036854775807 ∧ ∀ x ∈ xs, k.min ≤ x ∧ x ≤ k.max := by
  obtain ⟨avs, hs, rfl⟩ := hs
  obtain ⟨v, xs, rfl, p, q, r⟩ := sh_intsP hs
  exact ⟨xs, p, q, r⟩
theorem arg_int {k : IntKind} {v : AV} {h : H} (hs : ShV (.int k) v h) : ∃ (x : Int), v = .int k x ∧ RepV (wH h) (.int k x) v ∧ k.min ≤ x ∧ x ≤ k.max := by
  obtain ⟨avs, hs, rfl⟩ := hs
  obtain ⟨x, rfl, p⟩ := hs
  exact ⟨x, rfl, .int k x, p⟩
theorem run_of_C {tab : FuncId → Option AF} {g : FuncId} {args : List AV} {h : H} (hc : C (lim tab) g args h fun v _ => v = .bool true) : ∃ n h', (run tab n).call g args h = some (.bool true, h') := by
  unfold C at hc
  obtain ⟨v, h', he, rfl⟩ := hc
  obtain ⟨n, hn⟩ := (lim_call_iff tab).1 he
  exact ⟨n, h', hn⟩
theorem shVs4 {A B D E : Ty} {args : List AV} {h : H} (hs : ShVs [A, B, D, E] args h) : ∃ a b d e, args = [a, b, d, e] ∧ ShV A a h ∧ ShV B b h ∧ ShV D d h ∧ ShV E e h := by
  match args, hs with
  | [a, b, d, e], ⟨h1, h2, h3, h4, _⟩ => exact ⟨a, b, d, e, rfl, h1, h2, h3, h4⟩
end Go.Am.Ar
set_option linter.unusedVariables false
set_option linter.unusedSimpArgs false
set_option maxRecDepth 10000
namespace Go.Am.Ar
open Go.Am renaming pchk → P1, pold → P2, PKNo → P3, ppack → P4, PObj.under → P5, pput → P6, ptset → P7, ptget → P8, pev → P9, ofAV → P10, ofAV1 → P11, ppad → P12, pfill → P13, prepl → P14, AO.effect → P15
open List renaming replicate → L1
open Nat renaming reduceAdd → N1, reduceSub → N2, reduceMul → N3, reduceLT → N4, reduceLeDiff → N5, reduceEqDiff → N6, reduceBEq → N7
open Int renaming reduceToNat → I1, reduceLT → I2, reduceLE → I3, reduceEq → I4, reduceAdd → I5, reduceSub → I6, reduceNeg → I7
abbrev solTy : Ty := .pair (.slice (.int .u8)) (.pair (.slice (.int .i64)) .unit)
theorem arg_sol {v : AV} {h : H} (hs : ShV solTy v h) : ∃ (ws ss : List Int), RepV (wH h) (.agg [slI false false .u8 ws, slI false false .i64 ss]) v ∧ ∀ x ∈ ws, 0 ≤ x ∧ x ≤ 255 := by
  obtain ⟨avs, hs, rfl⟩ := hs
  obtain ⟨c1, c2, rfl, h1, c3, c4, rfl, h2, h4⟩ := hs
  have h4 : c4 = [] := h4
  subst h4
  obtain ⟨vo, ws, rfl, p1, q1, r1⟩ := sh_intsP h1
  obtain ⟨vp, ss, rfl, p2, q2, r2⟩ := sh_intsP h2
  refine ⟨ws, ss, ?_, r1⟩
  have := RepL.cons p1 (.cons p2 (.nil (wH h)))
  exact .agg this.len this.get
section
variable {tab : FuncId → Option AF} (T : HasA tab)
include T
theorem long33_p {M : Mem} {K : PV → Mem → Prop} {f1 o1 f2 o2 f3 o3 f4 o4 f5 o5 f6 o6 : Bool} {ow pr ws ss : List Int} {su : List (List Int)} (hk : ∀ b : Bool, (b = false → longM ow pr su [ss] = false ∧ ws.length ≤ 40) → K (.bool b) M) :
    SemC tab 8 [gmP f1 o1 f2 o2 f3 o3 f4 o4 ow pr su, .agg [slI f5 o5 .u8 ws, slI f6 o6 .i64 ss]] M K := by
  refine SemC_pure T.h8 (by simp only [PP, P1, P2, P3, P4, P5, P6, P7, P8, P9, P10, P11, P12, P13, P14, L1, P15, N1, N2, N3, N4, N5, N6, N7, I1, I2, I3, I4, I5, I6, I7, reduceIte, reduceCtorEq]) ?_
  simp only [af8, PP, P1, P2, P3, P4, P5, P6, P7, P8, P9, P10, P11, P12, P13, P14, L1, P15, N1, N2, N3, N4, N5, N6, N7, I1, I2, I3, I4, I5, I6, I7, reduceIte, reduceCtorEq]
  refine long_p T (ls := [ss]) (f5 := true) (o5 := true) (f6 := f6) (o6 := o6) (by show 1 < 1000000000000; omega) ?_
  simp only [PP, P1, P2, P3, P4, P5, P6, P7, P8, P9, P10, P11, P12, P13, P14, L1, P15, N1, N2, N3, N4, N5, N6, N7, I1, I2, I3, I4, I5, I6, I7, reduceIte, reduceCtorEq]
  cases hl : longM ow pr su [ss] with
  | true =>
    simp only [PP, P1, P2, P3, P4, P5, P6, P7, P8, P9, P10, P11, P12, P13, P14, L1, P15, N1, N2, N3, N4, N5, N6, N7, I1, I2, I3, I4, I5, I6, I7, reduceIte, reduceCtorEq]
    exact hk true fun h => by cases h
  | false =>
    simp only [PP, P1, P2, P3, P4, P5, P6, P7, P8, P9, P10, P11, P12, P13, P14, L1, P15, N1, N2, N3, N4, N5, N6, N7, I1, I2, I3, I4, I5, I6, I7, reduceIte, reduceCtorEq]
    by_cases c : (40 : Int) < ws.length
    · rw [decide_eq_true c]
      exact hk true fun h => by cases h
    · rw [decide_eq_false c]
      exact hk false fun h => ⟨hl, by omega⟩
end
end Go.Am.Ar

