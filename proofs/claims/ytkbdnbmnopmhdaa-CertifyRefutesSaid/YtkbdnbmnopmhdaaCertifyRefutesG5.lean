/- Contract: a refutation of a player's part (certify.refute), and what goes with it. -/
import Derived.Test.YtkbdnbmnopmhdaaCertifyRefutesG4
import Derived.Test.YtkbdnbmnopmhdaaCertifyRefutesG0
import Derived.Test.YtkbdnbmnopmhdaaPmL
set_option linter.unusedVariables false
set_option linter.unusedSimpArgs false
set_option maxRecDepth 10000
namespace Go.Am.Ar
open Go.Am renaming pchk → P1, pold → P2, PKNo → P3, ppack → P4, PObj.under → P5, pput → P6, ptset → P7, ptget → P8, pev → P9, ofAV → P10, ofAV1 → P11, ppad → P12, pfill → P13, prepl → P14, AO.effect → P15
open List renaming replicate → L1
open Nat renaming reduceAdd → N1, reduceSub → N2, reduceMul → N3, reduceLT → N4, reduceLeDiff → N5, reduceEqDiff → N6, reduceBEq → N7
open Int renaming reduceToNat → I1, reduceLT → I2, reduceLE → I3, reduceEq → I4, reduceAdd → I5, reduceSub → I6, reduceNeg → I7
theorem Ch.mono {S : Nat → List Nat} {A A' : Nat → Prop} {u : Nat} (h : ∀ x, A x → A' x) : ∀ {c : List Nat}, Ch S A u c → Ch S A' u c
  | [], _ => trivial
  | [x], q => q
  | x :: y :: c, ⟨h1, h2, h3⟩ => ⟨h1, h y h2, Ch.mono h h3⟩
theorem Rch.mono' {E : Nat → Nat → Prop} {Q Q' : Nat → Prop} {v u : Nat} (hq : ∀ x, Q x → Q' x) (h : Rch E Q v u) : Rch E Q' v u := h.cond fun _ b _ q => hq b q
def LoopR (mv : List (List Int)) (pr : List Int) (p : Int) (w : Nat) (lc : List Nat) : Prop :=
  w < mv.length ∧ Ch (Sf mv) (fun x => zP pr x ≤ zP pr w) w (w :: lc) ∧ lc.length + 1 ≤ mv.length ∧ zP pr w % 2 ≠ p
def StemR (mv : List (List Int)) (ws : List Int) (p : Int) (w : Nat) (stem : PV) : Prop :=
  (stem = .nils ∧ ws.getD w 0 = p) ∨ ∃ (v : Nat) (sc : List Nat), stem = slI false true .i64 (nI (v :: sc)) ∧ v < mv.length ∧ ws.getD v 0 = p ∧ ¬ ws.getD w 0 = p ∧ Ch (Sf mv) (fun _ => True) w (v :: sc) ∧ sc.length + 1 ≤ mv.length
theorem cer_in {ow pr ws ss : List Int} {su : List (List Int)} {p : Int} (F : FormP ow pr su ws ss) (B : Bnd ow pr su) : RowsIn (tabA ow.length (movC ow ws ss su p)) := by
  have : tabA ow.length (movF ow su p (tabA ow.length (ownF ow ws ss p))) = tabA ow.length (movC ow ws ss su p) := tabA_congr fun v hv => mov_eq F hv
  rw [← this]
  exact mov_in (valid_of F.c) B
theorem loop_ref {ow pr ws ss : List Int} {su : List (List Int)} {p : Int} {w : Nat} {lc : List Nat} {stem : PV} (hl : LoopR (tabA ow.length (movC ow ws ss su p)) pr p w lc) (hs : StemR (tabA ow.length (movC ow ws ss su p)) ws p w stem) : RefP ow pr ws ss su p := by
  obtain ⟨h1, h2, h3, h4⟩ := hl
  rw [tabA_len] at h1
  refine ⟨w, h1, ?_, h4, h2.rch (Int.le_refl _)⟩
  rcases hs with ⟨_, q⟩ | ⟨v, sc, _, q1, q2, _, q3, _⟩
  · exact ⟨w, h1, q, .inl rfl⟩
  · rw [tabA_len] at q1
    exact ⟨v, q1, q2, .inr (q3.rch trivial)⟩
section
variable {tab : FuncId → Option AF} (T : HasA tab)
include T
set_option maxHeartbeats 2000000 in
theorem refute_p {M : Mem} {K : PV → Mem → Prop} {f1 o1 f2 o2 f3 o3 f4 o4 f5 o5 f6 o6 : Bool} {ow pr ws ss : List Int} {su : List (List Int)} {p : Int} (B : Bnd ow pr su) (F : FormP ow pr su ws ss) (hp : p = 0 ∨ p = 1)
    (hk1 : ¬ RefP ow pr ws ss su p → K (.tuple [.nils, .nils]) M)
    (hk2 : ∀ (w : Nat) (lc : List Nat) (stem : PV), LoopR (tabA ow.length (movC ow ws ss su p)) pr p w lc → StemR (tabA ow.length (movC ow ws ss su p)) ws p w stem → K (.tuple [stem, slI false true .i64 (nI (w :: lc))]) M) :
    SemC tab 34 [gmP f1 o1 f2 o2 f3 o3 f4 o4 ow pr su, .agg (sC f5 o5 f6 o6 ws ss), p8 p] M K := by
  have V := valid_of F.c
  have n1 := V.n1
  have hs := V.s
  have hpl := V.p
  have lw := F.lw
  have ls := F.ls
  have hwp : IntKind.i64.wrap p = p := wrap64 (by omega) (by omega)
  have hF : ∀ v, v < ow.length → ∀ (M' : Mem) (K' : PV → Mem → Prop), K' (.bool (decide (ws.getD v 0 = p))) M' → SemC tab 56 (p64 v :: [.cp (sC f5 o5 f6 o6 ws ss) 0, .cp [p8 p] 0]) M' K' := fun v hv M' K' hK' => by
    have v0 : (0 : Int) ≤ v := by omega
    have vn : (v : Int) < ow.length := by omega
    obtain ⟨w, g2⟩ := some_of (xs := ws) (k := v) (by omega)
    rw [getD_some g2] at hK'
    refine SemC_pure T.h56 (by simp only [PP, P1, P2, P3, P4, P5, P6, P7, P8, P9, P10, P11, P12, P13, P14, L1, P15, N1, N2, N3, N4, N5, N6, N7, I1, I2, I3, I4, I5, I6, I7, reduceIte, reduceCtorEq, PV.under]) ?_
    simp only [af56, PP, P1, P2, P3, P4, P5, P6, P7, P8, P9, P10, P11, P12, P13, P14, L1, P15, N1, N2, N3, N4, N5, N6, N7, I1, I2, I3, I4, I5, I6, I7, reduceIte, reduceCtorEq, v0, vn, g2, lw]
    exact hK'
  have hA : ∀ (k : Nat), k < ow.length → ∀ v, v < ow.length → ∀ (M' : Mem) (K' : PV → Mem → Prop), K' (.bool (decide (pr.getD v 0 ≤ pr.getD k 0))) M' → SemC tab 58 (p64 v :: [.cp (gC f1 o1 f2 o2 f3 o3 f4 o4 ow pr su) 0, .cp [p64 k] 0]) M' K' := fun k hk v hv M' K' hK' => by
    have v0 : (0 : Int) ≤ v := by omega
    have vn : (v : Int) < ow.length := by omega
    have k0 : (0 : Int) ≤ k := by omega
    have kn : (k : Int) < ow.length := by omega
    obtain ⟨a, g1⟩ := some_of (xs := pr) (k := v) (by omega)
    obtain ⟨b, g2⟩ := some_of (xs := pr) (k := k) (by omega)
    rw [getD_some g1, getD_some g2] at hK'
    refine SemC_pure T.h58 (by simp only [PP, P1, P2, P3, P4, P5, P6, P7, P8, P9, P10, P11, P12, P13, P14, L1, P15, N1, N2, N3, N4, N5, N6, N7, I1, I2, I3, I4, I5, I6, I7, reduceIte, reduceCtorEq, PV.under]) ?_
    simp only [af58, PP, P1, P2, P3, P4, P5, P6, P7, P8, P9, P10, P11, P12, P13, P14, L1, P15, N1, N2, N3, N4, N5, N6, N7, I1, I2, I3, I4, I5, I6, I7, reduceIte, reduceCtorEq, v0, vn, k0, kn, g1, g2, hpl]
    exact hK'
  have hT : ∀ (k : Nat), ∀ v, ∀ (M' : Mem) (K' : PV → Mem → Prop), K' (.bool (decide (v = k))) M' → SemC tab 59 (p64 v :: [.cp [p64 k] 0]) M' K' := fun k v M' K' hK' => by
    refine SemC_pure T.h59 (by simp only [PP, P1, P2, P3, P4, P5, P6, P7, P8, P9, P10, P11, P12, P13, P14, L1, P15, N1, N2, N3, N4, N5, N6, N7, I1, I2, I3, I4, I5, I6, I7, reduceIte, reduceCtorEq, PV.under]) ?_
    simp only [af59, PP, P1, P2, P3, P4, P5, P6, P7, P8, P9, P10, P11, P12, P13, P14, L1, P15, N1, N2, N3, N4, N5, N6, N7, I1, I2, I3, I4, I5, I6, I7, reduceIte, reduceCtorEq]
    rw [decide_eq_decide.2 (show (v : Int) = k ↔ v = k by omega)]
    exact hK'
  have hU : ∀ v : Nat, ∀ (M' : Mem) (K' : PV → Mem → Prop), K' (.bool true) M' → SemC tab 61 (p64 v :: []) M' K' := fun v M' K' hK' => by
    refine SemC_pure T.h61 (by simp only [PP, P1, P2, P3, P4, P5, P6, P7, P8, P9, P10, P11, P12, P13, P14, L1, P15, N1, N2, N3, N4, N5, N6, N7, I1, I2, I3, I4, I5, I6, I7, reduceIte, reduceCtorEq, PV.under]) ?_
    simp only [af61, PP, P1, P2, P3, P4, P5, P6, P7, P8, P9, P10, P11, P12, P13, P14, L1, P15, N1, N2, N3, N4, N5, N6, N7, I1, I2, I3, I4, I5, I6, I7, reduceIte, reduceCtorEq]
    exact hK'
  refine SemC_pureS T.h34 (by simp only [PP, P1, P2, P3, P4, P5, P6, P7, P8, P9, P10, P11, P12, P13, P14, L1, P15, N1, N2, N3, N4, N5, N6, N7, I1, I2, I3, I4, I5, I6, I7, reduceIte, reduceCtorEq, PV.under]) ?_
  simp only [af34]
  refine SemW_seq (SemW_of ?_)
  simp only [PP, P1, P2, P3, P4, P5, P6, P7, P8, P9, P10, P11, P12, P13, P14, L1, P15, N1, N2, N3, N4, N5, N6, N7, I1, I2, I3, I4, I5, I6, I7, reduceIte, reduceCtorEq]
  refine SemW_re (GStep.freezeP (b := [.junk, .junk, .junk, .cp (gC f1 o1 f2 o2 f3 o3 f4 o4 ow pr su) 0, .ptr 1 0 0, .ptr 2 0 0, .nils, .nils, .junk, .junk, .junk, .junk, .junk, .junk, .junk, .junk, .junk, .junk, .junk, .junk, .junk, .junk, .junk, .junk, .junk, .junk, .junk, .junk, .junk, .junk, .junk, .junk, .junk, .junk, .junk, .junk, .junk, .junk, .junk, .junk, .junk, .junk, .junk, .junk, .junk, .junk, .junk, .junk, .junk, .junk, .junk, .junk, .junk, .junk, .junk, .junk, .junk, .junk, .junk, .junk, .junk, .junk, .junk, .junk, .junk, .junk, .junk, .junk, .junk, .junk, .junk, .junk, .junk, .junk, .junk, .junk, .junk, .junk, .junk, .junk, .junk, .junk, .junk, .junk, .junk, .junk]) 0 (Nat.zero_le _) rfl (by simp only [PFrzP_nil, PFrzP_junk, PFrzP_same, PFrzP_ptr]) rfl) ?_
  refine SemW_re (GStep.freezeP (b := [.junk, .junk, .junk, .cp (gC f1 o1 f2 o2 f3 o3 f4 o4 ow pr su) 0, .cp (sC f5 o5 f6 o6 ws ss) 0, .ptr 2 0 0, .nils, .nils, .junk, .junk, .junk, .junk, .junk, .junk, .junk, .junk, .junk, .junk, .junk, .junk, .junk, .junk, .junk, .junk, .junk, .junk, .junk, .junk, .junk, .junk, .junk, .junk, .junk, .junk, .junk, .junk, .junk, .junk, .junk, .junk, .junk, .junk, .junk, .junk, .junk, .junk, .junk, .junk, .junk, .junk, .junk, .junk, .junk, .junk, .junk, .junk, .junk, .junk, .junk, .junk, .junk, .junk, .junk, .junk, .junk, .junk, .junk, .junk, .junk, .junk, .junk, .junk, .junk, .junk, .junk, .junk, .junk, .junk, .junk, .junk, .junk, .junk, .junk, .junk, .junk, .junk]) 1 (Nat.zero_le _) rfl (by simp only [PFrzP_nil, PFrzP_junk, PFrzP_same, PFrzP_ptr]) rfl) ?_
  refine SemW_re (GStep.freezeP (b := [.junk, .junk, .junk, .cp (gC f1 o1 f2 o2 f3 o3 f4 o4 ow pr su) 0, .cp (sC f5 o5 f6 o6 ws ss) 0, .cp [p8 p] 0, .nils, .nils, .junk, .junk, .junk, .junk, .junk, .junk, .junk, .junk, .junk, .junk, .junk, .junk, .junk, .junk, .junk, .junk, .junk, .junk, .junk, .junk, .junk, .junk, .junk, .junk, .junk, .junk, .junk, .junk, .junk, .junk, .junk, .junk, .junk, .junk, .junk, .junk, .junk, .junk, .junk, .junk, .junk, .junk, .junk, .junk, .junk, .junk, .junk, .junk, .junk, .junk, .junk, .junk, .junk, .junk, .junk, .junk, .junk, .junk, .junk, .junk, .junk, .junk, .junk, .junk, .junk, .junk, .junk, .junk, .junk, .junk, .junk, .junk, .junk, .junk, .junk, .junk, .junk, .junk]) 2 (Nat.zero_le _) rfl (by simp only [PFrzP_nil, PFrzP_junk, PFrzP_same, PFrzP_ptr]) rfl) ?_
  refine SemW_re (GStep.drop (b := [.junk, .junk, .junk, .cp (gC f1 o1 f2 o2 f3 o3 f4 o4 ow pr su) 0, .cp (sC f5 o5 f6 o6 ws ss) 0, .cp [p8 p] 0, .nils, .nils, .junk, .junk, .junk, .junk, .junk, .junk, .junk, .junk, .junk, .junk, .junk, .junk, .junk, .junk, .junk, .junk, .junk, .junk, .junk, .junk, .junk, .junk, .junk, .junk, .junk, .junk, .junk, .junk, .junk, .junk, .junk, .junk, .junk, .junk, .junk, .junk, .junk, .junk, .junk, .junk, .junk, .junk, .junk, .junk, .junk, .junk, .junk, .junk, .junk, .junk, .junk, .junk, .junk, .junk, .junk, .junk, .junk, .junk, .junk, .junk, .junk, .junk, .junk, .junk, .junk, .junk, .junk, .junk, .junk, .junk, .junk, .junk, .junk, .junk, .junk, .junk, .junk, .junk]) 0 (Nat.zero_le _) (by simp) (by simp only [PWeak_nil, PWeak_junk, PWeak_same, Int.cast_ofNat_Int, List.length_append, List.length_cons, List.length_nil, Nat.zero_add]) (by simp only [PP, P1, P2, P3, P4, P5, P6, P7, P8, P9, P10, P11, P12, P13, P14, L1, P15, N1, N2, N3, N4, N5, N6, N7, I1, I2, I3, I4, I5, I6, I7, reduceIte, reduceCtorEq, PV.under]) rfl rfl) ?_
  refine SemW_of ?_
  simp only [PP, P1, P2, P3, P4, P5, P6, P7, P8, P9, P10, P11, P12, P13, P14, L1, P15, N1, N2, N3, N4, N5, N6, N7, I1, I2, I3, I4, I5, I6, I7, reduceIte, reduceCtorEq]
  refine moves33_p T B hs lw ls ?_
  have R := cer_in (p := p) F B
  have hRef : RefP ow pr ws ss su p ↔ ∃ w, w < ow.length ∧ (∃ v, v < ow.length ∧ ws.getD v 0 = p ∧ (w = v ∨ Rch (fun a b => b ∈ Sf (tabA ow.length (movC ow ws ss su p)) a) (fun _ => True) v w)) ∧ Bad (fun a b => b ∈ Sf (tabA ow.length (movC ow ws ss su p)) a) (zP pr) p w := Iff.rfl
  have lmv : (tabA ow.length (movC ow ws ss su p)).length = ow.length := tabA_len _ _
  revert R hRef hk2 lmv
  generalize tabA ow.length (movC ow ws ss su p) = mv
  intro hk2 R hRef lmv
  rw [hRef] at hk1
  simp only [PP, P1, P2, P3, P4, P5, P6, P7, P8, P9, P10, P11, P12, P13, P14, L1, P15, N1, N2, N3, N4, N5, N6, N7, I1, I2, I3, I4, I5, I6, I7, reduceIte, reduceCtorEq]
  refine reach33_p T R (F := fun v => decide (ws.getD v 0 = p)) (by simp only [PP, P1, P2, P3, P4, P5, P6, P7, P8, P9, P10, P11, P12, P13, P14, L1, P15, N1, N2, N3, N4, N5, N6, N7, I1, I2, I3, I4, I5, I6, I7, reduceIte, reduceCtorEq, PV.under]) (fun v hv => hF v (by omega)) fun sn lsn hsn => ?_
  simp only [PP, P1, P2, P3, P4, P5, P6, P7, P8, P9, P10, P11, P12, P13, P14, L1, P15, N1, N2, N3, N4, N5, N6, N7, I1, I2, I3, I4, I5, I6, I7, reduceIte, reduceCtorEq]
  refine loop1 (fun (k : Nat) => k ≤ ow.length ∧ ∀ w, w < k → bm sn w → ¬ Bad (fun a b => b ∈ Sf mv a) (zP pr) p w)
    (fun k => [.junk, .junk, .junk, .cp (gC f1 o1 f2 o2 f3 o3 f4 o4 ow pr su) 0, .junk, .cp [p8 p] 0, .nils, .junk, slR false true true false .i64 mv, .func (.func 56) [] [.cp (sC f5 o5 f6 o6 ws ss) 0, .cp [p8 p] 0], .junk, .junk, .junk, .junk, .junk, .junk, .junk, .junk, .junk, .junk, .junk, .junk, .junk, .junk, .junk, slB false true sn, p64 sn.length, p64 k, .junk, .junk, .junk, .junk, .junk, .junk, .junk, .junk, .junk, .junk, .junk, .junk, .junk, .junk, .junk, .junk, .junk, .junk, .junk, .junk, .junk, .junk, .junk, .junk, .junk, .junk, .junk, .junk, .junk, .junk, .junk, .junk, .junk, .junk, .junk, .junk, .junk, .junk, .junk, .junk, .junk, .junk, .junk, .junk, .junk, .junk, .junk, .junk, .junk, .junk, .junk, .junk, .junk, .junk, .junk, .junk, .junk, .junk])
    (fun k => []) (fun k => ow.length - k) 0 ⟨by omega, by intro w h; omega⟩ (by simp only [PWeak_nil, PWeak_junk, PWeak_same, Int.cast_ofNat_Int, List.length_append, List.length_cons, List.length_nil, Nat.zero_add]) rfl ?_
  intro k ⟨hle, hbad⟩ ih
  refine SemW_loop (by kernel_rfl) (SemW_seq (SemW_of ?_))
  simp only [PP, P1, P2, P3, P4, P5, P6, P7, P8, P9, P10, P11, P12, P13, P14, L1, P15, N1, N2, N3, N4, N5, N6, N7, I1, I2, I3, I4, I5, I6, I7, reduceIte, reduceCtorEq]
  refine SemW_seq (SemW_of ?_)
  simp only [PP, P1, P2, P3, P4, P5, P6, P7, P8, P9, P10, P11, P12, P13, P14, L1, P15, N1, N2, N3, N4, N5, N6, N7, I1, I2, I3, I4, I5, I6, I7, reduceIte, reduceCtorEq]
  refine QIf.intro (fun c => ?_) (fun c => ?_)
  rotate_left
  · simp only [PP, P1, P2, P3, P4, P5, P6, P7, P8, P9, P10, P11, P12, P13, P14, L1, P15, N1, N2, N3, N4, N5, N6, N7, I1, I2, I3, I4, I5, I6, I7, reduceIte, reduceCtorEq, c]
    refine hk1 ?_
    rintro ⟨w, hw, ⟨v, hv, hwv, hvw⟩, hb⟩
    exact hbad w (by omega) ((hsn w).2 ⟨v, by omega, decide_eq_true hwv, hvw⟩) hb
  have hk' : k < ow.length := by omega
  have k0 : (0 : Int) ≤ k := by omega
  have kn : (k : Int) < ow.length := by omega
  have hwk := wrap_succ (k := k) (by show _ < 1000000000000; omega)
  obtain ⟨z, gz⟩ := some_of (xs := sn) (k := k) (by omega)
  obtain ⟨q, gq⟩ := some_of (xs := pr) (k := k) (by omega)
  have eq : zP pr k = q := getD_some gq
  have q0 : 0 ≤ q := (V.pri0 q (List.mem_of_getElem? gq)).1
  have hrem : q.tmod 2 = q % 2 := Int.tmod_eq_emod_of_nonneg q0
  simp only [PP, P1, P2, P3, P4, P5, P6, P7, P8, P9, P10, P11, P12, P13, P14, L1, P15, N1, N2, N3, N4, N5, N6, N7, I1, I2, I3, I4, I5, I6, I7, reduceIte, reduceCtorEq, c]
  refine SemW_seq (SemW_blk (SemW_seq (SemW_of ?_)))
  simp only [PP, P1, P2, P3, P4, P5, P6, P7, P8, P9, P10, P11, P12, P13, P14, L1, P15, N1, N2, N3, N4, N5, N6, N7, I1, I2, I3, I4, I5, I6, I7, reduceIte, reduceCtorEq, k0, c, gz]
  refine SemW_re (GStep.freezeP (b := [.junk, .junk, .junk, .cp (gC f1 o1 f2 o2 f3 o3 f4 o4 ow pr su) 0, .junk, .cp [p8 p] 0, .nils, .junk, slR false true true false .i64 mv, .func (.func 56) [] [.cp (sC f5 o5 f6 o6 ws ss) 0, .cp [p8 p] 0], .junk, .cp [p64 k] 0, .bool z, .junk, .junk, .junk, .junk, .junk, .junk, .junk, .junk, .junk, .junk, .junk, .junk, slB false true sn, p64 sn.length, p64 k, .junk, .junk, .junk, .junk, .junk, .junk, .junk, .junk, .junk, .junk, .junk, .junk, .junk, .junk, .junk, .junk, .junk, .junk, .junk, .junk, .junk, .junk, .junk, .junk, .junk, .junk, .junk, .junk, .junk, .junk, .junk, .junk, .junk, .junk, .junk, .junk, .junk, .junk, .junk, .junk, .junk, .junk, .junk, .junk, .junk, .junk, .junk, .junk, .junk, .junk, .junk, .junk, .junk, .junk, .junk, .junk, .junk, .junk]) 0 (Nat.zero_le _) rfl (by simp only [PFrzP_nil, PFrzP_junk, PFrzP_same, PFrzP_ptr]) rfl) ?_
  refine SemW_re (GStep.drop (b := [.junk, .junk, .junk, .cp (gC f1 o1 f2 o2 f3 o3 f4 o4 ow pr su) 0, .junk, .cp [p8 p] 0, .nils, .junk, slR false true true false .i64 mv, .func (.func 56) [] [.cp (sC f5 o5 f6 o6 ws ss) 0, .cp [p8 p] 0], .junk, .cp [p64 k] 0, .bool z, .junk, .junk, .junk, .junk, .junk, .junk, .junk, .junk, .junk, .junk, .junk, .junk, slB false true sn, p64 sn.length, p64 k, .junk, .junk, .junk, .junk, .junk, .junk, .junk, .junk, .junk, .junk, .junk, .junk, .junk, .junk, .junk, .junk, .junk, .junk, .junk, .junk, .junk, .junk, .junk, .junk, .junk, .junk, .junk, .junk, .junk, .junk, .junk, .junk, .junk, .junk, .junk, .junk, .junk, .junk, .junk, .junk, .junk, .junk, .junk, .junk, .junk, .junk, .junk, .junk, .junk, .junk, .junk, .junk, .junk, .junk, .junk, .junk, .junk, .junk]) 0 (Nat.zero_le _) (by simp) (by simp only [PWeak_nil, PWeak_junk, PWeak_same, Int.cast_ofNat_Int, List.length_append, List.length_cons, List.length_nil, Nat.zero_add]) (by simp only [PP, P1, P2, P3, P4, P5, P6, P7, P8, P9, P10, P11, P12, P13, P14, L1, P15, N1, N2, N3, N4, N5, N6, N7, I1, I2, I3, I4, I5, I6, I7, reduceIte, reduceCtorEq, PV.under]) rfl rfl) ?_
  refine SemW_of ?_
  have next : (bm sn k → ¬ Bad (fun a b => b ∈ Sf mv a) (zP pr) p k) → k + 1 ≤ ow.length ∧ ∀ w, w < k + 1 → bm sn w → ¬ Bad (fun a b => b ∈ Sf mv a) (zP pr) p w := fun h => ⟨hk', fun w hw hb => by
    by_cases e : w = k
    · subst e; exact h hb
    · exact hbad w (by omega) hb⟩
  cases z with
  | false =>
    simp only [PP, P1, P2, P3, P4, P5, P6, P7, P8, P9, P10, P11, P12, P13, P14, L1, P15, N1, N2, N3, N4, N5, N6, N7, I1, I2, I3, I4, I5, I6, I7, reduceIte, reduceCtorEq]
    refine SemW_of ?_
    simp only [PP, P1, P2, P3, P4, P5, P6, P7, P8, P9, P10, P11, P12, P13, P14, L1, P15, N1, N2, N3, N4, N5, N6, N7, I1, I2, I3, I4, I5, I6, I7, reduceIte, reduceCtorEq, hwk]
    exact SemW_weak (ih (k + 1) (next fun h => by rw [bm_of gz] at h; cases h) (by omega)) (by simp only [PWeak_nil, PWeak_junk, PWeak_same, Int.cast_ofNat_Int, List.length_append, List.length_cons, List.length_nil, Nat.zero_add])
  | true =>
    have hbk : bm sn k := (bm_of gz).2 rfl
    obtain ⟨v1, hv1, hv2, hv3⟩ := (hsn k).1 hbk
    simp only [PP, P1, P2, P3, P4, P5, P6, P7, P8, P9, P10, P11, P12, P13, P14, L1, P15, N1, N2, N3, N4, N5, N6, N7, I1, I2, I3, I4, I5, I6, I7, reduceIte, reduceCtorEq, k0, kn, gq, hpl, hwp, prem (show (2 : Int) ≠ 0 by decide), hrem]
    refine QIf.intro (fun d => ?_) (fun d => ?_)
    · simp only [PP, P1, P2, P3, P4, P5, P6, P7, P8, P9, P10, P11, P12, P13, P14, L1, P15, N1, N2, N3, N4, N5, N6, N7, I1, I2, I3, I4, I5, I6, I7, reduceIte, reduceCtorEq, d]
      refine SemW_of ?_
      simp only [PP, P1, P2, P3, P4, P5, P6, P7, P8, P9, P10, P11, P12, P13, P14, L1, P15, N1, N2, N3, N4, N5, N6, N7, I1, I2, I3, I4, I5, I6, I7, reduceIte, reduceCtorEq, hwk]
      exact SemW_weak (ih (k + 1) (next fun _ h => h.1 (by rw [eq]; exact d)) (by omega)) (by simp only [PWeak_nil, PWeak_junk, PWeak_same, Int.cast_ofNat_Int, List.length_append, List.length_cons, List.length_nil, Nat.zero_add])
    simp only [PP, P1, P2, P3, P4, P5, P6, P7, P8, P9, P10, P11, P12, P13, P14, L1, P15, N1, N2, N3, N4, N5, N6, N7, I1, I2, I3, I4, I5, I6, I7, reduceIte, reduceCtorEq, d]
    refine path_p T R (al := fun v => decide (pr.getD v 0 ≤ pr.getD k 0)) (to := fun v => decide (v = k)) (by omega) (by simp only [PP, P1, P2, P3, P4, P5, P6, P7, P8, P9, P10, P11, P12, P13, P14, L1, P15, N1, N2, N3, N4, N5, N6, N7, I1, I2, I3, I4, I5, I6, I7, reduceIte, reduceCtorEq, PV.under]) (by simp only [PP, P1, P2, P3, P4, P5, P6, P7, P8, P9, P10, P11, P12, P13, P14, L1, P15, N1, N2, N3, N4, N5, N6, N7, I1, I2, I3, I4, I5, I6, I7, reduceIte, reduceCtorEq, PV.under]) (fun v hv => hA k hk' v (by omega)) (fun v hv => hT k v) (fun hno => ?_) (fun lc x hx htx hax hch hlc => ?_)
    · simp only [PP, P1, P2, P3, P4, P5, P6, P7, P8, P9, P10, P11, P12, P13, P14, L1, P15, N1, N2, N3, N4, N5, N6, N7, I1, I2, I3, I4, I5, I6, I7, reduceIte, reduceCtorEq]
      refine SemW_of ?_
      simp only [PP, P1, P2, P3, P4, P5, P6, P7, P8, P9, P10, P11, P12, P13, P14, L1, P15, N1, N2, N3, N4, N5, N6, N7, I1, I2, I3, I4, I5, I6, I7, reduceIte, reduceCtorEq, hwk]
      exact SemW_weak (ih (k + 1) (next fun _ h => hno k (by omega) (decide_eq_true rfl) (h.2.mono' fun x hx => decide_eq_true hx)) (by omega)) (by simp only [PWeak_nil, PWeak_junk, PWeak_same, Int.cast_ofNat_Int, List.length_append, List.length_cons, List.length_nil, Nat.zero_add])
    · have hxk : x = k := of_decide_eq_true htx
      subst hxk
      have hL : LoopR mv pr p x lc := ⟨by omega, hch.mono fun x hx => of_decide_eq_true hx, hlc, by rw [eq]; exact d⟩
      have hk3 := fun stem hst => hk2 x lc stem hL hst
      obtain ⟨xl, hxl⟩ : ∃ xl, xl = nI (x :: lc) := ⟨_, rfl⟩
      have hx0 : ¬ xl.length = 0 := by rw [hxl]; simp
      rw [← hxl] at hk3 ⊢
      simp only [PP, P1, P2, P3, P4, P5, P6, P7, P8, P9, P10, P11, P12, P13, P14, L1, P15, N1, N2, N3, N4, N5, N6, N7, I1, I2, I3, I4, I5, I6, I7, reduceIte, reduceCtorEq, hx0]
      refine loop2 (fun (i : Nat) (st : PV) => i ≤ ow.length ∧ ((st = .nils ∧ ∀ v, v < i → ws.getD v 0 = p → v ≠ x → ¬ ws.getD x 0 = p → ¬ Rch (fun a b => b ∈ Sf mv a) (fun _ => True) v x) ∨ ∃ (v : Nat) (sc : List Nat), st = slI false true .i64 (nI (v :: sc)) ∧ v < mv.length ∧ ws.getD v 0 = p ∧ ¬ ws.getD x 0 = p ∧ Ch (Sf mv) (fun _ => True) x (v :: sc) ∧ sc.length + 1 ≤ mv.length))
        (fun i st => [.junk, .junk, .junk, .junk, .junk, .junk, st, slI false true .i64 xl, slR false true true false .i64 mv, .func (.func 56) [] [.cp (sC f5 o5 f6 o6 ws ss) 0, .cp [p8 p] 0], .junk, .cp [p64 x] 0, .junk, .junk, .func (.func 59) [] [.cp [p64 x] 0], .func (.func 61) [] [], .junk, .junk, .junk, .junk, .junk, .junk, .junk, .junk, .junk, .junk, .junk, .junk, .junk, .junk, .junk, .junk, .junk, .junk, .junk, .junk, .junk, .junk, .junk, .junk, .junk, .junk, .junk, .junk, .junk, .junk, .junk, .junk, .junk, .junk, .junk, .junk, .junk, .junk, .junk, p64 mv.length, p64 i, .junk, .junk, .junk, .junk, .junk, .junk, .junk, .junk, .junk, .junk, .junk, .junk, .junk, .junk, .junk, .junk, .junk, .junk, .junk, .junk, .junk, .junk, .junk, .junk, .junk, .junk, .junk, .junk, .junk])
        (fun i st => []) (fun i st => ow.length - i) 0 .nils ⟨by omega, .inl ⟨rfl, by intro v h; omega⟩⟩ (by simp only [PWeak_nil, PWeak_junk, PWeak_same, Int.cast_ofNat_Int, List.length_append, List.length_cons, List.length_nil, Nat.zero_add]) rfl ?_
      intro i st ⟨hle2, hst⟩ ih2
      have hwi := wrap_succ (k := i) (by show _ < 1000000000000; omega)
      rcases hst with ⟨rfl, hno⟩ | ⟨v, sc, rfl, w1, w2, w3, w4, w5⟩
      · refine SemW_go (by kernel_rfl) ?_
        simp only [PP, P1, P2, P3, P4, P5, P6, P7, P8, P9, P10, P11, P12, P13, P14, L1, P15, N1, N2, N3, N4, N5, N6, N7, I1, I2, I3, I4, I5, I6, I7, reduceIte, reduceCtorEq]
        refine QIf.intro (fun c2 => ?_) (fun c2 => ?_)
        · have hi : i < ow.length := by omega
          have nx : (ws.getD i 0 = p → i ≠ x → ¬ ws.getD x 0 = p → ¬ Rch (fun a b => b ∈ Sf mv a) (fun _ => True) i x) → ∀ v, v < i + 1 → ws.getD v 0 = p → v ≠ x → ¬ ws.getD x 0 = p → ¬ Rch (fun a b => b ∈ Sf mv a) (fun _ => True) v x := fun h v hv => by
            by_cases e : v = i
            · subst e; exact h
            · exact hno v (by omega)
          simp only [PP, P1, P2, P3, P4, P5, P6, P7, P8, P9, P10, P11, P12, P13, P14, L1, P15, N1, N2, N3, N4, N5, N6, N7, I1, I2, I3, I4, I5, I6, I7, reduceIte, reduceCtorEq, c2]
          refine hF i hi _ _ ?_
          by_cases d1 : ws.getD i 0 = p
          · rw [decide_eq_true d1]
            by_cases d2 : i = x
            · subst d2
              simp only [PP, P1, P2, P3, P4, P5, P6, P7, P8, P9, P10, P11, P12, P13, P14, L1, P15, N1, N2, N3, N4, N5, N6, N7, I1, I2, I3, I4, I5, I6, I7, reduceIte, reduceCtorEq, hwi]
              exact SemW_weak (ih2 (i + 1) .nils ⟨by omega, .inl ⟨rfl, nx fun _ h => absurd rfl h⟩⟩ (by omega)) (by simp only [PWeak_nil, PWeak_junk, PWeak_same, Int.cast_ofNat_Int, List.length_append, List.length_cons, List.length_nil, Nat.zero_add])
            · have d2' : ¬ (i : Int) = (x : Int) := by omega
              simp only [PP, P1, P2, P3, P4, P5, P6, P7, P8, P9, P10, P11, P12, P13, P14, L1, P15, N1, N2, N3, N4, N5, N6, N7, I1, I2, I3, I4, I5, I6, I7, reduceIte, reduceCtorEq, d2', hwi]
              refine hF x hk' _ _ ?_
              by_cases d3 : ws.getD x 0 = p
              · rw [decide_eq_true d3]
                simp only [PP, P1, P2, P3, P4, P5, P6, P7, P8, P9, P10, P11, P12, P13, P14, L1, P15, N1, N2, N3, N4, N5, N6, N7, I1, I2, I3, I4, I5, I6, I7, reduceIte, reduceCtorEq, hwi]
                exact SemW_weak (ih2 (i + 1) .nils ⟨by omega, .inl ⟨rfl, nx fun _ _ h => absurd d3 h⟩⟩ (by omega)) (by simp only [PWeak_nil, PWeak_junk, PWeak_same, Int.cast_ofNat_Int, List.length_append, List.length_cons, List.length_nil, Nat.zero_add])
              · rw [decide_eq_false d3]
                simp only [PP, P1, P2, P3, P4, P5, P6, P7, P8, P9, P10, P11, P12, P13, P14, L1, P15, N1, N2, N3, N4, N5, N6, N7, I1, I2, I3, I4, I5, I6, I7, reduceIte, reduceCtorEq, hwi]
                refine path_p T R (al := fun v => true) (to := fun v => decide (v = x)) (by omega) (by simp only [PP, P1, P2, P3, P4, P5, P6, P7, P8, P9, P10, P11, P12, P13, P14, L1, P15, N1, N2, N3, N4, N5, N6, N7, I1, I2, I3, I4, I5, I6, I7, reduceIte, reduceCtorEq, PV.under]) (by simp only [PP, P1, P2, P3, P4, P5, P6, P7, P8, P9, P10, P11, P12, P13, P14, L1, P15, N1, N2, N3, N4, N5, N6, N7, I1, I2, I3, I4, I5, I6, I7, reduceIte, reduceCtorEq, PV.under]) (fun v hv => hU v) (fun v hv => hT x v) (fun hno => ?_) (fun sc y hy hty hay hcy hls => ?_)
                · simp only [PP, P1, P2, P3, P4, P5, P6, P7, P8, P9, P10, P11, P12, P13, P14, L1, P15, N1, N2, N3, N4, N5, N6, N7, I1, I2, I3, I4, I5, I6, I7, reduceIte, reduceCtorEq, hwi]
                  exact SemW_weak (ih2 (i + 1) .nils ⟨by omega, .inl ⟨rfl, nx fun _ _ _ h => hno x (by omega) (decide_eq_true rfl) (h.mono' fun _ _ => rfl)⟩⟩ (by omega)) (by simp only [PWeak_nil, PWeak_junk, PWeak_same, Int.cast_ofNat_Int, List.length_append, List.length_cons, List.length_nil, Nat.zero_add])
                · have hyx : y = x := of_decide_eq_true hty
                  subst hyx
                  obtain ⟨yl, hyl⟩ : ∃ yl, yl = nI (i :: sc) := ⟨_, rfl⟩
                  rw [← hyl]
                  simp only [PP, P1, P2, P3, P4, P5, P6, P7, P8, P9, P10, P11, P12, P13, P14, L1, P15, N1, N2, N3, N4, N5, N6, N7, I1, I2, I3, I4, I5, I6, I7, reduceIte, reduceCtorEq, hwi]
                  exact SemW_weak (ih2 (i + 1) (slI false true .i64 yl) ⟨by omega, .inr ⟨i, sc, by rw [hyl], by omega, d1, d3, hcy.mono fun _ _ => trivial, hls⟩⟩ (by omega)) (by simp only [PWeak_nil, PWeak_junk, PWeak_same, Int.cast_ofNat_Int, List.length_append, List.length_cons, List.length_nil, Nat.zero_add])
          · rw [decide_eq_false d1]
            simp only [PP, P1, P2, P3, P4, P5, P6, P7, P8, P9, P10, P11, P12, P13, P14, L1, P15, N1, N2, N3, N4, N5, N6, N7, I1, I2, I3, I4, I5, I6, I7, reduceIte, reduceCtorEq, hwi]
            exact SemW_weak (ih2 (i + 1) .nils ⟨by omega, .inl ⟨rfl, nx fun h => absurd h d1⟩⟩ (by omega)) (by simp only [PWeak_nil, PWeak_junk, PWeak_same, Int.cast_ofNat_Int, List.length_append, List.length_cons, List.length_nil, Nat.zero_add])
        · simp only [PP, P1, P2, P3, P4, P5, P6, P7, P8, P9, P10, P11, P12, P13, P14, L1, P15, N1, N2, N3, N4, N5, N6, N7, I1, I2, I3, I4, I5, I6, I7, reduceIte, reduceCtorEq, c2]
          refine hk3 .nils ?_
          by_cases d3 : ws.getD x 0 = p
          · exact .inl ⟨rfl, d3⟩
          · exfalso
            have hv2 := of_decide_eq_true hv2
            rcases hv3 with e | e
            · subst e; exact d3 hv2
            · exact hno v1 (by omega) hv2 (fun e' => d3 (e' ▸ hv2)) d3 e
      · have hst0 : StemR mv ws p x (slI false true .i64 (nI (v :: sc))) := .inr ⟨v, sc, rfl, w1, w2, w3, w4, w5⟩
        have hk4 := hk3 _ hst0
        have stay : ∀ st, st = slI false true .i64 (nI (v :: sc)) → ∃ (v : Nat) (sc : List Nat), st = slI false true .i64 (nI (v :: sc)) ∧ v < mv.length ∧ ws.getD v 0 = p ∧ ¬ ws.getD x 0 = p ∧ Ch (Sf mv) (fun _ => True) x (v :: sc) ∧ sc.length + 1 ≤ mv.length := fun st e => ⟨v, sc, e, w1, w2, w3, w4, w5⟩
        obtain ⟨yl, hyl⟩ : ∃ yl, yl = nI (v :: sc) := ⟨_, rfl⟩
        have hy0 : ¬ yl.length = 0 := by rw [hyl]; simp
        rw [← hyl] at hk4 stay ⊢
        refine SemW_go (by kernel_rfl) ?_
        simp only [PP, P1, P2, P3, P4, P5, P6, P7, P8, P9, P10, P11, P12, P13, P14, L1, P15, N1, N2, N3, N4, N5, N6, N7, I1, I2, I3, I4, I5, I6, I7, reduceIte, reduceCtorEq]
        refine QIf.intro (fun c2 => ?_) (fun c2 => ?_)
        · have hi : i < ow.length := by omega
          have keep := ih2 (i + 1) (slI false true .i64 yl) ⟨by omega, .inr (stay _ rfl)⟩ (by omega)
          simp only [PP, P1, P2, P3, P4, P5, P6, P7, P8, P9, P10, P11, P12, P13, P14, L1, P15, N1, N2, N3, N4, N5, N6, N7, I1, I2, I3, I4, I5, I6, I7, reduceIte, reduceCtorEq, c2]
          refine hF i hi _ _ ?_
          by_cases d1 : ws.getD i 0 = p
          · rw [decide_eq_true d1]
            by_cases d2 : i = x
            · subst d2
              simp only [PP, P1, P2, P3, P4, P5, P6, P7, P8, P9, P10, P11, P12, P13, P14, L1, P15, N1, N2, N3, N4, N5, N6, N7, I1, I2, I3, I4, I5, I6, I7, reduceIte, reduceCtorEq, hwi, hy0]
              exact SemW_weak keep (by simp only [PWeak_nil, PWeak_junk, PWeak_same, Int.cast_ofNat_Int, List.length_append, List.length_cons, List.length_nil, Nat.zero_add])
            · have d2' : ¬ (i : Int) = (x : Int) := by omega
              simp only [PP, P1, P2, P3, P4, P5, P6, P7, P8, P9, P10, P11, P12, P13, P14, L1, P15, N1, N2, N3, N4, N5, N6, N7, I1, I2, I3, I4, I5, I6, I7, reduceIte, reduceCtorEq, d2', hwi, hy0]
              exact SemW_weak keep (by simp only [PWeak_nil, PWeak_junk, PWeak_same, Int.cast_ofNat_Int, List.length_append, List.length_cons, List.length_nil, Nat.zero_add])
          · rw [decide_eq_false d1]
            simp only [PP, P1, P2, P3, P4, P5, P6, P7, P8, P9, P10, P11, P12, P13, P14, L1, P15, N1, N2, N3, N4, N5, N6, N7, I1, I2, I3, I4, I5, I6, I7, reduceIte, reduceCtorEq, hwi, hy0]
            exact SemW_weak keep (by simp only [PWeak_nil, PWeak_junk, PWeak_same, Int.cast_ofNat_Int, List.length_append, List.length_cons, List.length_nil, Nat.zero_add])
        · simp only [PP, P1, P2, P3, P4, P5, P6, P7, P8, P9, P10, P11, P12, P13, P14, L1, P15, N1, N2, N3, N4, N5, N6, N7, I1, I2, I3, I4, I5, I6, I7, reduceIte, reduceCtorEq, c2]
          exact hk4
end
end Go.Am.Ar
set_option linter.unusedVariables false
set_option linter.unusedSimpArgs false
set_option maxRecDepth 10000
namespace Go.Am.Ar
open Go.Am renaming pchk → P1, pold → P2, PKNo → P3, ppack → P4, PObj.under → P5, pput → P6, ptset → P7, ptget → P8, pev → P9, ofAV → P10, ofAV1 → P11, ppad → P12, pfill → P13, prepl → P14, AO.effect → P15
open List renaming replicate → L1
open Nat renaming reduceAdd → N1, reduceSub → N2, reduceMul → N3, reduceLT → N4, reduceLeDiff → N5, reduceEqDiff → N6, reduceBEq → N7
open Int renaming reduceToNat → I1, reduceLT → I2, reduceLE → I3, reduceEq → I4, reduceAdd → I5, reduceSub → I6, reduceNeg → I7
section
variable {tab : FuncId → Option AF} (T : HasA tab)
include T
set_option maxHeartbeats 1000000 in
theorem refForm_p {M : Mem} {K : PV → Mem → Prop} {f1 o1 f2 o2 f3 o3 f4 o4 f5 o5 f6 o6 : Bool} {ow pr ws ss : List Int} {su : List (List Int)} (B : Bnd ow pr su)
    (hk : ∀ e : Int, FormE ow pr su ws ss e → K (p64 e) M) :
    SemC tab 23 [gmP f1 o1 f2 o2 f3 o3 f4 o4 ow pr su, .agg [slI f5 o5 .u8 ws, slI f6 o6 .i64 ss]] M K := by
  refine SemC_pure T.h23 (by simp only [PP, P1, P2, P3, P4, P5, P6, P7, P8, P9, P10, P11, P12, P13, P14, L1, P15, N1, N2, N3, N4, N5, N6, N7, I1, I2, I3, I4, I5, I6, I7, reduceIte, reduceCtorEq]) ?_
  simp only [af23, PP, P1, P2, P3, P4, P5, P6, P7, P8, P9, P10, P11, P12, P13, P14, L1, P15, N1, N2, N3, N4, N5, N6, N7, I1, I2, I3, I4, I5, I6, I7, reduceIte, reduceCtorEq]
  refine refCheck_p T B ?_
  simp only [PP, P1, P2, P3, P4, P5, P6, P7, P8, P9, P10, P11, P12, P13, P14, L1, P15, N1, N2, N3, N4, N5, N6, N7, I1, I2, I3, I4, I5, I6, I7, reduceIte, reduceCtorEq]
  refine QIf.intro (fun c1 => ?_) (fun c1 => ?_)
  rotate_left
  · simp only [PP, P1, P2, P3, P4, P5, P6, P7, P8, P9, P10, P11, P12, P13, P14, L1, P15, N1, N2, N3, N4, N5, N6, N7, I1, I2, I3, I4, I5, I6, I7, reduceIte, reduceCtorEq, c1]
    exact hk _ (.inl ⟨c1, rfl⟩)
  have V := valid_of c1
  have n0 := V.n0
  have n1 := V.n1
  have hs := V.s
  have hp := V.p
  simp only [PP, P1, P2, P3, P4, P5, P6, P7, P8, P9, P10, P11, P12, P13, P14, L1, P15, N1, N2, N3, N4, N5, N6, N7, I1, I2, I3, I4, I5, I6, I7, reduceIte, reduceCtorEq, c1]
  refine QIf.intro (fun c2 => ?_) (fun c2 => ?_)
  rotate_left
  · simp only [PP, P1, P2, P3, P4, P5, P6, P7, P8, P9, P10, P11, P12, P13, P14, L1, P15, N1, N2, N3, N4, N5, N6, N7, I1, I2, I3, I4, I5, I6, I7, reduceIte, reduceCtorEq, c2]
    exact hk _ (.inr (.inl ⟨c1, fun h => c2 (by have := h.1; omega), rfl⟩))
  simp only [PP, P1, P2, P3, P4, P5, P6, P7, P8, P9, P10, P11, P12, P13, P14, L1, P15, N1, N2, N3, N4, N5, N6, N7, I1, I2, I3, I4, I5, I6, I7, reduceIte, reduceCtorEq, c2]
  refine QIf.intro (fun c3 => ?_) (fun c3 => ?_)
  rotate_left
  · simp only [PP, P1, P2, P3, P4, P5, P6, P7, P8, P9, P10, P11, P12, P13, P14, L1, P15, N1, N2, N3, N4, N5, N6, N7, I1, I2, I3, I4, I5, I6, I7, reduceIte, reduceCtorEq, c3]
    exact hk _ (.inr (.inl ⟨c1, fun h => c3 (by have := h.2; omega), rfl⟩))
  have lw : ws.length = ow.length := by omega
  have ls : ss.length = ow.length := by omega
  simp only [PP, P1, P2, P3, P4, P5, P6, P7, P8, P9, P10, P11, P12, P13, P14, L1, P15, N1, N2, N3, N4, N5, N6, N7, I1, I2, I3, I4, I5, I6, I7, reduceIte, reduceCtorEq, c3]
  refine loop1 (fun (k : Nat) => k ≤ ow.length ∧ ∀ v, v < k → FormAt ow su ws ss v)
    (fun k => [.junk, .junk, .ptr 0 0 0, .ptr 1 0 0, .junk, .junk, p64 k, .junk, .junk, .junk, .junk, .junk, .junk, .junk, .junk, .junk, .junk, .junk, .junk, .junk, .junk, .junk, .junk, .junk, .junk, .junk, .junk, .junk, .junk, .junk, .junk, .junk, .junk, .junk, .junk, .junk, .junk, .junk, .junk, .junk, .junk, .junk, .junk, .junk, .junk, .junk, .junk, .junk, .junk, .junk, .junk, .junk, .junk, .junk, .junk, .junk, .junk, .junk, .junk, .junk, .junk, .junk, .junk, .junk, .junk, .junk, .junk, .junk, .junk, .junk, .junk, .junk, .junk, .junk, .junk, .junk, .junk, .junk, .junk, .junk, .junk, .junk, .junk, .junk, .junk, .junk, .junk])
    (fun k => [.cells 0 0 [slI f1 o1 .u8 ow, slI f2 o2 .i64 pr, slR f3 o3 f4 o4 .i64 su], .cells 0 0 [slI f5 o5 .u8 ws, slI f6 o6 .i64 ss]])
    (fun k => ow.length - k) 0 ⟨by omega, by intro v h; omega⟩ (by simp only [PWeak_nil, PWeak_junk, PWeak_same, Int.cast_ofNat_Int, List.length_append, List.length_cons, List.length_nil, Nat.zero_add]) rfl ?_
  intro k ⟨hle, hf⟩ ih
  refine SemW_go (by kernel_rfl) ?_
  simp only [PP, P1, P2, P3, P4, P5, P6, P7, P8, P9, P10, P11, P12, P13, P14, L1, P15, N1, N2, N3, N4, N5, N6, N7, I1, I2, I3, I4, I5, I6, I7, reduceIte, reduceCtorEq]
  refine QIf.intro (fun c => ?_) (fun c => ?_)
  · have hk' : k < ow.length := by omega
    have k0 : (0 : Int) ≤ k := by omega
    have kn : (k : Int) < ow.length := by omega
    have hwk := wrap_succ (k := k) (by show _ < 1000000000000; omega)
    obtain ⟨o, g1⟩ := some_of (xs := ow) (k := k) hk'
    obtain ⟨w, g2⟩ := some_of (xs := ws) (k := k) (by omega)
    obtain ⟨s, g3⟩ := some_of (xs := ss) (k := k) (by omega)
    obtain ⟨r, g4⟩ := some_of (xs := su) (k := k) (by omega)
    have e1 : ow.getD k 0 = o := getD_some g1
    have e2 : ws.getD k 0 = w := getD_some g2
    have e3 : ss.getD k 0 = s := getD_some g3
    have e4 : su.getD k [] = r := by simp [List.getD, g4]
    have good : FormAt ow su ws ss k → k + 1 ≤ ow.length ∧ ∀ v, v < k + 1 → FormAt ow su ws ss v := fun h => ⟨hk', fun v hv => by
      by_cases e : v = k
      · subst e; exact h
      · exact hf v (by omega)⟩
    simp only [PP, P1, P2, P3, P4, P5, P6, P7, P8, P9, P10, P11, P12, P13, P14, L1, P15, N1, N2, N3, N4, N5, N6, N7, I1, I2, I3, I4, I5, I6, I7, reduceIte, reduceCtorEq, c, k0, kn, g2, lw]
    refine QIf.intro (fun d => ?_) (fun d => ?_)
    · simp only [PP, P1, P2, P3, P4, P5, P6, P7, P8, P9, P10, P11, P12, P13, P14, L1, P15, N1, N2, N3, N4, N5, N6, N7, I1, I2, I3, I4, I5, I6, I7, reduceIte, reduceCtorEq, d]
      exact hk _ (.inr (.inr (.inl ⟨c1, ⟨lw, ls⟩, k, hk', hf, .inl ⟨by rw [e2]; exact d, rfl⟩⟩)))
    have bad : ¬ FormAt ow su ws ss k → K (p64 13) M := fun h => hk _ (.inr (.inr (.inl ⟨c1, ⟨lw, ls⟩, k, hk', hf, .inr ⟨by rw [e2]; exact d, h, rfl⟩⟩)))
    simp only [PP, P1, P2, P3, P4, P5, P6, P7, P8, P9, P10, P11, P12, P13, P14, L1, P15, N1, N2, N3, N4, N5, N6, N7, I1, I2, I3, I4, I5, I6, I7, reduceIte, reduceCtorEq, d, k0, kn, g1, g2, lw]
    refine QIf.intro (fun d2 => ?_) (fun d2 => ?_)
    · simp only [PP, P1, P2, P3, P4, P5, P6, P7, P8, P9, P10, P11, P12, P13, P14, L1, P15, N1, N2, N3, N4, N5, N6, N7, I1, I2, I3, I4, I5, I6, I7, reduceIte, reduceCtorEq, d2, k0, kn, g1, g2, g3, g4, hs, ls, lw]
      refine hasInt_p T (B.r r (List.mem_of_getElem? g4)) ?_
      by_cases q : s ∈ r
      · simp only [PP, P1, P2, P3, P4, P5, P6, P7, P8, P9, P10, P11, P12, P13, P14, L1, P15, N1, N2, N3, N4, N5, N6, N7, I1, I2, I3, I4, I5, I6, I7, reduceIte, reduceCtorEq, d2, q, k0, kn, g1, g2, lw, hwk]
        exact SemW_weak (ih (k + 1) (good ⟨by rw [e2]; exact d, fun _ => by rw [e3, e4]; exact q, fun h => absurd (by rw [e1, e2]; exact d2) h⟩) (by omega)) (by simp only [PWeak_nil, PWeak_junk, PWeak_same, Int.cast_ofNat_Int, List.length_append, List.length_cons, List.length_nil, Nat.zero_add])
      · simp only [PP, P1, P2, P3, P4, P5, P6, P7, P8, P9, P10, P11, P12, P13, P14, L1, P15, N1, N2, N3, N4, N5, N6, N7, I1, I2, I3, I4, I5, I6, I7, reduceIte, reduceCtorEq, q]
        exact bad fun h => q (by have := h.own (by rw [e1, e2]; exact d2); rwa [e3, e4] at this)
    · simp only [PP, P1, P2, P3, P4, P5, P6, P7, P8, P9, P10, P11, P12, P13, P14, L1, P15, N1, N2, N3, N4, N5, N6, N7, I1, I2, I3, I4, I5, I6, I7, reduceIte, reduceCtorEq, d2, k0, kn, g1, g2, g3, ls, lw]
      refine QIf.intro (fun q => ?_) (fun q => ?_)
      · simp only [PP, P1, P2, P3, P4, P5, P6, P7, P8, P9, P10, P11, P12, P13, P14, L1, P15, N1, N2, N3, N4, N5, N6, N7, I1, I2, I3, I4, I5, I6, I7, reduceIte, reduceCtorEq, q, hwk]
        exact SemW_weak (ih (k + 1) (good ⟨by rw [e2]; exact d, fun h => absurd (by rw [← e1, ← e2]; exact h) d2, fun _ => by rw [e3]; exact q⟩) (by omega)) (by simp only [PWeak_nil, PWeak_junk, PWeak_same, Int.cast_ofNat_Int, List.length_append, List.length_cons, List.length_nil, Nat.zero_add])
      · simp only [PP, P1, P2, P3, P4, P5, P6, P7, P8, P9, P10, P11, P12, P13, P14, L1, P15, N1, N2, N3, N4, N5, N6, N7, I1, I2, I3, I4, I5, I6, I7, reduceIte, reduceCtorEq, q]
        exact bad fun h => q (by have := h.opp (by rw [e1, e2]; exact d2); rwa [e3] at this)
  have hkn : k = ow.length := by omega
  subst hkn
  simp only [PP, P1, P2, P3, P4, P5, P6, P7, P8, P9, P10, P11, P12, P13, P14, L1, P15, N1, N2, N3, N4, N5, N6, N7, I1, I2, I3, I4, I5, I6, I7, reduceIte, reduceCtorEq, c]
  exact hk _ (.inr (.inr (.inr ⟨⟨c1, lw, ls, hf⟩, rfl⟩)))
def ChkE (ow pr : List Int) (su : List (List Int)) (ws ss : List Int) (e : Int) : Prop := (¬ e = 0 ∧ FormE ow pr su ws ss e) ∨ (FormP ow pr su ws ss ∧ ¬ CorrP ow pr su ws ss ∧ e = 14) ∨ (CorrP ow pr su ws ss ∧ e = 0)
omit T in
theorem ChkE.eq {ow pr ws ss : List Int} {su : List (List Int)} {e e' : Int} (h : ChkE ow pr su ws ss e) (h' : ChkE ow pr su ws ss e') : e = e' := by
  rcases h with ⟨h1, h2⟩ | ⟨h1, h2, rfl⟩ | ⟨h1, rfl⟩
  · have nf : ¬ FormP ow pr su ws ss := fun q => h1 (h2.zero.2 q)
    rcases h' with ⟨g1, g2⟩ | ⟨g1, g2, rfl⟩ | ⟨g1, rfl⟩
    · exact h2.eq g2
    · exact absurd g1 nf
    · exact absurd g1.formP nf
  · rcases h' with ⟨g1, g2⟩ | ⟨g1, g2, rfl⟩ | ⟨g1, rfl⟩
    · exact absurd (g2.zero.2 h1) g1
    · rfl
    · exact absurd g1 h2
  · rcases h' with ⟨g1, g2⟩ | ⟨g1, g2, rfl⟩ | ⟨g1, rfl⟩
    · exact absurd (g2.zero.2 h1.formP) g1
    · exact absurd h1 g2
    · rfl
theorem refCheck33_p {M : Mem} {K : PV → Mem → Prop} {f1 o1 f2 o2 f3 o3 f4 o4 f5 o5 f6 o6 : Bool} {ow pr ws ss : List Int} {su : List (List Int)} (B : Bnd ow pr su)
    (hk : ∀ e : Int, ChkE ow pr su ws ss e → K (p64 e) M) :
    SemC tab 11 [gmP f1 o1 f2 o2 f3 o3 f4 o4 ow pr su, .agg [slI f5 o5 .u8 ws, slI f6 o6 .i64 ss]] M K := by
  refine SemC_pure T.h11 (by simp only [PP, P1, P2, P3, P4, P5, P6, P7, P8, P9, P10, P11, P12, P13, P14, L1, P15, N1, N2, N3, N4, N5, N6, N7, I1, I2, I3, I4, I5, I6, I7, reduceIte, reduceCtorEq]) ?_
  simp only [af11, PP, P1, P2, P3, P4, P5, P6, P7, P8, P9, P10, P11, P12, P13, P14, L1, P15, N1, N2, N3, N4, N5, N6, N7, I1, I2, I3, I4, I5, I6, I7, reduceIte, reduceCtorEq]
  refine refForm_p T B fun e he => ?_
  simp only [PP, P1, P2, P3, P4, P5, P6, P7, P8, P9, P10, P11, P12, P13, P14, L1, P15, N1, N2, N3, N4, N5, N6, N7, I1, I2, I3, I4, I5, I6, I7, reduceIte, reduceCtorEq]
  refine QIf.intro (fun c1 => ?_) (fun c1 => ?_)
  rotate_left
  · simp only [PP, P1, P2, P3, P4, P5, P6, P7, P8, P9, P10, P11, P12, P13, P14, L1, P15, N1, N2, N3, N4, N5, N6, N7, I1, I2, I3, I4, I5, I6, I7, reduceIte, reduceCtorEq, c1]
    exact hk _ (.inl ⟨c1, he⟩)
  simp only [PP, P1, P2, P3, P4, P5, P6, P7, P8, P9, P10, P11, P12, P13, P14, L1, P15, N1, N2, N3, N4, N5, N6, N7, I1, I2, I3, I4, I5, I6, I7, reduceIte, reduceCtorEq, c1]
  refine correct_p T B fun b hb => ?_
  cases b with
  | true =>
    simp only [PP, P1, P2, P3, P4, P5, P6, P7, P8, P9, P10, P11, P12, P13, P14, L1, P15, N1, N2, N3, N4, N5, N6, N7, I1, I2, I3, I4, I5, I6, I7, reduceIte, reduceCtorEq]
    exact hk _ (.inr (.inr ⟨hb.1 rfl, rfl⟩))
  | false =>
    simp only [PP, P1, P2, P3, P4, P5, P6, P7, P8, P9, P10, P11, P12, P13, P14, L1, P15, N1, N2, N3, N4, N5, N6, N7, I1, I2, I3, I4, I5, I6, I7, reduceIte, reduceCtorEq]
    exact hk _ (.inr (.inl ⟨he.zero.1 c1, (fun q => by have := hb.2 q; cases this), rfl⟩))
end
end Go.Am.Ar
set_option linter.unusedVariables false
set_option linter.unusedSimpArgs false
set_option maxRecDepth 10000
namespace Go.Am.Ar
open Go.Am renaming pchk → P1, pold → P2, PKNo → P3, ppack → P4, PObj.under → P5, pput → P6, ptset → P7, ptget → P8, pev → P9, ofAV → P10, ofAV1 → P11, ppad → P12, pfill → P13, prepl → P14, AO.effect → P15
open List renaming replicate → L1
open Nat renaming reduceAdd → N1, reduceSub → N2, reduceMul → N3, reduceLT → N4, reduceLeDiff → N5, reduceEqDiff → N6, reduceBEq → N7
open Int renaming reduceToNat → I1, reduceLT → I2, reduceLE → I3, reduceEq → I4, reduceAdd → I5, reduceSub → I6, reduceNeg → I7
theorem LoopR.par {ow pr ws ss : List Int} {su : List (List Int)} {p : Int} {w : Nat} {lc : List Nat} {stem : PV} (F : FormP ow pr su ws ss) (hp : p = 0 ∨ p = 1) (hl : LoopR (tabA ow.length (movC ow ws ss su p)) pr p w lc) (hs : StemR (tabA ow.length (movC ow ws ss su p)) ws p w stem) : ¬ CorrP ow pr su ws ss := fun h => by
  have h2 := (corr_iff F).1 h
  have := loop_ref hl hs
  rcases hp with rfl | rfl
  · exact h2.1 this
  · exact h2.2 this
section
variable {tab : FuncId → Option AF} (T : HasA tab)
include T
theorem refuteAll_p {M : Mem} {K : PV → Mem → Prop} {f1 o1 f2 o2 f3 o3 f4 o4 f5 o5 f6 o6 : Bool} {ow pr ws ss : List Int} {su : List (List Int)} (B : Bnd ow pr su)
    (hk0 : ∀ e : Int, ¬ e = 0 → FormE ow pr su ws ss e → K (.tuple [.nils, .nils, p64 e]) M)
    (hk1 : CorrP ow pr su ws ss → K (.tuple [.nils, .nils, p64 0]) M)
    (hk2 : ∀ (p : Int) (w : Nat) (lc : List Nat) (stem : PV), FormP ow pr su ws ss → (p = 0 ∨ p = 1) → LoopR (tabA ow.length (movC ow ws ss su p)) pr p w lc → StemR (tabA ow.length (movC ow ws ss su p)) ws p w stem → K (.tuple [stem, slI false true .i64 (nI (w :: lc)), p64 14]) M) :
    SemC tab 10 [gmP f1 o1 f2 o2 f3 o3 f4 o4 ow pr su, .agg [slI f5 o5 .u8 ws, slI f6 o6 .i64 ss]] M K := by
  refine SemC_pure T.h10 (by simp only [PP, P1, P2, P3, P4, P5, P6, P7, P8, P9, P10, P11, P12, P13, P14, L1, P15, N1, N2, N3, N4, N5, N6, N7, I1, I2, I3, I4, I5, I6, I7, reduceIte, reduceCtorEq]) ?_
  simp only [af10, PP, P1, P2, P3, P4, P5, P6, P7, P8, P9, P10, P11, P12, P13, P14, L1, P15, N1, N2, N3, N4, N5, N6, N7, I1, I2, I3, I4, I5, I6, I7, reduceIte, reduceCtorEq]
  refine form33_p T B fun e he => ?_
  simp only [PP, P1, P2, P3, P4, P5, P6, P7, P8, P9, P10, P11, P12, P13, P14, L1, P15, N1, N2, N3, N4, N5, N6, N7, I1, I2, I3, I4, I5, I6, I7, reduceIte, reduceCtorEq]
  refine QIf.intro (fun c1 => ?_) (fun c1 => ?_)
  rotate_left
  · simp only [PP, P1, P2, P3, P4, P5, P6, P7, P8, P9, P10, P11, P12, P13, P14, L1, P15, N1, N2, N3, N4, N5, N6, N7, I1, I2, I3, I4, I5, I6, I7, reduceIte, reduceCtorEq, c1]
    exact hk0 e c1 he
  have F := he.zero.1 c1
  simp only [PP, P1, P2, P3, P4, P5, P6, P7, P8, P9, P10, P11, P12, P13, P14, L1, P15, N1, N2, N3, N4, N5, N6, N7, I1, I2, I3, I4, I5, I6, I7, reduceIte, reduceCtorEq, c1]
  refine loop1 (fun (q : Nat) => q ≤ 2 ∧ ∀ p : Int, 0 ≤ p → p < q → ¬ RefP ow pr ws ss su p)
    (fun q => [.junk, .junk, .ptr 0 0 0, .ptr 1 0 0, .junk, .junk, .junk, .junk, .junk, .junk, .junk, .junk, .junk, .junk, .junk, p8 q, .junk, .junk, .junk, .junk, .junk, .junk, .junk, .junk, .junk, .junk, .junk, .junk, .junk, .junk])
    (fun q => [.cells 0 0 [slI f1 o1 .u8 ow, slI f2 o2 .i64 pr, slR f3 o3 f4 o4 .i64 su], .cells 0 0 [slI f5 o5 .u8 ws, slI f6 o6 .i64 ss]])
    (fun q => 2 - q) 0 ⟨by omega, by intro v h1 h2; omega⟩ (by simp only [PWeak_nil, PWeak_junk, PWeak_same, Int.cast_ofNat_Int, List.length_append, List.length_cons, List.length_nil, Nat.zero_add]) rfl ?_
  intro q ⟨hle2, hq⟩ ih2
  refine SemW_go (by kernel_rfl) ?_
  simp only [PP, P1, P2, P3, P4, P5, P6, P7, P8, P9, P10, P11, P12, P13, P14, L1, P15, N1, N2, N3, N4, N5, N6, N7, I1, I2, I3, I4, I5, I6, I7, reduceIte, reduceCtorEq]
  refine QIf.intro (fun d => ?_) (fun d => ?_)
  · have hq2 : q < 2 := by omega
    have hwq : IntKind.u8.wrap ((q : Int) + 1) = ((q + 1 : Nat) : Int) := by
      have : q = 0 ∨ q = 1 := by omega
      rcases this with rfl | rfl <;> rfl
    simp only [PP, P1, P2, P3, P4, P5, P6, P7, P8, P9, P10, P11, P12, P13, P14, L1, P15, N1, N2, N3, N4, N5, N6, N7, I1, I2, I3, I4, I5, I6, I7, reduceIte, reduceCtorEq, d]
    refine refute_p T B F (by omega) (fun hno => ?_) (fun w lc stem hL hS => ?_)
    · simp only [PP, P1, P2, P3, P4, P5, P6, P7, P8, P9, P10, P11, P12, P13, P14, L1, P15, N1, N2, N3, N4, N5, N6, N7, I1, I2, I3, I4, I5, I6, I7, reduceIte, reduceCtorEq, hwq]
      refine SemW_weak (ih2 (q + 1) ⟨by omega, fun p h1 h2 => ?_⟩ (by omega)) (by simp only [PWeak_nil, PWeak_junk, PWeak_same, Int.cast_ofNat_Int, List.length_append, List.length_cons, List.length_nil, Nat.zero_add])
      by_cases e : p = q
      · subst e; exact hno
      · exact hq p h1 (by omega)
    · have hk3 := hk2 q w lc stem F (by omega) hL hS
      obtain ⟨xl, hxl⟩ : ∃ xl, xl = nI (w :: lc) := ⟨_, rfl⟩
      have hx0 : ¬ xl.length = 0 := by rw [hxl]; simp
      rw [← hxl] at hk3 ⊢
      rcases hS with ⟨rfl, _⟩ | ⟨v, sc, rfl, _⟩
      · simp only [PP, P1, P2, P3, P4, P5, P6, P7, P8, P9, P10, P11, P12, P13, P14, L1, P15, N1, N2, N3, N4, N5, N6, N7, I1, I2, I3, I4, I5, I6, I7, reduceIte, reduceCtorEq, hx0]
        exact hk3
      · revert hk3
        generalize nI (v :: sc) = yl
        intro hk3
        simp only [PP, P1, P2, P3, P4, P5, P6, P7, P8, P9, P10, P11, P12, P13, P14, L1, P15, N1, N2, N3, N4, N5, N6, N7, I1, I2, I3, I4, I5, I6, I7, reduceIte, reduceCtorEq, hx0]
        exact hk3
  · have : q = 2 := by omega
    subst this
    simp only [PP, P1, P2, P3, P4, P5, P6, P7, P8, P9, P10, P11, P12, P13, P14, L1, P15, N1, N2, N3, N4, N5, N6, N7, I1, I2, I3, I4, I5, I6, I7, reduceIte, reduceCtorEq, d]
    exact hk1 ((corr_iff F).2 ⟨hq 0 (by omega) (by omega), hq 1 (by omega) (by omega)⟩)
theorem check33_p {M : Mem} {K : PV → Mem → Prop} {f1 o1 f2 o2 f3 o3 f4 o4 f5 o5 f6 o6 : Bool} {ow pr ws ss : List Int} {su : List (List Int)} (B : Bnd ow pr su)
    (hk : ∀ e : Int, ChkE ow pr su ws ss e → K (p64 e) M) :
    SemC tab 14 [gmP f1 o1 f2 o2 f3 o3 f4 o4 ow pr su, .agg [slI f5 o5 .u8 ws, slI f6 o6 .i64 ss]] M K := by
  refine SemC_pure T.h14 (by simp only [PP, P1, P2, P3, P4, P5, P6, P7, P8, P9, P10, P11, P12, P13, P14, L1, P15, N1, N2, N3, N4, N5, N6, N7, I1, I2, I3, I4, I5, I6, I7, reduceIte, reduceCtorEq]) ?_
  simp only [af14, PP, P1, P2, P3, P4, P5, P6, P7, P8, P9, P10, P11, P12, P13, P14, L1, P15, N1, N2, N3, N4, N5, N6, N7, I1, I2, I3, I4, I5, I6, I7, reduceIte, reduceCtorEq]
  refine refuteAll_p T B (fun e h0 he => ?_) (fun h => ?_) (fun p w lc stem F hp hL hS => ?_)
  · simp only [PP, P1, P2, P3, P4, P5, P6, P7, P8, P9, P10, P11, P12, P13, P14, L1, P15, N1, N2, N3, N4, N5, N6, N7, I1, I2, I3, I4, I5, I6, I7, reduceIte, reduceCtorEq]
    exact hk e (.inl ⟨h0, he⟩)
  · simp only [PP, P1, P2, P3, P4, P5, P6, P7, P8, P9, P10, P11, P12, P13, P14, L1, P15, N1, N2, N3, N4, N5, N6, N7, I1, I2, I3, I4, I5, I6, I7, reduceIte, reduceCtorEq]
    exact hk 0 (.inr (.inr ⟨h, rfl⟩))
  · simp only [PP, P1, P2, P3, P4, P5, P6, P7, P8, P9, P10, P11, P12, P13, P14, L1, P15, N1, N2, N3, N4, N5, N6, N7, I1, I2, I3, I4, I5, I6, I7, reduceIte, reduceCtorEq]
    exact hk 14 (.inr (.inl ⟨F, hL.par F hp hS, rfl⟩))
end
end Go.Am.Ar
set_option linter.unusedVariables false
set_option linter.unusedSimpArgs false
set_option maxRecDepth 10000
namespace Go.Am.Ar
open Go.Am renaming pchk → P1, pold → P2, PKNo → P3, ppack → P4, PObj.under → P5, pput → P6, ptset → P7, ptget → P8, pev → P9, ofAV → P10, ofAV1 → P11, ppad → P12, pfill → P13, prepl → P14, AO.effect → P15
open List renaming replicate → L1
open Nat renaming reduceAdd → N1, reduceSub → N2, reduceMul → N3, reduceLT → N4, reduceLeDiff → N5, reduceEqDiff → N6, reduceBEq → N7
open Int renaming reduceToNat → I1, reduceLT → I2, reduceLE → I3, reduceEq → I4, reduceAdd → I5, reduceSub → I6, reduceNeg → I7
section
variable {tab : FuncId → Option AF} (T : HasA tab)
include T
end
end Go.Am.Ar
set_option linter.unusedVariables false
set_option linter.unusedSimpArgs false
set_option maxRecDepth 10000
namespace Go.Am.Ar
open Go.Am renaming pchk → P1, pold → P2, PKNo → P3, ppack → P4, PObj.under → P5, pput → P6, ptset → P7, ptget → P8, pev → P9, ofAV → P10, ofAV1 → P11, ppad → P12, pfill → P13, prepl → P14, AO.effect → P15
open List renaming replicate → L1
open Nat renaming reduceAdd → N1, reduceSub → N2, reduceMul → N3, reduceLT → N4, reduceLeDiff → N5, reduceEqDiff → N6, reduceBEq → N7
open Int renaming reduceToNat → I1, reduceLT → I2, reduceLE → I3, reduceEq → I4, reduceAdd → I5, reduceSub → I6, reduceNeg → I7
theorem Ch.app {S : Nat → List Nat} {A : Nat → Prop} (hA : ∀ x, A x) {u w : Nat} {d : List Nat} (hd : Ch S A u (w :: d)) : ∀ {c : List Nat}, Ch S A w c → Ch S A u (c ++ w :: d)
  | [], _ => hd
  | [x], h => ⟨h, hA w, hd⟩
  | x :: y :: c, ⟨h1, h2, h3⟩ => ⟨h1, h2, Ch.app hA hd h3⟩
theorem Ch.at {S : Nat → List Nat} {A : Nat → Prop} {u : Nat} : ∀ {c : List Nat}, Ch S A u c → ∀ (j a : Nat), c[j]? = some a → ((∀ b, c[j + 1]? = some b → b ∈ S a) ∧ (c[j + 1]? = none → u ∈ S a))
  | [], _, j, a, h => by simp at h
  | [x], hc, 0, a, h => by
    simp at h; subst h
    exact ⟨fun b hb => by simp at hb, fun _ => hc⟩
  | [x], hc, j + 1, a, h => by simp at h
  | x :: y :: c, ⟨h1, h2, h3⟩, 0, a, h => by
    simp at h; subst h
    exact ⟨fun b hb => by simp at hb; subst hb; exact h1, fun hn => by simp at hn⟩
  | x :: y :: c, ⟨h1, h2, h3⟩, j + 1, a, h => by
    have := Ch.at h3 j a (by simpa using h)
    simpa using this
theorem Ch.memA {S : Nat → List Nat} {A : Nat → Prop} {u : Nat} : ∀ {c : List Nat} {x : Nat}, Ch S A u (x :: c) → ∀ y ∈ c, A y
  | [], x, _, y, h => by cases h
  | z :: c, x, ⟨h1, h2, h3⟩, y, h => by
    rcases List.mem_cons.1 h with e | e
    · subst e; exact h2
    · exact Ch.memA h3 y e
structure RefL (ow pr : List Int) (su : List (List Int)) (ws ss : List Int) (p : Int) (st : List Nat) (w : Nat) (lc : List Nat) : Prop where
  ls : st.length ≤ ow.length
  ll : lc.length + 1 ≤ ow.length
  wn : w < ow.length
  ch : Ch (Sf (tabA ow.length (movC ow ws ss su p))) (fun _ => True) w (st ++ w :: lc)
  hd : ∀ v, (st ++ w :: lc)[0]? = some v → ws.getD v 0 = p
  mx : ∀ x ∈ lc, zP pr x ≤ zP pr w
  pw : zP pr w % 2 ≠ p
theorem refL_of {ow pr ws ss : List Int} {su : List (List Int)} {p : Int} {w : Nat} {lc : List Nat} {stem : PV} (hl : LoopR (tabA ow.length (movC ow ws ss su p)) pr p w lc) (hs : StemR (tabA ow.length (movC ow ws ss su p)) ws p w stem) :
    ∃ st, ((stem = .nils ∧ st = []) ∨ stem = slI false true .i64 (nI st)) ∧ RefL ow pr su ws ss p st w lc := by
  obtain ⟨h1, h2, h3, h4⟩ := hl
  rw [tabA_len] at h1 h3
  have hc := h2.mono fun _ _ => trivial
  rcases hs with ⟨e, q⟩ | ⟨v, sc, e, q1, q2, q3, q4, q5⟩
  · exact ⟨[], .inl ⟨e, rfl⟩, by simp, h3, h1, hc, (fun v hv => by simp at hv; subst hv; exact q), h2.memA, h4⟩
  · rw [tabA_len] at q1 q5
    exact ⟨v :: sc, .inr e, q5, h3, h1, hc.app (fun _ => trivial) q4, (fun x hx => by simp at hx; subst hx; exact q2), h2.memA, h4⟩
section
variable {tab : FuncId → Option AF} (T : HasA tab)
include T
set_option maxHeartbeats 2000000 in
theorem refutes_p {M : Mem} {K : PV → Mem → Prop} {f1 o1 f2 o2 f3 o3 f4 o4 f5 o5 f6 o6 f7 o7 f8 o8 : Bool} {ow pr ws ss : List Int} {su : List (List Int)} {p : Int} {st lc : List Nat} {w : Nat} (B : Bnd ow pr su) (F : FormP ow pr su ws ss) (hp : p = 0 ∨ p = 1)
    (R : RefL ow pr su ws ss p st w lc) (hk : K (.bool true) M) :
    SemC tab 12 [gmP f1 o1 f2 o2 f3 o3 f4 o4 ow pr su, .agg [slI f5 o5 .u8 ws, slI f6 o6 .i64 ss], slI f7 o7 .i64 (nI st), slI f8 o8 .i64 (nI (w :: lc))] M K := by
  have V := valid_of F.c
  have n0 := V.n0
  have n1 := V.n1
  have hs := V.s
  have hpl := V.p
  have lw := F.lw
  have ls := F.ls
  have r1 := R.ls
  have r2 := R.ll
  have hwp : IntKind.i64.wrap p = p := wrap64 (by omega) (by omega)
  obtain ⟨al, hal⟩ : ∃ al, al = st ++ w :: lc := ⟨_, rfl⟩
  have lal : al.length = st.length + (lc.length + 1) := by rw [hal]; simp
  have hch := R.ch
  have hhd := R.hd
  rw [← hal] at hch hhd
  have hcat : (nI st).map (PV.int .i64) ++ (nI (w :: lc)).map (PV.int .i64) = (nI al).map (PV.int .i64) := by rw [hal]; simp [nI]
  have helt : ∀ j a, al[j]? = some a → a < ow.length := fun j a h => by
    obtain ⟨h1, h2⟩ := hch.at j a h
    cases hb : al[j + 1]? with
    | some b => exact (cer_tgt V F (h1 b hb)).1
    | none => exact (cer_tgt V F (h2 hb)).1
  obtain ⟨sI, hsI⟩ : ∃ sI, sI = nI st := ⟨_, rfl⟩
  obtain ⟨lI, hlI⟩ : ∃ lI, lI = nI (w :: lc) := ⟨_, rfl⟩
  have lsI : sI.length = st.length := by rw [hsI]; simp
  have llI : lI.length = lc.length + 1 := by rw [hlI]; simp
  have gl0 : lI[0]? = some (w : Int) := by rw [hlI]; rfl
  rw [← hsI, ← hlI] at hcat ⊢
  refine SemC_pure T.h12 (by simp only [PP, P1, P2, P3, P4, P5, P6, P7, P8, P9, P10, P11, P12, P13, P14, L1, P15, N1, N2, N3, N4, N5, N6, N7, I1, I2, I3, I4, I5, I6, I7, reduceIte, reduceCtorEq]) ?_
  simp only [af12, PP, P1, P2, P3, P4, P5, P6, P7, P8, P9, P10, P11, P12, P13, P14, L1, P15, N1, N2, N3, N4, N5, N6, N7, I1, I2, I3, I4, I5, I6, I7, reduceIte, reduceCtorEq]
  refine SemC_fn T.h17 ?_
  have b1 : sI.length * 8 ≤ 140737488355328 := by omega
  have b2 : sI.length ≤ 9223372036854775807 := by omega
  have b3 : (sI.length + lI.length) * 8 ≤ 140737488355328 := by omega
  have b4 : sI.length + lI.length ≤ 9223372036854775807 := by omega
  have b5 : 0 < lI.length := by omega
  have b6 : ¬ (lI.length : Int) = 0 := by omega
  have b7 : ¬ (ow.length : Int) < sI.length := by omega
  have b8 : IntKind.i64.wrap (2 * (ow.length : Int)) = 2 * ow.length := wrap64 (by omega) (by omega)
  have b9 : ¬ 2 * (ow.length : Int) < lI.length := by omega
  have hps : psub (sI.map (PV.int .i64)) 0 sI.length = sI.map (PV.int .i64) := psub_all _ _ (by simp)
  simp only [af17, PP, P1, P2, P3, P4, P5, P6, P7, P8, P9, P10, P11, P12, P13, P14, L1, P15, N1, N2, N3, N4, N5, N6, N7, I1, I2, I3, I4, I5, I6, I7, reduceIte, reduceCtorEq, b1, b2, b3, b4, b5, b6, b7, b8, b9, hps, true_or, hcat]
  rw [show sI.length + lI.length = al.length by omega]
  refine loop1 (fun (j : Nat) => j ≤ al.length)
    (fun j => [.junk, .junk, slI f7 o7 .i64 sI, slI f8 o8 .i64 lI, .ptr 0 0 0, .ptr 1 0 0, .junk, .junk, .junk, .ref 2 1 1 0 al.length, p64 j, .junk, .junk, .junk, .junk, .junk, .junk, .junk, .junk, .junk, .junk, .junk, .junk, .junk, .junk, .junk, .junk, .junk, .junk, .junk, .junk, .junk, .junk, .junk, .junk, .junk, .junk, .junk, .junk, .junk, .junk, .junk, .junk, .junk, .junk, .junk, .junk, .junk, .junk, .junk, .junk, .junk, .junk, .junk, .junk, .junk, .junk, .junk, .junk, .junk, .junk, .junk, .junk, .junk, .junk, .junk, .junk, .junk, .junk, .junk, .junk, .junk, .junk, .junk, .junk, .junk, .junk, .junk, .junk, .junk, .junk, .junk, .junk, .junk, .junk, .junk, .junk, .junk, .junk, .junk, .junk, .junk, .junk, .junk, .junk, .junk, .junk, .junk, .junk, .junk, .junk, .junk, .junk, .junk, .junk, .junk, .junk, .junk, .junk, .junk, .junk, .junk, .junk, .junk, .junk, .junk, .junk, .junk, .junk, .junk, .junk, .junk, .junk, .junk, .junk, .junk, .junk, .junk, .junk, .junk, .junk, .junk, .junk, .junk, .junk, .junk, .junk, .junk, .junk, .junk, .junk, .junk])
    (fun j => [.cells 0 0 [slI f1 o1 .u8 ow, slI f2 o2 .i64 pr, slR f3 o3 f4 o4 .i64 su], .cells 0 0 [slI f5 o5 .u8 ws, slI f6 o6 .i64 ss], .cells 1 0 ((nI al).map (PV.int .i64))])
    (fun j => al.length - j) 0 (by omega) (by simp only [PWeak_nil, PWeak_junk, PWeak_same, Int.cast_ofNat_Int, List.length_append, List.length_cons, List.length_nil, Nat.zero_add]) rfl ?_
  intro j hle ih
  refine SemW_go (by kernel_rfl) ?_
  simp only [PP, P1, P2, P3, P4, P5, P6, P7, P8, P9, P10, P11, P12, P13, P14, L1, P15, N1, N2, N3, N4, N5, N6, N7, I1, I2, I3, I4, I5, I6, I7, reduceIte, reduceCtorEq]
  refine QIf.intro (fun c => ?_) (fun c => ?_)
  · have hj : j < al.length := by omega
    have j0 : (0 : Int) ≤ j := by omega
    have hwk := wrap_succ (k := j) (by show _ < 1000000000000; omega)
    obtain ⟨a, ga⟩ := some_of (xs := al) (k := j) hj
    have han := helt j a ga
    have a0 : ¬ (a : Int) < 0 := by omega
    have an : ¬ (ow.length : Int) ≤ a := by omega
    simp only [PP, P1, P2, P3, P4, P5, P6, P7, P8, P9, P10, P11, P12, P13, P14, L1, P15, N1, N2, N3, N4, N5, N6, N7, I1, I2, I3, I4, I5, I6, I7, reduceIte, reduceCtorEq, c, j0, ga, a0, an, hwk]
    exact SemW_weak (ih (j + 1) (by omega) (by omega)) (by simp only [PWeak_nil, PWeak_junk, PWeak_same, Int.cast_ofNat_Int, List.length_append, List.length_cons, List.length_nil, Nat.zero_add])
  have hjl : j = al.length := by omega
  clear ih
  obtain ⟨a, ga⟩ := some_of (xs := al) (k := 0) (by omega)
  have han := helt 0 a ga
  have a0 : (0 : Int) ≤ a := by omega
  have an : (a : Int) < ow.length := by omega
  have hap := hhd a ga
  obtain ⟨y, gy⟩ := some_of (xs := ws) (k := a) (by omega)
  rw [getD_some gy] at hap
  subst hap
  have l0 : 0 < al.length := by omega
  simp only [PP, P1, P2, P3, P4, P5, P6, P7, P8, P9, P10, P11, P12, P13, P14, L1, P15, N1, N2, N3, N4, N5, N6, N7, I1, I2, I3, I4, I5, I6, I7, reduceIte, reduceCtorEq, c, ga, gy, a0, an, lw, l0, Int.le_refl]
  refine ⟨by omega, ?_⟩
  obtain ⟨pw, gpw⟩ := some_of (xs := pr) (k := w) (by have := R.wn; omega)
  have epw : zP pr w = pw := getD_some gpw
  have pw0 : 0 ≤ pw := (V.pri0 pw (List.mem_of_getElem? gpw)).1
  have hrem : pw.tmod 2 = pw % 2 := Int.tmod_eq_emod_of_nonneg pw0
  have hpw := R.pw
  rw [epw] at hpw
  clear hle c hjl
  refine loop2 (fun (j : Nat) (mx : Int) => j ≤ al.length ∧ (j ≤ st.length → mx = 0) ∧ (st.length < j → mx = pw))
    (fun j mx => [.junk, .junk, slI f7 o7 .i64 sI, slI f8 o8 .i64 lI, .ptr 0 0 0, .ptr 1 0 0, .junk, .junk, .junk, .ref 2 1 1 0 al.length, .junk, p8 y, p64 mx, p64 j, .junk, .junk, .junk, .junk, .junk, .junk, .junk, .junk, .junk, .junk, .junk, .junk, .junk, .junk, .junk, .junk, .junk, .junk, .junk, .junk, .junk, .junk, .junk, .junk, .junk, .junk, .junk, .junk, .junk, .junk, .junk, .junk, .junk, .junk, .junk, .junk, .junk, .junk, .junk, .junk, .junk, .junk, .junk, .junk, .junk, .junk, .junk, .junk, .junk, .junk, .junk, .junk, .junk, .junk, .junk, .junk, .junk, .junk, .junk, .junk, .junk, .junk, .junk, .junk, .junk, .junk, .junk, .junk, .junk, .junk, .junk, .junk, .junk, .junk, .junk, .junk, .junk, .junk, .junk, .junk, .junk, .junk, .junk, .junk, .junk, .junk, .junk, .junk, .junk, .junk, .junk, .junk, .junk, .junk, .junk, .junk, .junk, .junk, .junk, .junk, .junk, .junk, .junk, .junk, .junk, .junk, .junk, .junk, .junk, .junk, .junk, .junk, .junk, .junk, .junk, .junk, .junk, .junk, .junk, .junk, .junk, .junk, .junk, .junk, .junk, .junk, .junk, .junk])
    (fun j mx => [.cells 0 0 [slI f1 o1 .u8 ow, slI f2 o2 .i64 pr, slR f3 o3 f4 o4 .i64 su], .cells 0 0 [slI f5 o5 .u8 ws, slI f6 o6 .i64 ss], .cells 1 0 ((nI al).map (PV.int .i64))])
    (fun j mx => al.length - j) 0 0 ⟨by omega, fun _ => rfl, fun h => by omega⟩ (by simp only [PWeak_nil, PWeak_junk, PWeak_same, Int.cast_ofNat_Int, List.length_append, List.length_cons, List.length_nil, Nat.zero_add]) rfl ?_
  intro j mx ⟨hle, hm1, hm2⟩ ih
  refine SemW_go (by kernel_rfl) ?_
  simp only [PP, P1, P2, P3, P4, P5, P6, P7, P8, P9, P10, P11, P12, P13, P14, L1, P15, N1, N2, N3, N4, N5, N6, N7, I1, I2, I3, I4, I5, I6, I7, reduceIte, reduceCtorEq]
  refine QIf.intro (fun c => ?_) (fun c => ?_)
  · have hj : j < al.length := by omega
    have j0 : (0 : Int) ≤ j := by omega
    have hwk := wrap_succ (k := j) (by show _ < 1000000000000; omega)
    obtain ⟨a1, ga1⟩ := some_of (xs := al) (k := j) hj
    have han1 := helt j a1 ga1
    have a10 : (0 : Int) ≤ a1 := by omega
    have a1n : (a1 : Int) < ow.length := by omega
    obtain ⟨o, g1⟩ := some_of (xs := ow) (k := a1) han1
    obtain ⟨w1, g2⟩ := some_of (xs := ws) (k := a1) (by omega)
    obtain ⟨s, g3⟩ := some_of (xs := ss) (k := a1) (by omega)
    obtain ⟨r, g4⟩ := some_of (xs := su) (k := a1) (by omega)
    obtain ⟨q, g5⟩ := some_of (xs := pr) (k := a1) (by omega)
    have e1 : ow.getD a1 0 = o := getD_some g1
    have e2 : ws.getD a1 0 = w1 := getD_some g2
    have e3 : ss.getD a1 0 = s := getD_some g3
    have e4 : su.getD a1 [] = r := by simp [List.getD, g4]
    have e5 : zP pr a1 = q := getD_some g5
    have hq0 : 0 ≤ q := (V.pri0 q (List.mem_of_getElem? g5)).1
    have hmax : st.length ≤ j → max mx q = pw := fun h => by
      have h1 : (w :: lc)[j - st.length]? = some a1 := by
        rw [← ga1, hal, List.getElem?_append_right h]
      by_cases e : j = st.length
      · rw [e, Nat.sub_self] at h1
        simp at h1
        subst h1
        have := hm1 (by omega)
        omega
      · have h2 : a1 ∈ lc := by
          obtain ⟨i, hi⟩ : ∃ i, j - st.length = i + 1 := ⟨j - st.length - 1, by omega⟩
          rw [hi] at h1
          exact List.mem_of_getElem? (by simpa using h1)
        have h3 := R.mx a1 h2
        have := hm2 (by omega)
        omega
    obtain ⟨c1, c2⟩ := hch.at j a1 ga1
    have edge : ∀ b : Nat, b ∈ Sf (tabA ow.length (movC ow ws ss su y)) a1 → (b : Int) ∈ r ∧ (o = y → w1 = y → s = (b : Int)) := fun b hb => by
      obtain ⟨t1, t2, t3, t4⟩ := cer_tgt V F hb
      refine ⟨?_, fun h1 h2 => by have := t4 (by rw [e1]; exact h1) (by rw [e2]; exact h2); rwa [e3] at this⟩
      have := sf_mem V han1 (x := (b : Int)) (by omega) (by simpa using t3)
      rwa [e4] at this
    have lI0 : (0 : Int) < lI.length := by omega
    simp only [PP, P1, P2, P3, P4, P5, P6, P7, P8, P9, P10, P11, P12, P13, P14, L1, P15, N1, N2, N3, N4, N5, N6, N7, I1, I2, I3, I4, I5, I6, I7, reduceIte, reduceCtorEq, c, ga1, j0, gl0, hwk, lI0, Int.le_refl]
    refine QIf.intro (fun d => ?_) (fun d => ?_)
    · have hj1 : j + 1 < al.length := by omega
      have k1 : (0 : Int) ≤ ((j + 1 : Nat) : Int) := by omega
      obtain ⟨b, gb⟩ := some_of (xs := al) (k := j + 1) hj1
      obtain ⟨m1, m2⟩ := edge b (c1 b gb)
      simp only [PP, P1, P2, P3, P4, P5, P6, P7, P8, P9, P10, P11, P12, P13, P14, L1, P15, N1, N2, N3, N4, N5, N6, N7, I1, I2, I3, I4, I5, I6, I7, reduceIte, reduceCtorEq, d, k1, gb, a10, a1n, g4, hs, hwk]
      refine hasInt_p T (B.r r (List.mem_of_getElem? g4)) ?_
      by_cases q1 : o = y
      · by_cases q2 : w1 = y
        · have q3 := m2 q1 q2
          simp only [PP, P1, P2, P3, P4, P5, P6, P7, P8, P9, P10, P11, P12, P13, P14, L1, P15, N1, N2, N3, N4, N5, N6, N7, I1, I2, I3, I4, I5, I6, I7, reduceIte, reduceCtorEq, m1, q1, q2, q3, a10, a1n, g1, g2, g3, lw, ls]
          refine QIf.intro (fun z => ?_) (fun z => ?_)
          · simp only [PP, P1, P2, P3, P4, P5, P6, P7, P8, P9, P10, P11, P12, P13, P14, L1, P15, N1, N2, N3, N4, N5, N6, N7, I1, I2, I3, I4, I5, I6, I7, reduceIte, reduceCtorEq, z, a10, a1n, g5, hpl, hwk]
            exact SemW_to (ih (j + 1) (max mx q) ⟨by omega, fun h => by omega, fun _ => hmax (by omega)⟩ (by omega)) (by simp only [PWeak_nil, PWeak_junk, PWeak_same, Int.cast_ofNat_Int, List.length_append, List.length_cons, List.length_nil, Nat.zero_add]) rfl
          · simp only [PP, P1, P2, P3, P4, P5, P6, P7, P8, P9, P10, P11, P12, P13, P14, L1, P15, N1, N2, N3, N4, N5, N6, N7, I1, I2, I3, I4, I5, I6, I7, reduceIte, reduceCtorEq, z, hwk]
            exact SemW_weak (ih (j + 1) mx ⟨by omega, fun h => hm1 (by omega), fun h => by omega⟩ (by omega)) (by simp only [PWeak_nil, PWeak_junk, PWeak_same, Int.cast_ofNat_Int, List.length_append, List.length_cons, List.length_nil, Nat.zero_add])
        · simp only [PP, P1, P2, P3, P4, P5, P6, P7, P8, P9, P10, P11, P12, P13, P14, L1, P15, N1, N2, N3, N4, N5, N6, N7, I1, I2, I3, I4, I5, I6, I7, reduceIte, reduceCtorEq, m1, q1, q2, a10, a1n, g1, g2, lw]
          refine QIf.intro (fun z => ?_) (fun z => ?_)
          · simp only [PP, P1, P2, P3, P4, P5, P6, P7, P8, P9, P10, P11, P12, P13, P14, L1, P15, N1, N2, N3, N4, N5, N6, N7, I1, I2, I3, I4, I5, I6, I7, reduceIte, reduceCtorEq, z, a10, a1n, g5, hpl, hwk]
            exact SemW_to (ih (j + 1) (max mx q) ⟨by omega, fun h => by omega, fun _ => hmax (by omega)⟩ (by omega)) (by simp only [PWeak_nil, PWeak_junk, PWeak_same, Int.cast_ofNat_Int, List.length_append, List.length_cons, List.length_nil, Nat.zero_add]) rfl
          · simp only [PP, P1, P2, P3, P4, P5, P6, P7, P8, P9, P10, P11, P12, P13, P14, L1, P15, N1, N2, N3, N4, N5, N6, N7, I1, I2, I3, I4, I5, I6, I7, reduceIte, reduceCtorEq, z, hwk]
            exact SemW_weak (ih (j + 1) mx ⟨by omega, fun h => hm1 (by omega), fun h => by omega⟩ (by omega)) (by simp only [PWeak_nil, PWeak_junk, PWeak_same, Int.cast_ofNat_Int, List.length_append, List.length_cons, List.length_nil, Nat.zero_add])
      · simp only [PP, P1, P2, P3, P4, P5, P6, P7, P8, P9, P10, P11, P12, P13, P14, L1, P15, N1, N2, N3, N4, N5, N6, N7, I1, I2, I3, I4, I5, I6, I7, reduceIte, reduceCtorEq, m1, q1, a10, a1n, g1]
        refine QIf.intro (fun z => ?_) (fun z => ?_)
        · simp only [PP, P1, P2, P3, P4, P5, P6, P7, P8, P9, P10, P11, P12, P13, P14, L1, P15, N1, N2, N3, N4, N5, N6, N7, I1, I2, I3, I4, I5, I6, I7, reduceIte, reduceCtorEq, z, a10, a1n, g5, hpl, hwk]
          exact SemW_to (ih (j + 1) (max mx q) ⟨by omega, fun h => by omega, fun _ => hmax (by omega)⟩ (by omega)) (by simp only [PWeak_nil, PWeak_junk, PWeak_same, Int.cast_ofNat_Int, List.length_append, List.length_cons, List.length_nil, Nat.zero_add]) rfl
        · simp only [PP, P1, P2, P3, P4, P5, P6, P7, P8, P9, P10, P11, P12, P13, P14, L1, P15, N1, N2, N3, N4, N5, N6, N7, I1, I2, I3, I4, I5, I6, I7, reduceIte, reduceCtorEq, z, hwk]
          exact SemW_weak (ih (j + 1) mx ⟨by omega, fun h => hm1 (by omega), fun h => by omega⟩ (by omega)) (by simp only [PWeak_nil, PWeak_junk, PWeak_same, Int.cast_ofNat_Int, List.length_append, List.length_cons, List.length_nil, Nat.zero_add])
    · have gb : al[j + 1]? = none := List.getElem?_eq_none (by omega)
      obtain ⟨m1, m2⟩ := edge w (c2 gb)
      simp only [PP, P1, P2, P3, P4, P5, P6, P7, P8, P9, P10, P11, P12, P13, P14, L1, P15, N1, N2, N3, N4, N5, N6, N7, I1, I2, I3, I4, I5, I6, I7, reduceIte, reduceCtorEq, d, a10, a1n, g4, hs]
      refine hasInt_p T (B.r r (List.mem_of_getElem? g4)) ?_
      by_cases q1 : o = y
      · by_cases q2 : w1 = y
        · have q3 := m2 q1 q2
          simp only [PP, P1, P2, P3, P4, P5, P6, P7, P8, P9, P10, P11, P12, P13, P14, L1, P15, N1, N2, N3, N4, N5, N6, N7, I1, I2, I3, I4, I5, I6, I7, reduceIte, reduceCtorEq, m1, q1, q2, q3, a10, a1n, g1, g2, g3, lw, ls]
          refine QIf.intro (fun z => ?_) (fun z => ?_)
          · simp only [PP, P1, P2, P3, P4, P5, P6, P7, P8, P9, P10, P11, P12, P13, P14, L1, P15, N1, N2, N3, N4, N5, N6, N7, I1, I2, I3, I4, I5, I6, I7, reduceIte, reduceCtorEq, z, a10, a1n, g5, hpl, hwk]
            exact SemW_to (ih (j + 1) (max mx q) ⟨by omega, fun h => by omega, fun _ => hmax (by omega)⟩ (by omega)) (by simp only [PWeak_nil, PWeak_junk, PWeak_same, Int.cast_ofNat_Int, List.length_append, List.length_cons, List.length_nil, Nat.zero_add]) rfl
          · simp only [PP, P1, P2, P3, P4, P5, P6, P7, P8, P9, P10, P11, P12, P13, P14, L1, P15, N1, N2, N3, N4, N5, N6, N7, I1, I2, I3, I4, I5, I6, I7, reduceIte, reduceCtorEq, z, hwk]
            exact SemW_weak (ih (j + 1) mx ⟨by omega, fun h => hm1 (by omega), fun h => by omega⟩ (by omega)) (by simp only [PWeak_nil, PWeak_junk, PWeak_same, Int.cast_ofNat_Int, List.length_append, List.length_cons, List.length_nil, Nat.zero_add])
        · simp only [PP, P1, P2, P3, P4, P5, P6, P7, P8, P9, P10, P11, P12, P13, P14, L1, P15, N1, N2, N3, N4, N5, N6, N7, I1, I2, I3, I4, I5, I6, I7, reduceIte, reduceCtorEq, m1, q1, q2, a10, a1n, g1, g2, lw]
          refine QIf.intro (fun z => ?_) (fun z => ?_)
          · simp only [PP, P1, P2, P3, P4, P5, P6, P7, P8, P9, P10, P11, P12, P13, P14, L1, P15, N1, N2, N3, N4, N5, N6, N7, I1, I2, I3, I4, I5, I6, I7, reduceIte, reduceCtorEq, z, a10, a1n, g5, hpl, hwk]
            exact SemW_to (ih (j + 1) (max mx q) ⟨by omega, fun h => by omega, fun _ => hmax (by omega)⟩ (by omega)) (by simp only [PWeak_nil, PWeak_junk, PWeak_same, Int.cast_ofNat_Int, List.length_append, List.length_cons, List.length_nil, Nat.zero_add]) rfl
          · simp only [PP, P1, P2, P3, P4, P5, P6, P7, P8, P9, P10, P11, P12, P13, P14, L1, P15, N1, N2, N3, N4, N5, N6, N7, I1, I2, I3, I4, I5, I6, I7, reduceIte, reduceCtorEq, z, hwk]
            exact SemW_weak (ih (j + 1) mx ⟨by omega, fun h => hm1 (by omega), fun h => by omega⟩ (by omega)) (by simp only [PWeak_nil, PWeak_junk, PWeak_same, Int.cast_ofNat_Int, List.length_append, List.length_cons, List.length_nil, Nat.zero_add])
      · simp only [PP, P1, P2, P3, P4, P5, P6, P7, P8, P9, P10, P11, P12, P13, P14, L1, P15, N1, N2, N3, N4, N5, N6, N7, I1, I2, I3, I4, I5, I6, I7, reduceIte, reduceCtorEq, m1, q1, a10, a1n, g1]
        refine QIf.intro (fun z => ?_) (fun z => ?_)
        · simp only [PP, P1, P2, P3, P4, P5, P6, P7, P8, P9, P10, P11, P12, P13, P14, L1, P15, N1, N2, N3, N4, N5, N6, N7, I1, I2, I3, I4, I5, I6, I7, reduceIte, reduceCtorEq, z, a10, a1n, g5, hpl, hwk]
          exact SemW_to (ih (j + 1) (max mx q) ⟨by omega, fun h => by omega, fun _ => hmax (by omega)⟩ (by omega)) (by simp only [PWeak_nil, PWeak_junk, PWeak_same, Int.cast_ofNat_Int, List.length_append, List.length_cons, List.length_nil, Nat.zero_add]) rfl
        · simp only [PP, P1, P2, P3, P4, P5, P6, P7, P8, P9, P10, P11, P12, P13, P14, L1, P15, N1, N2, N3, N4, N5, N6, N7, I1, I2, I3, I4, I5, I6, I7, reduceIte, reduceCtorEq, z, hwk]
          exact SemW_weak (ih (j + 1) mx ⟨by omega, fun h => hm1 (by omega), fun h => by omega⟩ (by omega)) (by simp only [PWeak_nil, PWeak_junk, PWeak_same, Int.cast_ofNat_Int, List.length_append, List.length_cons, List.length_nil, Nat.zero_add])
  · have hjl : j = al.length := by omega
    have hm := hm2 (by omega)
    subst hm
    simp only [PP, P1, P2, P3, P4, P5, P6, P7, P8, P9, P10, P11, P12, P13, P14, L1, P15, N1, N2, N3, N4, N5, N6, N7, I1, I2, I3, I4, I5, I6, I7, reduceIte, reduceCtorEq, c, prem (show (2 : Int) ≠ 0 by decide), hrem, hwp, hpw]
    exact hk
end
end Go.Am.Ar
set_option linter.unusedVariables false
set_option linter.unusedSimpArgs false
namespace Go.Am.Ar
abbrev gameTy : Ty := .pair (.slice (.int .u8)) (.pair (.slice (.int .i64)) (.pair (.slice (.slice (.int .i64))) .unit))
structure Nums (ow pr : List Int) (su : List (List Int)) : Prop where
  o : ∀ x ∈ ow, 0 ≤ x ∧ x ≤ 255
  p : ∀ x ∈ pr, -9223372036854775808 ≤ x ∧ x ≤ 9223372036854775807
  s : ∀ r ∈ su, ∀ x ∈ r, -9223372036854775808 ≤ x ∧ x ≤ 9223372036854775807
  lo : ow.length ≤ 9223372036854775807
  lp : pr.length ≤ 9223372036854775807
  ls : su.length ≤ 9223372036854775807
  lr : ∀ r ∈ su, r.length ≤ 9223372036854775807
theorem arg_game {v : AV} {h : H} (hs : ShV gameTy v h) : ∃ (ow pr : List Int) (su : List (List Int)), RepV (wH h) (gmP false false false false false false false false ow pr su) v ∧ Nums ow pr su := by
  obtain ⟨avs, hs, rfl⟩ := hs
  obtain ⟨c1, c2, rfl, h1, c3, c4, rfl, h2, c5, c6, rfl, h3, h4⟩ := hs
  have h4 : c6 = [] := h4
  subst h4
  obtain ⟨vo, ow, rfl, p1, q1, r1⟩ := sh_intsP h1
  obtain ⟨vp, pr, rfl, p2, q2, r2⟩ := sh_intsP h2
  obtain ⟨vs, su, rfl, p3, q3, r3⟩ := sh_rowsP h3
  refine ⟨ow, pr, su, ?_, ⟨r1, r2, fun r hr => (r3 r hr).2, q1, q2, q3, fun r hr => (r3 r hr).1⟩⟩
  have := RepL.cons p1 (.cons p2 (.cons p3 (.nil (wH h))))
  exact .agg this.len this.get
theorem run_of_C {tab : FuncId → Option AF} {g : FuncId} {args : List AV} {h : H} (hc : C (lim tab) g args h fun v _ => v = .bool true) : ∃ n h', (run tab n).call g args h = some (.bool true, h') := by
  unfold C at hc
  obtain ⟨v, h', he, rfl⟩ := hc
  obtain ⟨n, hn⟩ := (lim_call_iff tab).1 he
  exact ⟨n, h', hn⟩
theorem shVs2 {A B : Ty} {args : List AV} {h : H} (hs : ShVs [A, B] args h) : ∃ a b, args = [a, b] ∧ ShV A a h ∧ ShV B b h := by
  match args, hs with
  | [a, b], ⟨h1, h2, _⟩ => exact ⟨a, b, rfl, h1, h2⟩
end Go.Am.Ar
set_option linter.unusedVariables false
set_option linter.unusedSimpArgs false
set_option maxRecDepth 10000
namespace Go.Am.Ar
open Go.Am renaming pchk → P1, pold → P2, PKNo → P3, ppack → P4, PObj.under → P5, pput → P6, ptset → P7, ptget → P8, pev → P9, ofAV → P10, ofAV1 → P11, ppad → P12, pfill → P13, prepl → P14, AO.effect → P15
open List renaming replicate → L1
open Nat renaming reduceAdd → N1, reduceSub → N2, reduceMul → N3, reduceLT → N4, reduceLeDiff → N5, reduceEqDiff → N6, reduceBEq → N7
open Int renaming reduceToNat → I1, reduceLT → I2, reduceLE → I3, reduceEq → I4, reduceAdd → I5, reduceSub → I6, reduceNeg → I7
abbrev solTy : Ty := .pair (.slice (.int .u8)) (.pair (.slice (.int .i64)) .unit)
theorem arg_sol {v : AV} {h : H} (hs : ShV solTy v h) : ∃ (ws ss : List Int), RepV (wH h) (.agg [slI false false .u8 ws, slI false false .i64 ss]) v ∧ ∀ x ∈ ws, 0 ≤ x ∧ x ≤ 255 := by
  obtain ⟨avs, hs, rfl⟩ := hs
  obtain ⟨c1, c2, rfl, h1, c3, c4, rfl, h2, h4⟩ := hs
  have h4 : c4 = [] := h4
  subst h4
  obtain ⟨vo, ws, rfl, p1, q1, r1⟩ := sh_intsP h1
  obtain ⟨vp, ss, rfl, p2, q2, r2⟩ := sh_intsP h2
  refine ⟨ws, ss, ?_, r1⟩
  have := RepL.cons p1 (.cons p2 (.nil (wH h)))
  exact .agg this.len this.get
section
variable {tab : FuncId → Option AF} (T : HasA tab)
include T
theorem long33_p {M : Mem} {K : PV → Mem → Prop} {f1 o1 f2 o2 f3 o3 f4 o4 f5 o5 f6 o6 : Bool} {ow pr ws ss : List Int} {su : List (List Int)} (hk : ∀ b : Bool, (b = false → longM ow pr su [ss] = false ∧ ws.length ≤ 40) → K (.bool b) M) :
    SemC tab 8 [gmP f1 o1 f2 o2 f3 o3 f4 o4 ow pr su, .agg [slI f5 o5 .u8 ws, slI f6 o6 .i64 ss]] M K := by
  refine SemC_pure T.h8 (by simp only [PP, P1, P2, P3, P4, P5, P6, P7, P8, P9, P10, P11, P12, P13, P14, L1, P15, N1, N2, N3, N4, N5, N6, N7, I1, I2, I3, I4, I5, I6, I7, reduceIte, reduceCtorEq]) ?_
  simp only [af8, PP, P1, P2, P3, P4, P5, P6, P7, P8, P9, P10, P11, P12, P13, P14, L1, P15, N1, N2, N3, N4, N5, N6, N7, I1, I2, I3, I4, I5, I6, I7, reduceIte, reduceCtorEq]
  refine long_p T (ls := [ss]) (f5 := true) (o5 := true) (f6 := f6) (o6 := o6) (by show 1 < 1000000000000; omega) ?_
  simp only [PP, P1, P2, P3, P4, P5, P6, P7, P8, P9, P10, P11, P12, P13, P14, L1, P15, N1, N2, N3, N4, N5, N6, N7, I1, I2, I3, I4, I5, I6, I7, reduceIte, reduceCtorEq]
  cases hl : longM ow pr su [ss] with
  | true =>
    simp only [PP, P1, P2, P3, P4, P5, P6, P7, P8, P9, P10, P11, P12, P13, P14, L1, P15, N1, N2, N3, N4, N5, N6, N7, I1, I2, I3, I4, I5, I6, I7, reduceIte, reduceCtorEq]
    exact hk true fun h => by cases h
  | false =>
    simp only [PP, P1, P2, P3, P4, P5, P6, P7, P8, P9, P10, P11, P12, P13, P14, L1, P15, N1, N2, N3, N4, N5, N6, N7, I1, I2, I3, I4, I5, I6, I7, reduceIte, reduceCtorEq]
    by_cases c : (40 : Int) < ws.length
    · rw [decide_eq_true c]
      exact hk true fun h => by cases h
    · rw [decide_eq_false c]
      exact hk false fun h => ⟨hl, by omega⟩
end
end Go.Am.Ar
set_option linter.unusedVariables false
set_option linter.unusedSimpArgs false
set_option maxRecDepth 10000
namespace Go.Am.Ar
section
variable {tab : FuncId → Option AF} (T : HasA tab)
include T
theorem overInts_o {w : PWd} {h h1 : H} (hw : ∀ b o, w.imm b = some o → b < h.next) {f : Bool} {xs : List Int} {v : AV} (hr : RepV w (slI f true .i64 xs) v) (hm : xs.length < big) (hi : Ovr w h h1) {Q : AV → H → Prop} (hq : ∀ h2, Ovr w h h2 → Kp w h1 h2 → Q (.tuple []) h2) :
    C (lim tab) 13 [v] h1 Q := by
  have hcs : cS 12 [0, 2] = [1, 3, 4, 5, 6, 7, 8, 9, 10, 11] := rfl
  rw [C_fn T.h13]
  simp only [af13, W_skip, W_ret, W_regionD, WD_nil, WD_none, KPutD_eq, chkOk_nil, true_and, AO.effect, W_exit, W_region, W_seq, W_block, W_cond, PCondW_true, PCondW_false, PCondW_dec, PGuardW_tt, PGuardW_ff, PGuardW_tf, PGuardW_ft, PGuardW_tuple, PGuardW_dec_t, PGuardW_dec_f, pickV_true, pickV_false, pickV_dec, KSeq_eq, KBlock_eq, WL_eq, WO_nil, WO_none, WO_some, KPut_eq, KCall_eq, KRes_eq, KFalse, WS_call, WS_move, WS_pick, WS_alloc, WS_box, WS_build, WS_buildSlice, WS_load, WS_loadAgg, WS_store, WS_nilCheck, WS_bin, WS_eqB, WS_isNil, WS_eqCells, WS_un, WS_convInt, WS_mkFunc, WS_makeMap, WS_makeSlice, WS_slice, WS_fieldAddr, WS_field, WS_fieldN, WS_indexAddr, WS_indexAddrA, WS_index, WS_extract, WS_len, WS_append, WS_max, PPtr_ptr, PInt_int, PBool_bool, PSome_some, PAgg_agg, PTuple_tuple, PSlice_slice, PSlice_nil, PLen_nil, PLen_slice, PCall_func, put, tset, tget, ev, bnd, scrub, padTo, aresAll, ares, packRes, abin_add, abin_sub, abin_mul, abin_eql, abin_neq, abin_lss, abin_leq, abin_gtr, abin_geq, aun_not, maxV_two, List.length_cons, List.length_nil, List.replicate, List.cons_append, List.nil_append, List.append_nil, List.map_cons, List.map_nil, Nat.reduceAdd, Nat.reduceSub, ite_true, ite_false, if_true, if_false, Bool.false_eq_true, reduceIte, decide_true, decide_false, Bool.not_true, Bool.not_false, beq_self_eq_true, List.length_map, ne_eq, not_true_eq_false, not_false_eq_true]
  rw [W_scrub]
  simp only [hcs, scrub, tset]
  rcases ov_sl hr with ⟨rfl, hx⟩ | ⟨fl, b, off, ver, bcs, rfl, e1, e2, e3, e4⟩
  · rw [W_round]
    have hlt : ¬ (0 : Int) < 0 := by omega
    simp only [W_skip, W_ret, W_regionD, WD_nil, WD_none, KPutD_eq, chkOk_nil, true_and, AO.effect, W_exit, W_region, W_seq, W_block, W_cond, PCondW_true, PCondW_false, PCondW_dec, PGuardW_tt, PGuardW_ff, PGuardW_tf, PGuardW_ft, PGuardW_tuple, PGuardW_dec_t, PGuardW_dec_f, pickV_true, pickV_false, pickV_dec, KSeq_eq, KBlock_eq, WL_eq, WO_nil, WO_none, WO_some, KPut_eq, KCall_eq, KRes_eq, KFalse, WS_call, WS_move, WS_pick, WS_alloc, WS_box, WS_build, WS_buildSlice, WS_load, WS_loadAgg, WS_store, WS_nilCheck, WS_bin, WS_eqB, WS_isNil, WS_eqCells, WS_un, WS_convInt, WS_mkFunc, WS_makeMap, WS_makeSlice, WS_slice, WS_fieldAddr, WS_field, WS_fieldN, WS_indexAddr, WS_indexAddrA, WS_index, WS_extract, WS_len, WS_append, WS_max, PPtr_ptr, PInt_int, PBool_bool, PSome_some, PAgg_agg, PTuple_tuple, PSlice_slice, PSlice_nil, PLen_nil, PLen_slice, PCall_func, put, tset, tget, ev, bnd, scrub, padTo, aresAll, ares, packRes, abin_add, abin_sub, abin_mul, abin_eql, abin_neq, abin_lss, abin_leq, abin_gtr, abin_geq, aun_not, maxV_two, List.length_cons, List.length_nil, List.replicate, List.cons_append, List.nil_append, List.append_nil, List.map_cons, List.map_nil, Nat.reduceAdd, Nat.reduceSub, ite_true, ite_false, if_true, if_false, Bool.false_eq_true, reduceIte, decide_true, decide_false, Bool.not_true, Bool.not_false, beq_self_eq_true, List.length_map, ne_eq, not_true_eq_false, not_false_eq_true, hlt]
    exact hq h1 hi (.refl w h1)
  · refine (?_ : ∀ (m k : Nat) (h' : H), k + m = xs.length → Ovr w h h' → Kp w h1 h' → W (lim tab) (.loop ?sc ?x) [.slice fl 1 b off xs.length, .junk, i64 k, .junk, .junk, .junk, .junk, .junk, .junk, .junk, .junk, .junk] h' ?q1 ?q2 ?q3) xs.length 0 h1 (by simp) hi (.refl w h1)
    intro m
    induction m with
    | zero =>
      intro k h' hk hv hkp
      rw [W_round]
      have hlt : ¬ (k : Int) < xs.length := by omega
      simp only [W_skip, W_ret, W_regionD, WD_nil, WD_none, KPutD_eq, chkOk_nil, true_and, AO.effect, W_exit, W_region, W_seq, W_block, W_cond, PCondW_true, PCondW_false, PCondW_dec, PGuardW_tt, PGuardW_ff, PGuardW_tf, PGuardW_ft, PGuardW_tuple, PGuardW_dec_t, PGuardW_dec_f, pickV_true, pickV_false, pickV_dec, KSeq_eq, KBlock_eq, WL_eq, WO_nil, WO_none, WO_some, KPut_eq, KCall_eq, KRes_eq, KFalse, WS_call, WS_move, WS_pick, WS_alloc, WS_box, WS_build, WS_buildSlice, WS_load, WS_loadAgg, WS_store, WS_nilCheck, WS_bin, WS_eqB, WS_isNil, WS_eqCells, WS_un, WS_convInt, WS_mkFunc, WS_makeMap, WS_makeSlice, WS_slice, WS_fieldAddr, WS_field, WS_fieldN, WS_indexAddr, WS_indexAddrA, WS_index, WS_extract, WS_len, WS_append, WS_max, PPtr_ptr, PInt_int, PBool_bool, PSome_some, PAgg_agg, PTuple_tuple, PSlice_slice, PSlice_nil, PLen_nil, PLen_slice, PCall_func, put, tset, tget, ev, bnd, scrub, padTo, aresAll, ares, packRes, abin_add, abin_sub, abin_mul, abin_eql, abin_neq, abin_lss, abin_leq, abin_gtr, abin_geq, aun_not, maxV_two, List.length_cons, List.length_nil, List.replicate, List.cons_append, List.nil_append, List.append_nil, List.map_cons, List.map_nil, Nat.reduceAdd, Nat.reduceSub, ite_true, ite_false, if_true, if_false, Bool.false_eq_true, reduceIte, decide_true, decide_false, Bool.not_true, Bool.not_false, beq_self_eq_true, List.length_map, ne_eq, not_true_eq_false, not_false_eq_true, hlt]
      exact hq h' hv hkp
    | succ m ih =>
      intro k h' hk hv hkp
      rw [W_round]
      have hlt : (k : Int) < xs.length := by omega
      have h0 : (0 : Int) ≤ k := by omega
      have hwr := wrap_succ (k := k) (by omega)
      obtain ⟨y, z, hy, hz, hrz⟩ := e4 k (by simp; omega)
      obtain ⟨kz, nz, rfl⟩ := ov_int hy hrz
      obtain ⟨h2, hp, hv2, hkp2⟩ := hv.put hw e1 e2 (getSome_lt hz) (i64 (-77)) rfl ⟨_, _, hz⟩
      simp only [W_skip, W_ret, W_regionD, WD_nil, WD_none, KPutD_eq, chkOk_nil, true_and, AO.effect, W_exit, W_region, W_seq, W_block, W_cond, PCondW_true, PCondW_false, PCondW_dec, PGuardW_tt, PGuardW_ff, PGuardW_tf, PGuardW_ft, PGuardW_tuple, PGuardW_dec_t, PGuardW_dec_f, pickV_true, pickV_false, pickV_dec, KSeq_eq, KBlock_eq, WL_eq, WO_nil, WO_none, WO_some, KPut_eq, KCall_eq, KRes_eq, KFalse, WS_call, WS_move, WS_pick, WS_alloc, WS_box, WS_build, WS_buildSlice, WS_load, WS_loadAgg, WS_store, WS_nilCheck, WS_bin, WS_eqB, WS_isNil, WS_eqCells, WS_un, WS_convInt, WS_mkFunc, WS_makeMap, WS_makeSlice, WS_slice, WS_fieldAddr, WS_field, WS_fieldN, WS_indexAddr, WS_indexAddrA, WS_index, WS_extract, WS_len, WS_append, WS_max, PPtr_ptr, PInt_int, PBool_bool, PSome_some, PAgg_agg, PTuple_tuple, PSlice_slice, PSlice_nil, PLen_nil, PLen_slice, PCall_func, put, tset, tget, ev, bnd, scrub, padTo, aresAll, ares, packRes, abin_add, abin_sub, abin_mul, abin_eql, abin_neq, abin_lss, abin_leq, abin_gtr, abin_geq, aun_not, maxV_two, List.length_cons, List.length_nil, List.replicate, List.cons_append, List.nil_append, List.append_nil, List.map_cons, List.map_nil, Nat.reduceAdd, Nat.reduceSub, ite_true, ite_false, if_true, if_false, Bool.false_eq_true, reduceIte, decide_true, decide_false, Bool.not_true, Bool.not_false, beq_self_eq_true, List.length_map, ne_eq, not_true_eq_false, not_false_eq_true, pidx_slice, hlt, h0, true_and, and_self, Int.toNat_natCast, Nat.mul_one, AV.cells, hp, hwr]
      rw [W_scrub]
      simp only [hcs, scrub, tset]
      exact ih (k + 1) h2 (by omega) hv2 (hkp.trans hkp2)
theorem overInts_ok {f : Bool} {xs : List Int} (hm : xs.length < big) : OverOk tab 13 [slI f true .i64 xs] := by
  intro w h h1 args' hw ha hv
  match args', ha with
  | [v], ha => exact overInts_o T hw ha.hd hm hv fun h2 p q => ⟨p, q⟩
  | [], ha => exact absurd ha.len (by simp)
  | _ :: _ :: _, ha => exact absurd ha.len (by simp)
end
end Go.Am.Ar

