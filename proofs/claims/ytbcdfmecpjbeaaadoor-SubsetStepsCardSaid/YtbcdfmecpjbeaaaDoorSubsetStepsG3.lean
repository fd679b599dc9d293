/- The law that words are run one after the other, for all arguments. -/
import Derived.Test.YtbcdfmecpjbeaaaDoorSubsetStepsG2
set_option linter.unusedVariables false
set_option linter.unusedSimpArgs false
set_option maxRecDepth 10000
namespace Go.Am.Ar
open Go.Am renaming pchk → P1, pold → P2, PKNo → P3, ppack → P4, PObj.under → P5, pput → P6, ptset → P7, ptget → P8, pev → P9, ofAV → P10, ofAV1 → P11, ppad → P12, pfill → P13, prepl → P14, AO.effect → P15
open List renaming replicate → L1
open Nat renaming reduceAdd → N1, reduceSub → N2, reduceMul → N3, reduceLT → N4, reduceLeDiff → N5, reduceEqDiff → N6, reduceBEq → N7
open Int renaming reduceToNat → I1, reduceLT → I2, reduceLE → I3, reduceEq → I4, reduceAdd → I5, reduceSub → I6, reduceNeg → I7
theorem wordE_part {v : Int} {a b : List Int} (h : wordE v (a ++ b) = 0) : wordE v a = 0 ∧ wordE v b = 0 := by
  obtain ⟨h1, h2⟩ := wordE_zero h
  rw [List.length_append] at h1
  have z : ∀ c : List Int, c.length ≤ 64 → (∀ x ∈ c, x < 2 ^ v.toNat) → wordE v c = 0 := fun c l1 l2 => by
    unfold wordE
    rw [if_neg (by omega), if_neg (by rw [Bool.not_eq_true, List.any_eq_false]; intro x hx; have := l2 x hx; simp only [decide_eq_true_eq]; omega)]
  exact ⟨z a (by omega) fun x hx => h2 x (List.mem_append_left _ hx), z b (by omega) fun x hx => h2 x (List.mem_append_right _ hx)⟩
theorem OkD.from {D : DF} (C : OkD D) {s : Int} (s0 : 0 ≤ s) (s1 : s < D.nx.length) : OkD { D with st := s } := ⟨C.v0, C.v6, C.n0, C.n1, C.f, s0, s1, C.r⟩
theorem len_le {w : PWd} {k : IntKind} {v : List Int} {x : AV} (hr : RepV w (slI false false k v) x) (hz : ∀ fl sz b o n, x = AV.slice fl sz b o n → n ≤ 140737488351232) : v.length ≤ 140737488351232 := by
  have hr : RepV w (.sl false false 1 v.length (v.map (PV.int k))) x := hr
  generalize hl : v.length = n at hr ⊢
  generalize v.map (PV.int k) = cs at hr
  cases hr with
  | slN => omega
  | sl h1 h2 h3 h4 h5 h6 h7 => exact hz _ _ _ _ _ rfl
section
variable {tab : FuncId → Option AF} (T : HasA tab)
include T
set_option maxHeartbeats 1000000 in
theorem steps_p {D : DF} {v w : List Int} (A : NumD D) (hv : ∀ x ∈ v, 0 ≤ x ∧ x ≤ 255) (hw : ∀ x ∈ w, 0 ≤ x ∧ x ≤ 255) (lv : v.length ≤ 140737488351232) (lw : w.length ≤ 140737488351232) :
    SemC tab 5 [.agg (dfC false false false false false false D), slI false false .u8 v, slI false false .u8 w] [] fun r _ => r = .bool true := by
  refine SemC_sem T.h5 ?_
  simp only [af5]
  refine SemW_seq (SemW_of ?_)
  simp only [PP, P1, P2, P3, P4, P5, P6, P7, P8, P9, P10, P11, P12, P13, P14, L1, P15, N1, N2, N3, N4, N5, N6, N7, I1, I2, I3, I4, I5, I6, I7, reduceIte, reduceCtorEq]
  refine SemW_seq (SemW_of ?_)
  simp only [PP, P1, P2, P3, P4, P5, P6, P7, P8, P9, P10, P11, P12, P13, P14, L1, P15, N1, N2, N3, N4, N5, N6, N7, I1, I2, I3, I4, I5, I6, I7, reduceIte, reduceCtorEq]
  refine longD_p T ?_
  cases hl : longD D with
  | true =>
    simp only [PP, P1, P2, P3, P4, P5, P6, P7, P8, P9, P10, P11, P12, P13, P14, L1, P15, N1, N2, N3, N4, N5, N6, N7, I1, I2, I3, I4, I5, I6, I7, reduceIte, reduceCtorEq]
    refine SemC_true T.awake ?_
    simp only [PP, P1, P2, P3, P4, P5, P6, P7, P8, P9, P10, P11, P12, P13, P14, L1, P15, N1, N2, N3, N4, N5, N6, N7, I1, I2, I3, I4, I5, I6, I7, reduceIte, reduceCtorEq]
  | false =>
  have B := longD_bn hl
  have wl : IntKind.i64.wrap ((v.length : Int) + w.length) = ((v.length + w.length : Nat) : Int) := by rw [wrap64] <;> omega
  simp only [PP, P1, P2, P3, P4, P5, P6, P7, P8, P9, P10, P11, P12, P13, P14, L1, P15, N1, N2, N3, N4, N5, N6, N7, I1, I2, I3, I4, I5, I6, I7, reduceIte, reduceCtorEq, wl]
  refine QIf.intro (fun c1 => ?_) (fun c1 => ?_)
  · simp only [PP, P1, P2, P3, P4, P5, P6, P7, P8, P9, P10, P11, P12, P13, P14, L1, P15, N1, N2, N3, N4, N5, N6, N7, I1, I2, I3, I4, I5, I6, I7, reduceIte, reduceCtorEq, c1]
    refine SemC_true T.awake ?_
    simp only [PP, P1, P2, P3, P4, P5, P6, P7, P8, P9, P10, P11, P12, P13, P14, L1, P15, N1, N2, N3, N4, N5, N6, N7, I1, I2, I3, I4, I5, I6, I7, reduceIte, reduceCtorEq]
  simp only [PP, P1, P2, P3, P4, P5, P6, P7, P8, P9, P10, P11, P12, P13, P14, L1, P15, N1, N2, N3, N4, N5, N6, N7, I1, I2, I3, I4, I5, I6, I7, reduceIte, reduceCtorEq, c1]
  refine SemC_true T.awake ?_
  simp only [PP, P1, P2, P3, P4, P5, P6, P7, P8, P9, P10, P11, P12, P13, P14, L1, P15, N1, N2, N3, N4, N5, N6, N7, I1, I2, I3, I4, I5, I6, I7, reduceIte, reduceCtorEq]
  have b1 : (0 + v.length) * 1 ≤ 140737488355328 := by omega
  have b2 : 0 + v.length ≤ 9223372036854775807 := by omega
  refine SemW_seq (SemW_mono (Qn := fun b N => ∃ f o : Bool, b = [.junk, slI false false .u8 v, slI false false .u8 w, .ptr 0 0 0, .junk, .junk, .junk, slI f o .u8 (v ++ w), .junk, .junk, .junk, .junk, .junk, .junk, .junk, .junk, .junk, .junk, .junk, .junk, .junk, .junk, .junk, .junk, .junk, .junk, .junk, .junk, .junk, .junk, .junk, .junk, .junk, .junk, .junk, .junk, .junk, .junk, .junk, .junk, .junk, .junk, .junk, .junk, .junk, .junk, .junk, .junk, .junk, .junk, .junk, .junk, .junk, .junk, .junk, .junk, .junk, .junk, .junk, .junk, .junk, .junk, .junk, .junk, .junk, .junk, .junk, .junk, .junk, .junk, .junk, .junk, .junk, .junk, .junk, .junk, .junk, .junk, .junk, .junk, .junk, .junk, .junk, .junk, .junk, .junk, .junk, .junk, .junk, .junk, .junk, .junk, .junk, .junk, .junk, .junk, .junk, .junk, .junk, .junk, .junk, .junk, .junk] ∧ N = [.cells 0 0 (dfC false false false false false false D)]) (Qr := fun _ _ => False) (Qe := fun _ _ _ => False) (SemW_gh (SemW_of ?_)) (fun b N hbN => ?_) (fun _ _ h => h.elim) (fun _ _ _ h => h.elim))
  · simp only [PP, P1, P2, P3, P4, P5, P6, P7, P8, P9, P10, P11, P12, P13, P14, L1, P15, N1, N2, N3, N4, N5, N6, N7, I1, I2, I3, I4, I5, I6, I7, reduceIte, reduceCtorEq]
    refine QIf.intro (fun c => ?_) (fun c => ?_)
    · obtain rfl : v = [] := List.length_eq_zero_iff.1 c
      simp only [PP, P1, P2, P3, P4, P5, P6, P7, P8, P9, P10, P11, P12, P13, P14, L1, P15, N1, N2, N3, N4, N5, N6, N7, I1, I2, I3, I4, I5, I6, I7, reduceIte, reduceCtorEq]
      refine QIf.intro (fun d => ?_) (fun d => ?_)
      · obtain rfl : w = [] := List.length_eq_zero_iff.1 d
        simp only [PP, P1, P2, P3, P4, P5, P6, P7, P8, P9, P10, P11, P12, P13, P14, L1, P15, N1, N2, N3, N4, N5, N6, N7, I1, I2, I3, I4, I5, I6, I7, reduceIte, reduceCtorEq]
        exact Gh.step (GStep.drop (b := [.junk, slI false false .u8 [], slI false false .u8 [], .ptr 0 0 0, .junk, .junk, .junk, .sl true true 1 0 [], .junk, .junk, .junk, .junk, .junk, .junk, .junk, .junk, .junk, .junk, .junk, .junk, .junk, .junk, .junk, .junk, .junk, .junk, .junk, .junk, .junk, .junk, .junk, .junk, .junk, .junk, .junk, .junk, .junk, .junk, .junk, .junk, .junk, .junk, .junk, .junk, .junk, .junk, .junk, .junk, .junk, .junk, .junk, .junk, .junk, .junk, .junk, .junk, .junk, .junk, .junk, .junk, .junk, .junk, .junk, .junk, .junk, .junk, .junk, .junk, .junk, .junk, .junk, .junk, .junk, .junk, .junk, .junk, .junk, .junk, .junk, .junk, .junk, .junk, .junk, .junk, .junk, .junk, .junk, .junk, .junk, .junk, .junk, .junk, .junk, .junk, .junk, .junk, .junk, .junk, .junk, .junk, .junk, .junk, .junk]) 1 (Nat.zero_le _) (by simp) (by simp only [PW]) (by simp only [PP, P1, P2, P3, P4, P5, P6, P7, P8, P9, P10, P11, P12, P13, P14, L1, P15, N1, N2, N3, N4, N5, N6, N7, I1, I2, I3, I4, I5, I6, I7, reduceIte, reduceCtorEq, PV.under]) (by simp only [PP, P1, P2, P3, P4, P5, P6, P7, P8, P9, P10, P11, P12, P13, P14, L1, P15, N1, N2, N3, N4, N5, N6, N7, I1, I2, I3, I4, I5, I6, I7, reduceIte, reduceCtorEq]) rfl) (Gh.same ⟨true, true, rfl, rfl⟩)
      · have b3 : w.length ≤ 140737488355328 := by omega
        have b4 : w.length ≤ 9223372036854775807 := by omega
        simp only [PP, P1, P2, P3, P4, P5, P6, P7, P8, P9, P10, P11, P12, P13, P14, L1, P15, N1, N2, N3, N4, N5, N6, N7, I1, I2, I3, I4, I5, I6, I7, reduceIte, reduceCtorEq, d, b3, b4]
        exact Gh.step (GStep.freeze (b := [.junk, slI false false .u8 [], slI false false .u8 w, .ptr 0 0 0, .junk, .junk, .junk, slI false true .u8 w, .junk, .junk, .junk, .junk, .junk, .junk, .junk, .junk, .junk, .junk, .junk, .junk, .junk, .junk, .junk, .junk, .junk, .junk, .junk, .junk, .junk, .junk, .junk, .junk, .junk, .junk, .junk, .junk, .junk, .junk, .junk, .junk, .junk, .junk, .junk, .junk, .junk, .junk, .junk, .junk, .junk, .junk, .junk, .junk, .junk, .junk, .junk, .junk, .junk, .junk, .junk, .junk, .junk, .junk, .junk, .junk, .junk, .junk, .junk, .junk, .junk, .junk, .junk, .junk, .junk, .junk, .junk, .junk, .junk, .junk, .junk, .junk, .junk, .junk, .junk, .junk, .junk, .junk, .junk, .junk, .junk, .junk, .junk, .junk, .junk, .junk, .junk, .junk, .junk, .junk, .junk, .junk, .junk, .junk, .junk]) 1 (Nat.zero_le _) rfl (by simp only [PFrz_nil, PFrz_junk, PFrz_same, PFrz_ref, psub_map, Nat.mul_one, Nat.zero_add, List.length_map, Nat.le_refl]) rfl) (Gh.step (GStep.drop (b := [.junk, slI false false .u8 [], slI false false .u8 w, .ptr 0 0 0, .junk, .junk, .junk, slI false true .u8 w, .junk, .junk, .junk, .junk, .junk, .junk, .junk, .junk, .junk, .junk, .junk, .junk, .junk, .junk, .junk, .junk, .junk, .junk, .junk, .junk, .junk, .junk, .junk, .junk, .junk, .junk, .junk, .junk, .junk, .junk, .junk, .junk, .junk, .junk, .junk, .junk, .junk, .junk, .junk, .junk, .junk, .junk, .junk, .junk, .junk, .junk, .junk, .junk, .junk, .junk, .junk, .junk, .junk, .junk, .junk, .junk, .junk, .junk, .junk, .junk, .junk, .junk, .junk, .junk, .junk, .junk, .junk, .junk, .junk, .junk, .junk, .junk, .junk, .junk, .junk, .junk, .junk, .junk, .junk, .junk, .junk, .junk, .junk, .junk, .junk, .junk, .junk, .junk, .junk, .junk, .junk, .junk, .junk, .junk, .junk]) 1 (Nat.zero_le _) (by simp) (by simp only [PW]) (by simp only [PP, P1, P2, P3, P4, P5, P6, P7, P8, P9, P10, P11, P12, P13, P14, L1, P15, N1, N2, N3, N4, N5, N6, N7, I1, I2, I3, I4, I5, I6, I7, reduceIte, reduceCtorEq]) (by simp only [PP, P1, P2, P3, P4, P5, P6, P7, P8, P9, P10, P11, P12, P13, P14, L1, P15, N1, N2, N3, N4, N5, N6, N7, I1, I2, I3, I4, I5, I6, I7, reduceIte, reduceCtorEq]) rfl) (Gh.same ⟨_, _, rfl, rfl⟩))
    · have b3 : v.length ≤ 140737488355328 := by omega
      have b4 : v.length ≤ 9223372036854775807 := by omega
      have b5 : v.length + w.length ≤ 140737488355328 := by omega
      have b6 : v.length + w.length ≤ 9223372036854775807 := by omega
      simp only [PP, P1, P2, P3, P4, P5, P6, P7, P8, P9, P10, P11, P12, P13, P14, L1, P15, N1, N2, N3, N4, N5, N6, N7, I1, I2, I3, I4, I5, I6, I7, reduceIte, reduceCtorEq, c, b3, b4, b5, b6]
      have e : List.map (PV.int .u8) v ++ List.map (PV.int .u8) w = (v ++ w).map (PV.int .u8) := List.map_append.symm
      rw [e, ← List.length_append]
      exact Gh.step (GStep.freeze (b := [.junk, slI false false .u8 v, slI false false .u8 w, .ptr 0 0 0, .junk, .junk, .junk, slI false true .u8 (v ++ w), .junk, .junk, .junk, .junk, .junk, .junk, .junk, .junk, .junk, .junk, .junk, .junk, .junk, .junk, .junk, .junk, .junk, .junk, .junk, .junk, .junk, .junk, .junk, .junk, .junk, .junk, .junk, .junk, .junk, .junk, .junk, .junk, .junk, .junk, .junk, .junk, .junk, .junk, .junk, .junk, .junk, .junk, .junk, .junk, .junk, .junk, .junk, .junk, .junk, .junk, .junk, .junk, .junk, .junk, .junk, .junk, .junk, .junk, .junk, .junk, .junk, .junk, .junk, .junk, .junk, .junk, .junk, .junk, .junk, .junk, .junk, .junk, .junk, .junk, .junk, .junk, .junk, .junk, .junk, .junk, .junk, .junk, .junk, .junk, .junk, .junk, .junk, .junk, .junk, .junk, .junk, .junk, .junk, .junk, .junk]) 1 (Nat.zero_le _) rfl (by simp only [PFrz_nil, PFrz_junk, PFrz_same, PFrz_ref, psub_map, Nat.mul_one, Nat.zero_add, List.length_map, Nat.le_refl]) rfl) (Gh.step (GStep.drop (b := [.junk, slI false false .u8 v, slI false false .u8 w, .ptr 0 0 0, .junk, .junk, .junk, slI false true .u8 (v ++ w), .junk, .junk, .junk, .junk, .junk, .junk, .junk, .junk, .junk, .junk, .junk, .junk, .junk, .junk, .junk, .junk, .junk, .junk, .junk, .junk, .junk, .junk, .junk, .junk, .junk, .junk, .junk, .junk, .junk, .junk, .junk, .junk, .junk, .junk, .junk, .junk, .junk, .junk, .junk, .junk, .junk, .junk, .junk, .junk, .junk, .junk, .junk, .junk, .junk, .junk, .junk, .junk, .junk, .junk, .junk, .junk, .junk, .junk, .junk, .junk, .junk, .junk, .junk, .junk, .junk, .junk, .junk, .junk, .junk, .junk, .junk, .junk, .junk, .junk, .junk, .junk, .junk, .junk, .junk, .junk, .junk, .junk, .junk, .junk, .junk, .junk, .junk, .junk, .junk, .junk, .junk, .junk, .junk, .junk, .junk]) 1 (Nat.zero_le _) (by simp) (by simp only [PW]) (by simp only [PP, P1, P2, P3, P4, P5, P6, P7, P8, P9, P10, P11, P12, P13, P14, L1, P15, N1, N2, N3, N4, N5, N6, N7, I1, I2, I3, I4, I5, I6, I7, reduceIte, reduceCtorEq]) (by simp only [PP, P1, P2, P3, P4, P5, P6, P7, P8, P9, P10, P11, P12, P13, P14, L1, P15, N1, N2, N3, N4, N5, N6, N7, I1, I2, I3, I4, I5, I6, I7, reduceIte, reduceCtorEq]) rfl) (Gh.same ⟨_, _, rfl, rfl⟩))
  obtain ⟨f, o, rfl, rfl⟩ := hbN
  have hvw : ∀ x ∈ v ++ w, 0 ≤ x ∧ x ≤ 255 := fun x hx => (List.mem_append.1 hx).elim (hv x) (hw x)
  have hlv : v.length < 1000000000000 := by omega
  have hlw : w.length < 1000000000000 := by omega
  have hla : (v ++ w).length < 1000000000000 := by rw [List.length_append]; omega
  refine SemW_of ?_
  simp only [PP, P1, P2, P3, P4, P5, P6, P7, P8, P9, P10, P11, P12, P13, P14, L1, P15, N1, N2, N3, N4, N5, N6, N7, I1, I2, I3, I4, I5, I6, I7, reduceIte, reduceCtorEq]
  refine drun_p T B hvw hla ?_
  by_cases c : errD D (v ++ w) = 0
  rotate_left
  · simp only [PP, P1, P2, P3, P4, P5, P6, P7, P8, P9, P10, P11, P12, P13, P14, L1, P15, N1, N2, N3, N4, N5, N6, N7, I1, I2, I3, I4, I5, I6, I7, reduceIte, reduceCtorEq, c]
  obtain ⟨C, e0⟩ := errD_zero c
  obtain ⟨ev, ew⟩ := wordE_part e0
  have cv : errD D v = 0 := by unfold errD; rw [if_pos (okD_iff.2 C)]; exact ev
  obtain ⟨⟨s0, s1⟩, _, _⟩ := errD_fin cv hv
  have C2 := C.from s0 s1
  have cw : errD { D with st := runD D v } w = 0 := by unfold errD; rw [if_pos (okD_iff.2 C2)]; exact ew
  have hr : runD { D with st := runD D v } w = runD D (v ++ w) := by unfold runD; rw [List.foldl_append]
  obtain ⟨⟨t0, t1⟩, t2, t3⟩ := errD_fin c hvw
  have hacc : accD D (v ++ w) = fiD D (runD D (v ++ w)) := by unfold accD; rw [decide_eq_true c, Bool.true_and]
  simp only [PP, P1, P2, P3, P4, P5, P6, P7, P8, P9, P10, P11, P12, P13, P14, L1, P15, N1, N2, N3, N4, N5, N6, N7, I1, I2, I3, I4, I5, I6, I7, reduceIte, reduceCtorEq, c]
  refine drun_p T B hv hlv ?_
  simp only [PP, P1, P2, P3, P4, P5, P6, P7, P8, P9, P10, P11, P12, P13, P14, L1, P15, N1, N2, N3, N4, N5, N6, N7, I1, I2, I3, I4, I5, I6, I7, reduceIte, reduceCtorEq, cv]
  refine copyD_p T B ?_
  simp only [PP, P1, P2, P3, P4, P5, P6, P7, P8, P9, P10, P11, P12, P13, P14, L1, P15, N1, N2, N3, N4, N5, N6, N7, I1, I2, I3, I4, I5, I6, I7, reduceIte, reduceCtorEq]
  refine drun_p T (D := { D with st := runD D v }) ⟨B.n, B.r, B.f⟩ hw hlw ?_
  simp only [PP, P1, P2, P3, P4, P5, P6, P7, P8, P9, P10, P11, P12, P13, P14, L1, P15, N1, N2, N3, N4, N5, N6, N7, I1, I2, I3, I4, I5, I6, I7, reduceIte, reduceCtorEq, cw, hr]
  refine dacc_p T B hvw hla ?_
  simp only [PP, P1, P2, P3, P4, P5, P6, P7, P8, P9, P10, P11, P12, P13, P14, L1, P15, N1, N2, N3, N4, N5, N6, N7, I1, I2, I3, I4, I5, I6, I7, reduceIte, reduceCtorEq, c, hacc, t0, t3, t2]
theorem steps_all (args : List AV) (h : H) (hs : ShVs [dfaTy, .slice (.int .u8), .slice (.int .u8)] args h) (hz : ∀ j ∈ [1, 2], ∀ fl sz b o n, args[j]? = some (AV.slice fl sz b o n) → n ≤ 140737488351232) :
    ∃ n h', (run tab n).call 5 args h = some (.bool true, h') := by
  obtain ⟨a, b, c, rfl, ha, hb, hc⟩ := shVs3 hs
  obtain ⟨D, r1, A⟩ := arg_dfa ha
  obtain ⟨v, r2, _, hv⟩ := arg_ints hb
  obtain ⟨w, r3, _, hw⟩ := arg_ints hc
  exact run_of_C (law_of_sem (.cons r1 (.cons r2 (.cons r3 (.nil _)))) (steps_p T A hv hw (len_le r2 (fun fl sz b o n e => hz 1 (by simp) fl sz b o n (by rw [e]; rfl))) (len_le r3 (fun fl sz b o n e => hz 2 (by simp) fl sz b o n (by rw [e]; rfl)))))
end
end Go.Am.Ar

