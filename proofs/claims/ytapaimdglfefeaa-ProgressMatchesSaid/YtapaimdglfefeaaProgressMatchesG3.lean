/- Contracts: Lift, of the program and of the reference, and what goes with it. -/
import Derived.Test.YtapaimdglfefeaaProgressMatchesG2
import Derived.Test.YtapaimdglfefeaaPmC
set_option linter.unusedVariables false
set_option linter.unusedSimpArgs false
set_option maxRecDepth 10000
namespace Go.Am.Ar
open Go.Am renaming pchk → P1, pold → P2, PKNo → P3, ppack → P4, PObj.under → P5, pput → P6, ptset → P7, ptget → P8, pev → P9, ofAV → P10, ofAV1 → P11, ppad → P12, pfill → P13, prepl → P14, AO.effect → P15
open List renaming replicate → L1
open Nat renaming reduceAdd → N1, reduceSub → N2, reduceMul → N3, reduceLT → N4, reduceLeDiff → N5, reduceEqDiff → N6, reduceBEq → N7
open Int renaming reduceToNat → I1, reduceLT → I2, reduceLE → I3, reduceEq → I4, reduceAdd → I5, reduceSub → I6, reduceNeg → I7
section
variable {tab : FuncId → Option AF} (T : HasA tab)
include T
end
end Go.Am.Ar
set_option linter.unusedVariables false
set_option linter.unusedSimpArgs false
set_option maxRecDepth 10000
namespace Go.Am.Ar
open Go.Am renaming pchk → P1, pold → P2, PKNo → P3, ppack → P4, PObj.under → P5, pput → P6, ptset → P7, ptget → P8, pev → P9, ofAV → P10, ofAV1 → P11, ppad → P12, pfill → P13, prepl → P14, AO.effect → P15
open List renaming replicate → L1
open Nat renaming reduceAdd → N1, reduceSub → N2, reduceMul → N3, reduceLT → N4, reduceLeDiff → N5, reduceEqDiff → N6, reduceBEq → N7
open Int renaming reduceToNat → I1, reduceLT → I2, reduceLE → I3, reduceEq → I4, reduceAdd → I5, reduceSub → I6, reduceNeg → I7
theorem QCall_yldP {tab : FuncId → Option AF} (id : Nat) (first args : List PV) (M : Mem) (K : PV → Mem → Prop) : QCall tab (.yld id first) args M K = ((∃ ver r, M[id]? = some (.loop ver r)) ∧ SemY tab id (first ++ args) M K) := rfl
theorem getApp {α : Type} (M : List α) (x : α) : (M ++ [x])[M.length]? = some x := by simp
theorem setApp {α : Type} (M : List α) (x y : α) : (M ++ [x]).set M.length y = M ++ [y] := by simp
theorem get_app {α : Type} {M : List α} {i : Nat} {a : α} (h : M[i]? = some a) (l : List α) : (M ++ l)[i]? = some a := by
  rw [List.getElem?_append_left (getSome_lt h)]; exact h
section
variable {tab : FuncId → Option AF} (T : HasA tab)
include T
set_option maxHeartbeats 1000000 in
theorem cands_p {M : Mem} {K : PV → Mem → Prop} {f1 o1 f2 o2 f3 o3 f4 o4 : Bool} {ow pr : List Int} {su : List (List Int)} {L b2 b3 i : Nat} (V : Valid ow pr su) (B : Bnd ow pr su) (J : Nat → List Ms → Mem → Prop) (D : Mem → Prop) {ms0 : List Ms} (h0 : J 0 ms0 M)
    (hid : ∀ k ms N, J k ms N → StOk (limL pr) ow.length ms ∧ N[b3]? = some (.cells 0 0 [.ref i 0 9 0 ow.length]) ∧ N[b2]? = some (.cells 0 0 [.cp (solC f1 o1 f2 o2 f3 o3 f4 o4 ow pr su) 0]) ∧ (∃ ver, N[i]? = some (.cells 0 ver (msL ms))) ∧ ∃ ver r, N[L]? = some (.loop ver r))
    (hskip : ∀ k ms N o, J k ms N → k < ow.length → gL ow pr su (Nf (limL pr) ms) k ≤ Nf (limL pr) ms k → J (k + 1) ms (N ++ [o]))
    (hy : ∀ k ms N y, J k ms N → k < ow.length → y.Ok (limL pr) → y.num (limL pr) = gL ow pr su (Nf (limL pr) ms) k → Nf (limL pr) ms k < gL ow pr su (Nf (limL pr) ms) k → ∀ K' : PV → Mem → Prop, (∀ ms' N', J (k + 1) ms' N' → K' (.bool true) N') → (∀ N', D N' → K' (.bool false) N') → SemY tab L [p64 k, .agg (msC y)] (N ++ [.cells 0 1 (msC y)]) K')
    (hk1 : ∀ ms N, J ow.length ms N → K (.tuple []) N) (hk2 : ∀ N, D N → K (.tuple []) N) :
    SemC tab 75 [.yld L [], .ptr b3 0 0, .ptr b2 0 0] M K := by
  have n1 := V.n1
  refine SemC_fn T.h75 ?_
  obtain ⟨_, p1, _, ⟨_, p3⟩, _⟩ := hid 0 ms0 M h0
  simp only [af75, PP, P1, P2, P3, P4, P5, P6, P7, P8, P9, P10, P11, P12, P13, P14, L1, P15, N1, N2, N3, N4, N5, N6, N7, I1, I2, I3, I4, I5, I6, I7, reduceIte, reduceCtorEq, msC_len, msC_one, msC_und, under_slM, msC_0, psub_msC, pover_msC, z9, z9t, msL_len, msL_und, msL_one, prepl_ms, limC_len, limC_one, limC_und, limC_len0, pfrzL_msC, pfrzL_limC, psub_limC, pover_limC, z8, pcells_cp, one_cp, solC_und, solC_0, solC_1, solC_2, p1, p3]
  refine loop3 (fun (k : Nat) (ms : List Ms) (N : Mem) => k ≤ ow.length ∧ J k ms N) (fun k ms N => [.yld L [], .ptr b3 0 0, .ptr b2 0 0, .junk, .junk, .junk, .junk, p64 ow.length, p64 k, .junk, .junk, .junk, .junk, .junk, .junk, .junk, .junk, .junk, .junk, .junk, .junk, .junk, .junk, .junk, .junk, .junk, .junk, .junk, .junk, .junk]) (fun k ms N => N) (fun k _ _ => ow.length - k) 0 ms0 M ⟨by omega, h0⟩ (by simp only [PWeak_nil, PWeak_junk, PWeak_same, Int.cast_ofNat_Int, List.length_append, List.length_cons, List.length_nil, Nat.zero_add]) rfl ?_
  intro k ms N ⟨hle, hJ⟩ ih
  obtain ⟨hm, q1, q2, ⟨ver, q3⟩, q4⟩ := hid k ms N hJ
  have hml := hm.l
  refine SemW_go (by kernel_rfl) ?_
  simp only [PP, P1, P2, P3, P4, P5, P6, P7, P8, P9, P10, P11, P12, P13, P14, L1, P15, N1, N2, N3, N4, N5, N6, N7, I1, I2, I3, I4, I5, I6, I7, reduceIte, reduceCtorEq]
  refine QIf.intro (fun c => ?_) (fun c => ?_)
  · have hk' : k < ow.length := by omega
    have k0 : (0 : Int) ≤ k := by omega
    have kn : (k : Int) < ow.length := by omega
    have hwk := wrap_succ (k := k) (by show _ < 1000000000000; omega)
    obtain ⟨x, g5⟩ := some_of (xs := ms) (k := k) (by omega)
    have eN : Nf (limL pr) ms k = x.num (limL pr) := Nf_at g5
    have hx := hm.ok x (List.mem_of_getElem? g5)
    have r1 := psub_msL g5
    have r2 := ms_lt g5
    have bor : PBor N [.cp (solC f1 o1 f2 o2 f3 o3 f4 o4 ow pr su) 0, .ref i 0 9 0 ow.length, p64 k] [.cp (solC f1 o1 f2 o2 f3 o3 f4 o4 ow pr su) 0, slM true false ms, p64 k] := by
      refine .same (by simp only [PV.under]; exact solC_und _) ?_
      rw [← hml]
      exact .ref q3 (by rw [msL_len]; omega) (msL_und _ _) (by rw [psub_msL0]) (.same rfl .nil)
    simp only [PP, P1, P2, P3, P4, P5, P6, P7, P8, P9, P10, P11, P12, P13, P14, L1, P15, N1, N2, N3, N4, N5, N6, N7, I1, I2, I3, I4, I5, I6, I7, reduceIte, reduceCtorEq, msC_len, msC_one, msC_und, under_slM, msC_0, psub_msC, pover_msC, z9, z9t, msL_len, msL_und, msL_one, prepl_ms, limC_len, limC_one, limC_und, limC_len0, pfrzL_msC, pfrzL_limC, psub_limC, pover_limC, z8, pcells_cp, one_cp, solC_und, solC_0, solC_1, solC_2, c, q1, q2]
    refine SemC_bor bor (lift_p T V B hm hk' fun y y1 y2 => ⟨by simp only [PV.flat, PV.flatA, msC_flat], ?_⟩)
    simp only [PP, P1, P2, P3, P4, P5, P6, P7, P8, P9, P10, P11, P12, P13, P14, L1, P15, N1, N2, N3, N4, N5, N6, N7, I1, I2, I3, I4, I5, I6, I7, reduceIte, reduceCtorEq, msC_len, msC_one, msC_und, under_slM, msC_0, psub_msC, pover_msC, z9, z9t, msL_len, msL_und, msL_one, prepl_ms, limC_len, limC_one, limC_und, limC_len0, pfrzL_msC, pfrzL_limC, psub_limC, pover_limC, z8, pcells_cp, one_cp, solC_und, solC_0, solC_1, solC_2, getApp, setApp, get_app q1, get_app q3, k0, kn, r1, r2]
    refine compare_p T ?_
    rw [cmp_num y1 hx]
    simp only [PP, P1, P2, P3, P4, P5, P6, P7, P8, P9, P10, P11, P12, P13, P14, L1, P15, N1, N2, N3, N4, N5, N6, N7, I1, I2, I3, I4, I5, I6, I7, reduceIte, reduceCtorEq, msC_len, msC_one, msC_und, under_slM, msC_0, psub_msC, pover_msC, z9, z9t, msL_len, msL_und, msL_one, prepl_ms, limC_len, limC_one, limC_und, limC_len0, pfrzL_msC, pfrzL_limC, psub_limC, pover_limC, z8, pcells_cp, one_cp, solC_und, solC_0, solC_1, solC_2]
    refine QIf.intro (fun d => ?_) (fun d => ?_)
    · have d' := d
      rw [cmpI_pos] at d'
      simp only [PP, P1, P2, P3, P4, P5, P6, P7, P8, P9, P10, P11, P12, P13, P14, L1, P15, N1, N2, N3, N4, N5, N6, N7, I1, I2, I3, I4, I5, I6, I7, reduceIte, reduceCtorEq, msC_len, msC_one, msC_und, under_slM, msC_0, psub_msC, pover_msC, z9, z9t, msL_len, msL_und, msL_one, prepl_ms, limC_len, limC_one, limC_und, limC_len0, pfrzL_msC, pfrzL_limC, psub_limC, pover_limC, z8, pcells_cp, one_cp, solC_und, solC_0, solC_1, solC_2, d, getApp, QCall_yldP]
      refine ⟨⟨_, _, get_app q4.choose_spec.choose_spec _⟩, hy k ms N y hJ hk' y1 y2 (by rw [eN]; have := y2; omega) _ (fun ms' N' hJ' => ?_) fun N' hD => ?_⟩
      · simp only [PP, P1, P2, P3, P4, P5, P6, P7, P8, P9, P10, P11, P12, P13, P14, L1, P15, N1, N2, N3, N4, N5, N6, N7, I1, I2, I3, I4, I5, I6, I7, reduceIte, reduceCtorEq, hwk]
        exact SemW_weak (ih (k + 1) ms' N' ⟨by omega, hJ'⟩ (by omega)) (by simp only [PWeak_nil, PWeak_junk, PWeak_same, Int.cast_ofNat_Int, List.length_append, List.length_cons, List.length_nil, Nat.zero_add])
      · simp only [PP, P1, P2, P3, P4, P5, P6, P7, P8, P9, P10, P11, P12, P13, P14, L1, P15, N1, N2, N3, N4, N5, N6, N7, I1, I2, I3, I4, I5, I6, I7, reduceIte, reduceCtorEq]
        exact hk2 N' hD
    · have d' := d
      rw [cmpI_pos] at d'
      simp only [PP, P1, P2, P3, P4, P5, P6, P7, P8, P9, P10, P11, P12, P13, P14, L1, P15, N1, N2, N3, N4, N5, N6, N7, I1, I2, I3, I4, I5, I6, I7, reduceIte, reduceCtorEq, msC_len, msC_one, msC_und, under_slM, msC_0, psub_msC, pover_msC, z9, z9t, msL_len, msL_und, msL_one, prepl_ms, limC_len, limC_one, limC_und, limC_len0, pfrzL_msC, pfrzL_limC, psub_limC, pover_limC, z8, pcells_cp, one_cp, solC_und, solC_0, solC_1, solC_2, d, hwk]
      exact SemW_weak (ih (k + 1) ms _ ⟨by omega, hskip k ms N _ hJ hk' (by rw [eN]; have := y2; omega)⟩ (by omega)) (by simp only [PWeak_nil, PWeak_junk, PWeak_same, Int.cast_ofNat_Int, List.length_append, List.length_cons, List.length_nil, Nat.zero_add])
  · have hkn : k = ow.length := by omega
    subst hkn
    simp only [PP, P1, P2, P3, P4, P5, P6, P7, P8, P9, P10, P11, P12, P13, P14, L1, P15, N1, N2, N3, N4, N5, N6, N7, I1, I2, I3, I4, I5, I6, I7, reduceIte, reduceCtorEq, c]
    exact hk1 ms N hJ
end
end Go.Am.Ar
set_option linter.unusedVariables false
set_option linter.unusedSimpArgs false
set_option maxRecDepth 10000
namespace Go.Am.Ar
open Go.Am renaming pchk → P1, pold → P2, PKNo → P3, ppack → P4, PObj.under → P5, pput → P6, ptset → P7, ptget → P8, pev → P9, ofAV → P10, ofAV1 → P11, ppad → P12, pfill → P13, prepl → P14, AO.effect → P15
open List renaming replicate → L1
open Nat renaming reduceAdd → N1, reduceSub → N2, reduceMul → N3, reduceLT → N4, reduceLeDiff → N5, reduceEqDiff → N6, reduceBEq → N7
open Int renaming reduceToNat → I1, reduceLT → I2, reduceLE → I3, reduceEq → I4, reduceAdd → I5, reduceSub → I6, reduceNeg → I7
section
variable {α : Type} (M : List α) (x y : α) (l : List α) (i j : Nat)
theorem getK : (M ++ l)[M.length + j]? = l[j]? := by
  rw [List.getElem?_append_right (by omega)]; congr 1; omega
theorem getK0 : (M ++ l)[M.length]? = l[0]? := by
  rw [List.getElem?_append_right (by omega)]; congr 1; omega
theorem setK : (M ++ l).set (M.length + j) y = M ++ l.set j y := by
  rw [List.set_append_right _ _ (by omega)]; congr 2; omega
theorem setK0 : (M ++ l).set M.length y = M ++ l.set 0 y := by
  rw [List.set_append_right _ _ (by omega)]; congr 2; omega
theorem getS : (M.set i x ++ l)[M.length + j]? = l[j]? := by
  rw [List.getElem?_append_right (by simp)]; congr 1; simp
theorem getS0 : (M.set i x ++ l)[M.length]? = l[0]? := by
  rw [List.getElem?_append_right (by simp)]; congr 1; simp
theorem setS : (M.set i x ++ l).set (M.length + j) y = M.set i x ++ l.set j y := by
  rw [List.set_append_right _ _ (by simp)]; congr 2; simp
theorem setS0 : (M.set i x ++ l).set M.length y = M.set i x ++ l.set 0 y := by
  rw [List.set_append_right _ _ (by simp)]; congr 2; simp
theorem set_app {M : List α} {i : Nat} {a : α} (h : M[i]? = some a) (l : List α) (x : α) : (M ++ l).set i x = M.set i x ++ l := by
  rw [List.set_append_left _ _ (getSome_lt h)]
end
theorem cut_set {n i : Nat} {M : Mem} {x : PObj} (h : M.all (cutOk n) = true) (hx : cutOk n x = true) : (M.set i x).all (cutOk n) = true := by
  rw [List.all_eq_true] at h ⊢
  intro y hy
  rcases List.mem_or_eq_of_mem_set hy with q | q
  · exact h y q
  · subst q; exact hx
section
variable {tab : FuncId → Option AF} (T : HasA tab)
include T
set_option maxHeartbeats 2000000 in
theorem step_p {M : Mem} {K : PV → Mem → Prop} {f1 o1 f2 o2 f3 o3 f4 o4 : Bool} {ow pr : List Int} {su : List (List Int)} {ms : List Ms} {i ver : Nat} (V : Valid ow pr su) (B : Bnd ow pr su) (hm : StOk (limL pr) ow.length ms)
    (hi : M[i]? = some (.cells 0 ver (msL ms))) (hc : M.all (cutOk M.length) = true)
    (hk1 : ∀ v y, FstN ow.length (gL ow pr su) (Nf (limL pr) ms) v → y.Ok (limL pr) → y.num (limL pr) = gL ow pr su (Nf (limL pr) ms) v → K (.bool true) (M.set i (.cells 0 (ver + 1) (msL (ms.set v y)))))
    (hk2 : PreF ow.length (gL ow pr su) (Nf (limL pr) ms) → K (.bool false) M) :
    SemC tab 38 [.cp (solC f1 o1 f2 o2 f3 o3 f4 o4 ow pr su) 0, .ref i 0 9 0 ow.length] M K := by
  have hml := hm.l
  have hil := getSome_lt hi
  have hget := fun l => get_app hi l
  have hset := fun l x => set_app hi l x
  refine SemC_res ?_
  refine SemC_fn T.h38 ?_
  simp only [af38, PP, P1, P2, P3, P4, P5, P6, P7, P8, P9, P10, P11, P12, P13, P14, L1, P15, N1, N2, N3, N4, N5, N6, N7, I1, I2, I3, I4, I5, I6, I7, reduceIte, reduceCtorEq, msC_len, msC_one, msC_und, under_slM, msC_0, psub_msC, pover_msC, z9, z9t, msL_len, msL_und, msL_one, prepl_ms, limC_len, limC_one, limC_und, limC_len0, pfrzL_msC, pfrzL_limC, psub_limC, pover_limC, z8, pcells_cp, one_cp, solC_und, solC_0, solC_1, solC_2, List.append_assoc, getK, getK0]
  refine SemC_fn T.h64 ?_
  simp only [af64, PP, P1, P2, P3, P4, P5, P6, P7, P8, P9, P10, P11, P12, P13, P14, L1, P15, N1, N2, N3, N4, N5, N6, N7, I1, I2, I3, I4, I5, I6, I7, reduceIte, reduceCtorEq, msC_len, msC_one, msC_und, under_slM, msC_0, psub_msC, pover_msC, z9, z9t, msL_len, msL_und, msL_one, prepl_ms, limC_len, limC_one, limC_und, limC_len0, pfrzL_msC, pfrzL_limC, psub_limC, pover_limC, z8, pcells_cp, one_cp, solC_und, solC_0, solC_1, solC_2, List.append_assoc, getK, getK0]
  refine SemW_rangeN rfl (fun lp h1 h2 h3 h4 h5 h6 => ?_)
  simp only [PP, P1, P2, P3, P4, P5, P6, P7, P8, P9, P10, P11, P12, P13, P14, L1, P15, N1, N2, N3, N4, N5, N6, N7, I1, I2, I3, I4, I5, I6, I7, reduceIte, reduceCtorEq, msC_len, msC_one, msC_und, under_slM, msC_0, psub_msC, pover_msC, z9, z9t, msL_len, msL_und, msL_one, prepl_ms, limC_len, limC_one, limC_und, limC_len0, pfrzL_msC, pfrzL_limC, psub_limC, pover_limC, z8, pcells_cp, one_cp, solC_und, solC_0, solC_1, solC_2, List.append_assoc]
  refine cands_p T (f1 := f1) (o1 := o1) (f2 := f2) (o2 := o2) (f3 := f3) (o3 := o3) (f4 := f4) (o4 := o4) V B (fun k ms' N => ms' = ms ∧ (∀ u, u < k → gL ow pr su (Nf (limL pr) ms) u ≤ Nf (limL pr) ms u) ∧ ∃ G, N = M ++ (.cells 0 0 [.ref i 0 9 0 ow.length] :: .cells 0 0 [.bool false] :: .cells 0 0 [.cp (solC f1 o1 f2 o2 f3 o3 f4 o4 ow pr su) 0] :: .cells 0 0 [.ref i 0 9 0 ow.length] :: .loop 0 lp :: G))
    (fun N => ∃ v y G vb vl, FstN ow.length (gL ow pr su) (Nf (limL pr) ms) v ∧ y.Ok (limL pr) ∧ y.num (limL pr) = gL ow pr su (Nf (limL pr) ms) v ∧ N = M.set i (.cells 0 (ver + 1) (msL (ms.set v y))) ++ (.cells 0 0 [.ref i 0 9 0 ow.length] :: .cells 0 vb [.bool true] :: .cells 0 0 [.cp (solC f1 o1 f2 o2 f3 o3 f4 o4 ow pr su) 0] :: .cells 0 0 [.ref i 0 9 0 ow.length] :: .loop vl { lp with state := .done, pending := some .ret } :: G))
    (i := i) (ms0 := ms) ⟨rfl, fun u h => by omega, [], rfl⟩ ?_ ?_ ?_ ?_ ?_
  · rintro k ms' N ⟨rfl, _, G, rfl⟩
    exact ⟨hm, by rw [getK]; rfl, by rw [getK]; rfl, ⟨ver, hget _⟩, ⟨0, lp, by rw [getK]; rfl⟩⟩
  · rintro k ms' N o ⟨rfl, q, G, rfl⟩ hk hle
    refine ⟨rfl, fun u hu => ?_, G ++ [o], by simp only [List.append_assoc, List.cons_append]⟩
    by_cases e : u = k
    · subst e; exact hle
    · exact q u (by omega)
  · rintro k ms' N y ⟨rfl, q, G, rfl⟩ hk y1 y2 y3 K' hK1 hK2
    have k0 : (0 : Int) ≤ k := by omega
    have kn : (k : Int) < ow.length := by omega
    have kl : k < ms'.length := by omega
    have k9 : k * 9 + 9 ≤ ow.length * 9 := by omega
    have hpov := pover_msL (l := ms') y kl
    simp only [List.append_assoc, List.cons_append]
    refine SemY_run (ver := 0) (r := lp) (by rw [getK]; rfl) (by rw [h4]; rfl) ?_
    rw [h3, h4, h5]
    refine SemW_of ?_
    simp only [psetAll, PP, P1, P2, P3, P4, P5, P6, P7, P8, P9, P10, P11, P12, P13, P14, L1, P15, N1, N2, N3, N4, N5, N6, N7, I1, I2, I3, I4, I5, I6, I7, reduceIte, reduceCtorEq, msC_len, msC_one, msC_und, under_slM, msC_0, psub_msC, pover_msC, z9, z9t, msL_len, msL_und, msL_one, prepl_ms, limC_len, limC_one, limC_und, limC_len0, pfrzL_msC, pfrzL_limC, psub_limC, pover_limC, z8, pcells_cp, one_cp, solC_und, solC_0, solC_1, solC_2, List.append_assoc, getK, getK0, setK, setK0]
    refine ⟨0, lp, rfl, h1, ?_⟩
    rw [h6]
    refine SemW_of ?_
    simp only [PP, P1, P2, P3, P4, P5, P6, P7, P8, P9, P10, P11, P12, P13, P14, L1, P15, N1, N2, N3, N4, N5, N6, N7, I1, I2, I3, I4, I5, I6, I7, reduceIte, reduceCtorEq, msC_len, msC_one, msC_und, under_slM, msC_0, psub_msC, pover_msC, z9, z9t, msL_len, msL_und, msL_one, prepl_ms, limC_len, limC_one, limC_und, limC_len0, pfrzL_msC, pfrzL_limC, psub_limC, pover_limC, z8, pcells_cp, one_cp, solC_und, solC_0, solC_1, solC_2, List.append_assoc, getK, getK0, setK, setK0, getS, getS0, setS, setS0, hget, hset, k0, kn, k9, hml, hpov]
    refine ⟨1, { lp with state := .busy }, by rw [getS]; simp only [List.getElem?_cons_succ, List.getElem?_cons_zero, h6], ?_⟩
    rw [if_neg (by intro h; cases h)]
    refine hK2 _ ⟨k, y, G ++ [.cells 0 1 (msC y), .cells 0 1 (msC y)], 1, 2, ⟨hk, y3, q⟩, y1, y2, ?_⟩
    simp only [setS, List.set_cons_succ, List.set_cons_zero, h6]
  · rintro ms' N ⟨rfl, q, G, rfl⟩
    refine ⟨0, lp, by rw [getK]; rfl, by rw [h1]; exact (by intro h; cases h), ?_⟩
    rw [h2]
    simp only [PP, P1, P2, P3, P4, P5, P6, P7, P8, P9, P10, P11, P12, P13, P14, L1, P15, N1, N2, N3, N4, N5, N6, N7, I1, I2, I3, I4, I5, I6, I7, reduceIte, reduceCtorEq, msC_len, msC_one, msC_und, under_slM, msC_0, psub_msC, pover_msC, z9, z9t, msL_len, msL_und, msL_one, prepl_ms, limC_len, limC_one, limC_und, limC_len0, pfrzL_msC, pfrzL_limC, psub_limC, pover_limC, z8, pcells_cp, one_cp, solC_und, solC_0, solC_1, solC_2, List.append_assoc, getK, getK0, setK, setK0]
    refine ⟨_, M, rfl, ?_, hk2 q⟩
    rw [List.take_left' rfl]
    exact pfrzM_all hc
  · rintro N ⟨v, y, G, vb, vl, q1, q2, q3, rfl⟩
    refine ⟨vl, { lp with state := .done, pending := some .ret }, by rw [getS]; rfl, (by intro h; cases h), ?_⟩
    simp only [PP, P1, P2, P3, P4, P5, P6, P7, P8, P9, P10, P11, P12, P13, P14, L1, P15, N1, N2, N3, N4, N5, N6, N7, I1, I2, I3, I4, I5, I6, I7, reduceIte, reduceCtorEq, msC_len, msC_one, msC_und, under_slM, msC_0, psub_msC, pover_msC, z9, z9t, msL_len, msL_und, msL_one, prepl_ms, limC_len, limC_one, limC_und, limC_len0, pfrzL_msC, pfrzL_limC, psub_limC, pover_limC, z8, pcells_cp, one_cp, solC_und, solC_0, solC_1, solC_2, List.append_assoc, getS, getS0, setS, setS0]
    refine ⟨_, M.set i (.cells 0 (ver + 1) (msL (ms.set v y))), rfl, ?_, hk1 v y q1 q2 q3⟩
    rw [List.take_left' (by simp)]
    exact pfrzM_all (cut_set hc (msL_und _ _))
end
end Go.Am.Ar
set_option linter.unusedVariables false
set_option linter.unusedSimpArgs false
set_option maxRecDepth 10000
namespace Go.Am.Ar
open Go.Am renaming pchk → P1, pold → P2, PKNo → P3, ppack → P4, PObj.under → P5, pput → P6, ptset → P7, ptget → P8, pev → P9, ofAV → P10, ofAV1 → P11, ppad → P12, pfill → P13, prepl → P14, AO.effect → P15
open List renaming replicate → L1
open Nat renaming reduceAdd → N1, reduceSub → N2, reduceMul → N3, reduceLT → N4, reduceLeDiff → N5, reduceEqDiff → N6, reduceBEq → N7
open Int renaming reduceToNat → I1, reduceLT → I2, reduceLE → I3, reduceEq → I4, reduceAdd → I5, reduceSub → I6, reduceNeg → I7
theorem lp_isP {lp : PLoop} {B : AC} (h1 : lp.state = .ready) (h2 : lp.pending = none) (hB : lp.body = B) : (⟨.ready, none, lp.tmps, lp.params, lp.assign, B⟩ : PLoop) = lp := by
  cases lp; simp_all
theorem Nf_set {ns : List Nat} {ms : List Ms} {k : Nat} {y : Ms} (hk : k < ms.length) : Nf ns (ms.set k y) = updN (Nf ns ms) k (y.num ns) := by
  funext v
  unfold Nf updN
  simp only [List.getD]
  by_cases e : v = k
  · subst e; rw [List.getElem?_set_self hk, if_pos rfl]; rfl
  · rw [List.getElem?_set_ne (by omega), if_neg e]
theorem Nf_zero (ns : List Nat) (n : Nat) : Nf ns (List.replicate n mz) = fun _ => 0 := by
  funext v
  unfold Nf
  rw [List.getD, List.getElem?_replicate]
  split
  · exact mz_num
  · exact mz_num
theorem StOk.set {ns : List Nat} {n k : Nat} {ms : List Ms} {y : Ms} (h : StOk ns n ms) (hy : y.Ok ns) : StOk ns n (ms.set k y) :=
  ⟨by rw [List.length_set]; exact h.l, fun x hx => by
    rcases List.mem_or_eq_of_mem_set hx with q | q
    · exact h.ok x q
    · subst q; exact hy⟩
theorem StOk.zero {ns : List Nat} (h8 : ns.length = 8) (n : Nat) : StOk ns n (List.replicate n mz) := ⟨by simp, fun x hx => by rw [List.eq_of_mem_replicate hx]; exact mz_ok h8⟩
theorem StOk.bnd {ns : List Nat} {n : Nat} {ms : List Ms} (h : StOk ns n ms) : ∀ v, v < n → Nf ns ms v ≤ mT ns := fun v hv => by
  obtain ⟨x, g⟩ := some_of (xs := ms) (k := v) (by rw [h.l]; exact hv)
  rw [Nf_at g]; exact Ms.num_le (h.ok x (List.mem_of_getElem? g))
theorem StOk.eq {ns : List Nat} {n : Nat} {a b : List Ms} (ha : StOk ns n a) (hb : StOk ns n b) (h : ∀ v, v < n → Nf ns a v = Nf ns b v) : a = b := by
  apply List.ext_getElem?
  intro v
  by_cases hv : v < n
  · obtain ⟨x, gx⟩ := some_of (xs := a) (k := v) (by rw [ha.l]; exact hv)
    obtain ⟨y, gy⟩ := some_of (xs := b) (k := v) (by rw [hb.l]; exact hv)
    have := h v hv
    rw [Nf_at gx, Nf_at gy] at this
    rw [gx, gy, Ms.inj (ha.ok x (List.mem_of_getElem? gx)) (hb.ok y (List.mem_of_getElem? gy)) this]
  · rw [List.getElem?_eq_none (by rw [ha.l]; omega), List.getElem?_eq_none (by rw [hb.l]; omega)]
theorem valid_lft {ow pr : List Int} {su : List (List Int)} (V : Valid ow pr su) : Lft ow.length (mT (limL pr)) (gL ow pr su) := lN_lft fun v hv => ⟨(Sf_ok V hv).1, (Sf_ok V hv).2.1⟩
structure LeastM (ow pr : List Int) (su : List (List Int)) (ms : List Ms) : Prop where
  st : StOk (limL pr) ow.length ms
  li : LI ow.length (mT (limL pr)) (gL ow pr su) (Nf (limL pr) ms)
  pre : PreF ow.length (gL ow pr su) (Nf (limL pr) ms)
theorem LeastM.eq {ow pr : List Int} {su : List (List Int)} {a b : List Ms} (ha : LeastM ow pr su a) (hb : LeastM ow pr su b) : a = b := ha.st.eq hb.st (ha.li.unique ha.pre hb.li hb.pre)
section
variable {tab : FuncId → Option AF} (T : HasA tab)
include T
set_option maxHeartbeats 2000000 in
theorem least_p {M : Mem} {K : PV → Mem → Prop} {f1 o1 f2 o2 f3 o3 f4 o4 : Bool} {ow pr : List Int} {su : List (List Int)} (V : Valid ow pr su) (B : Bnd ow pr su)
    (hk : ∀ ms, LeastM ow pr su ms → K (slM false true ms) M) :
    SemC tab 40 [.cp (solC f1 o1 f2 o2 f3 o3 f4 o4 ow pr su) 0] M K := by
  have n1 := V.n1
  have h8 := limL_len pr
  have hL := valid_lft V
  have b0 : (0 : Int) ≤ ow.length := by omega
  have b72 : (ow.length : Int) * 72 ≤ 140737488355328 := by omega
  have b2 : (ow.length : Int) ≤ 9223372036854775807 := by omega
  refine SemC_pureS T.h40 (by simp only [PP, P1, P2, P3, P4, P5, P6, P7, P8, P9, P10, P11, P12, P13, P14, L1, P15, N1, N2, N3, N4, N5, N6, N7, I1, I2, I3, I4, I5, I6, I7, reduceIte, reduceCtorEq, msC_len, msC_one, msC_und, under_slM, msC_0, psub_msC, pover_msC, z9, z9t, msL_len, msL_und, msL_one, prepl_ms, limC_len, limC_one, limC_und, limC_len0, pfrzL_msC, pfrzL_limC, psub_limC, pover_limC, z8, pcells_cp, one_cp, solC_und, solC_0, solC_1, solC_2, PV.under]) ?_
  simp only [af40]
  refine SemW_seq (SemW_of ?_)
  simp only [PP, P1, P2, P3, P4, P5, P6, P7, P8, P9, P10, P11, P12, P13, P14, L1, P15, N1, N2, N3, N4, N5, N6, N7, I1, I2, I3, I4, I5, I6, I7, reduceIte, reduceCtorEq]
  refine SemW_seq (SemW_of ?_)
  simp only [PP, P1, P2, P3, P4, P5, P6, P7, P8, P9, P10, P11, P12, P13, P14, L1, P15, N1, N2, N3, N4, N5, N6, N7, I1, I2, I3, I4, I5, I6, I7, reduceIte, reduceCtorEq, msC_len, msC_one, msC_und, under_slM, msC_0, psub_msC, pover_msC, z9, z9t, msL_len, msL_und, msL_one, prepl_ms, limC_len, limC_one, limC_und, limC_len0, pfrzL_msC, pfrzL_limC, psub_limC, pover_limC, z8, pcells_cp, one_cp, solC_und, solC_0, solC_1, solC_2, b0, b72, b2, Int.le_refl]
  refine SemW_seq (SemW_seq (SemW_of ?_))
  simp only [PP, P1, P2, P3, P4, P5, P6, P7, P8, P9, P10, P11, P12, P13, P14, L1, P15, N1, N2, N3, N4, N5, N6, N7, I1, I2, I3, I4, I5, I6, I7, reduceIte, reduceCtorEq, msC_len, msC_one, msC_und, under_slM, msC_0, psub_msC, pover_msC, z9, z9t, msL_len, msL_und, msL_one, prepl_ms, limC_len, limC_one, limC_und, limC_len0, pfrzL_msC, pfrzL_limC, psub_limC, pover_limC, z8, pcells_cp, one_cp, solC_und, solC_0, solC_1, solC_2]
  refine SemW_blk ?_
  have hS0 := StOk.zero h8 ow.length
  refine loop4 (fun (ver vb : Nat) (ch : Bool) (ms : List Ms) => StOk (limL pr) ow.length ms ∧ LI ow.length (mT (limL pr)) (gL ow pr su) (Nf (limL pr) ms) ∧ (ch = false → PreF ow.length (gL ow pr su) (Nf (limL pr) ms)))
    (fun ver vb ch ms => [.cp (solC f1 o1 f2 o2 f3 o3 f4 o4 ow pr su) 0, .junk, .nils, .ptr 1 0 0, .ptr 2 0 0, .junk, .junk, .junk, .junk, .junk, .junk, .junk, .junk, .junk, .junk, .junk, .junk, .junk, .junk, .junk, .junk, .junk, .junk, .junk, .junk, .junk])
    (fun ver vb ch ms => [.cells 0 ver (msL ms), .cells 0 1 [.ref 0 0 9 0 ow.length], .cells 0 vb [.bool ch]])
    (fun _ _ ch ms => 2 * (ow.length * mT (limL pr) - sumN ow.length (Nf (limL pr) ms)) + (if ch = true then 1 else 0)) 0 1 true (List.replicate ow.length mz)
    ⟨hS0, by rw [Nf_zero]; exact LI.zero hL, fun h => (by cases h)⟩ (by simp only [PWeak_nil, PWeak_junk, PWeak_same, Int.cast_ofNat_Int, List.length_append, List.length_cons, List.length_nil, Nat.zero_add]) rfl ?_
  intro ver vb ch ms ⟨hS, hI, hP⟩ ih
  refine SemW_loop (by kernel_rfl) ?_
  refine SemW_seq ?_
  refine SemW_of ?_
  simp only [PP, P1, P2, P3, P4, P5, P6, P7, P8, P9, P10, P11, P12, P13, P14, L1, P15, N1, N2, N3, N4, N5, N6, N7, I1, I2, I3, I4, I5, I6, I7, reduceIte, reduceCtorEq]
  cases ch with
  | false =>
    simp only [PP, P1, P2, P3, P4, P5, P6, P7, P8, P9, P10, P11, P12, P13, P14, L1, P15, N1, N2, N3, N4, N5, N6, N7, I1, I2, I3, I4, I5, I6, I7, reduceIte, reduceCtorEq]
    refine SemW_of ?_
    simp only [PP, P1, P2, P3, P4, P5, P6, P7, P8, P9, P10, P11, P12, P13, P14, L1, P15, N1, N2, N3, N4, N5, N6, N7, I1, I2, I3, I4, I5, I6, I7, reduceIte, reduceCtorEq, msC_len, msC_one, msC_und, under_slM, msC_0, psub_msC, pover_msC, z9, z9t, msL_len, msL_und, msL_one, prepl_ms, limC_len, limC_one, limC_und, limC_len0, pfrzL_msC, pfrzL_limC, psub_limC, pover_limC, z8, pcells_cp, one_cp, solC_und, solC_0, solC_1, solC_2]
    have hps : psub (msL ms) 0 (ow.length * 9) = msL ms := by rw [← hS.l]; exact psub_msL0 ms
    have hfz : frzO (some (.cells 0 ver (msL ms))) 0 9 0 ow.length = some (slM false true ms) := by
      rw [frzO_cells (by rw [msL_len, hS.l]; omega) (msL_und _ _), hps, ← hS.l]
    simp only [hfz, PP, P1, P2, P3, P4, P5, P6, P7, P8, P9, P10, P11, P12, P13, P14, L1, P15, N1, N2, N3, N4, N5, N6, N7, I1, I2, I3, I4, I5, I6, I7, reduceIte, reduceCtorEq]
    exact hk ms ⟨hS, hI, hP rfl⟩
  | true =>
    simp only [PP, P1, P2, P3, P4, P5, P6, P7, P8, P9, P10, P11, P12, P13, P14, L1, P15, N1, N2, N3, N4, N5, N6, N7, I1, I2, I3, I4, I5, I6, I7, reduceIte, reduceCtorEq]
    refine SemW_seq (SemW_blk ?_)
    refine SemW_seq (SemW_of ?_)
    simp only [PP, P1, P2, P3, P4, P5, P6, P7, P8, P9, P10, P11, P12, P13, P14, L1, P15, N1, N2, N3, N4, N5, N6, N7, I1, I2, I3, I4, I5, I6, I7, reduceIte, reduceCtorEq]
    refine SemW_seq (SemW_of ?_)
    simp only [PP, P1, P2, P3, P4, P5, P6, P7, P8, P9, P10, P11, P12, P13, P14, L1, P15, N1, N2, N3, N4, N5, N6, N7, I1, I2, I3, I4, I5, I6, I7, reduceIte, reduceCtorEq]
    refine SemC_fn T.h64 ?_
    simp only [af64, PP, P1, P2, P3, P4, P5, P6, P7, P8, P9, P10, P11, P12, P13, P14, L1, P15, N1, N2, N3, N4, N5, N6, N7, I1, I2, I3, I4, I5, I6, I7, reduceIte, reduceCtorEq, msC_len, msC_one, msC_und, under_slM, msC_0, psub_msC, pover_msC, z9, z9t, msL_len, msL_und, msL_one, prepl_ms, limC_len, limC_one, limC_und, limC_len0, pfrzL_msC, pfrzL_limC, psub_limC, pover_limC, z8, pcells_cp, one_cp, solC_und, solC_0, solC_1, solC_2]
    refine SemW_blk ?_
    refine SemW_rangeN rfl (fun lp h1 h2 h3 h4 h5 h6 => ?_)
    simp only [PP, P1, P2, P3, P4, P5, P6, P7, P8, P9, P10, P11, P12, P13, P14, L1, P15, N1, N2, N3, N4, N5, N6, N7, I1, I2, I3, I4, I5, I6, I7, reduceIte, reduceCtorEq]
    refine cands_p T (f1 := f1) (o1 := o1) (f2 := f2) (o2 := o2) (f3 := f3) (o3 := o3) (f4 := f4) (o4 := o4) V B
      (fun k ms' N => StOk (limL pr) ow.length ms' ∧ LI ow.length (mT (limL pr)) (gL ow pr su) (Nf (limL pr) ms') ∧ ∃ c v1 v2 vl G, (c = false → ms' = ms ∧ ∀ u, u < k → gL ow pr su (Nf (limL pr) ms) u ≤ Nf (limL pr) ms u) ∧ (c = true → sumN ow.length (Nf (limL pr) ms) < sumN ow.length (Nf (limL pr) ms')) ∧
        N = .cells 0 v1 (msL ms') :: .cells 0 1 [.ref 0 0 9 0 ow.length] :: .cells 0 v2 [.bool c] :: .cells 0 0 [.cp (solC f1 o1 f2 o2 f3 o3 f4 o4 ow pr su) 0] :: .cells 0 0 [.ref 0 0 9 0 ow.length] :: .loop vl lp :: G)
      (fun N => False) (i := 0) (ms0 := ms) ⟨hS, hI, false, ver, vb + 1, 0, [], fun _ => ⟨rfl, fun u h => by omega⟩, fun h => (by cases h), rfl⟩ ?_ ?_ ?_ ?_ ?_
    · rintro k ms' N ⟨hS', _, c, v1, v2, vl, G, _, _, rfl⟩
      exact ⟨hS', rfl, rfl, ⟨v1, rfl⟩, ⟨vl, lp, rfl⟩⟩
    · rintro k ms' N o ⟨hS', hI', c, v1, v2, vl, G, q1, q2, rfl⟩ hk' hle
      refine ⟨hS', hI', c, v1, v2, vl, G ++ [o], fun h => ⟨(q1 h).1, fun u hu => ?_⟩, q2, rfl⟩
      by_cases e : u = k
      · subst e; rw [(q1 h).1] at hle; exact hle
      · exact (q1 h).2 u (by omega)
    · rintro k ms' N y ⟨hS', hI', c, v1, v2, vl, G, q1, q2, rfl⟩ hk' y1 y2 y3 K' hK1 hK2
      have k0 : (0 : Int) ≤ k := by omega
      have kn : (k : Int) < ow.length := by omega
      have kl : k < ms'.length := by rw [hS'.l]; exact hk'
      have k9 : k * 9 + 9 ≤ ow.length * 9 := by omega
      have hpov := pover_msL (l := ms') y kl
      have hml := hS'.l
      simp only [List.cons_append]
      refine SemY_run (ver := vl) (r := lp) rfl (by rw [h4]; rfl) ?_
      rw [h3, h4, h5]
      refine SemW_of ?_
      simp only [psetAll, PP, P1, P2, P3, P4, P5, P6, P7, P8, P9, P10, P11, P12, P13, P14, L1, P15, N1, N2, N3, N4, N5, N6, N7, I1, I2, I3, I4, I5, I6, I7, reduceIte, reduceCtorEq, msC_len, msC_one, msC_und, under_slM, msC_0, psub_msC, pover_msC, z9, z9t, msL_len, msL_und, msL_one, prepl_ms, limC_len, limC_one, limC_und, limC_len0, pfrzL_msC, pfrzL_limC, psub_limC, pover_limC, z8, pcells_cp, one_cp, solC_und, solC_0, solC_1, solC_2, List.append_assoc, getK, getK0, setK, setK0]
      refine ⟨vl, lp, rfl, h1, ?_⟩
      rw [h6]
      refine SemW_of ?_
      simp only [PP, P1, P2, P3, P4, P5, P6, P7, P8, P9, P10, P11, P12, P13, P14, L1, P15, N1, N2, N3, N4, N5, N6, N7, I1, I2, I3, I4, I5, I6, I7, reduceIte, reduceCtorEq, msC_len, msC_one, msC_und, under_slM, msC_0, psub_msC, pover_msC, z9, z9t, msL_len, msL_und, msL_one, prepl_ms, limC_len, limC_one, limC_und, limC_len0, pfrzL_msC, pfrzL_limC, psub_limC, pover_limC, z8, pcells_cp, one_cp, solC_und, solC_0, solC_1, solC_2, List.append_assoc, getK, getK0, setK, setK0, k0, kn, k9, hml, hpov]
      refine ⟨_, _, rfl, ?_⟩
      rw [if_pos rfl]
      refine hK1 (ms'.set k y) _ ⟨hS'.set y1, ?_, true, v1 + 1, v2 + 1, vl + 1 + 1, G ++ [.cells 0 1 (msC y), .cells 0 1 (msC y)], fun h => (by cases h), fun _ => ?_, ?_⟩
      · rw [Nf_set kl, y2]; exact hI'.step hL hk'
      · rw [Nf_set kl, y2]
        have h1 := sumN_upd (n := ow.length) (m := Nf (limL pr) ms') (v := k) (x := gL ow pr su (Nf (limL pr) ms') k) hk' y3
        cases c with
        | false => rw [(q1 rfl).1] at h1 ⊢; exact h1
        | true => have := q2 rfl; omega
      · simp only [List.set_cons_succ, List.set_cons_zero, lp_isP h1 h2 h6]
    · rintro ms' N ⟨hS', hI', c, v1, v2, vl, G, q1, q2, rfl⟩
      refine ⟨vl, lp, rfl, by rw [h1]; exact (by intro h; cases h), ?_⟩
      rw [h2]
      simp only [PP, P1, P2, P3, P4, P5, P6, P7, P8, P9, P10, P11, P12, P13, P14, L1, P15, N1, N2, N3, N4, N5, N6, N7, I1, I2, I3, I4, I5, I6, I7, reduceIte, reduceCtorEq]
      refine SemW_seq (SemW_of ?_)
      simp only [PP, P1, P2, P3, P4, P5, P6, P7, P8, P9, P10, P11, P12, P13, P14, L1, P15, N1, N2, N3, N4, N5, N6, N7, I1, I2, I3, I4, I5, I6, I7, reduceIte, reduceCtorEq]
      refine SemW_re (GStep.drop (b := [.cp (solC f1 o1 f2 o2 f3 o3 f4 o4 ow pr su) 0, .junk, .nils, .ptr 1 0 0, .junk, .junk, .junk, .junk, .junk, .junk, .junk, .junk, .junk, .junk, .junk, .junk, .junk, .junk, .junk, .junk, .junk, .junk, .junk, .junk, .bool c, .junk]) 2 (Nat.zero_le _) (by simp) (by simp only [PWeak_nil, PWeak_junk, PWeak_same]) (by simp only [PP, P1, P2, P3, P4, P5, P6, P7, P8, P9, P10, P11, P12, P13, P14, L1, P15, N1, N2, N3, N4, N5, N6, N7, I1, I2, I3, I4, I5, I6, I7, reduceIte, reduceCtorEq, msC_len, msC_one, msC_und, under_slM, msC_0, psub_msC, pover_msC, z9, z9t, msL_len, msL_und, msL_one, prepl_ms, limC_len, limC_one, limC_und, limC_len0, pfrzL_msC, pfrzL_limC, psub_limC, pover_limC, z8, pcells_cp, one_cp, solC_und, solC_0, solC_1, solC_2, PV.under]) (by simp only [List.take_succ_cons, List.take_zero, List.all_cons, List.all_nil, PObj.under, msL_und, underL_cons, underL_nil, under_ref, decide_true, Bool.and_self, Nat.zero_lt_succ]) rfl) ?_
      simp only [List.take_succ_cons, List.take_zero]
      refine SemW_of ?_
      simp only [PP, P1, P2, P3, P4, P5, P6, P7, P8, P9, P10, P11, P12, P13, P14, L1, P15, N1, N2, N3, N4, N5, N6, N7, I1, I2, I3, I4, I5, I6, I7, reduceIte, reduceCtorEq]
      have hb1 := sumN_le (n := ow.length) (m := Nf (limL pr) ms') hI'.bnd
      refine SemW_to (ih v1 1 c ms' ⟨hS', hI', fun h => by rw [(q1 h).1]; exact fun v hv => (q1 h).2 v hv⟩ ?_) (by simp only [PWeak_nil, PWeak_junk, PWeak_same, Int.cast_ofNat_Int, List.length_append, List.length_cons, List.length_nil, Nat.zero_add]) rfl
      cases c with
      | false => rw [(q1 rfl).1]; rw [if_neg (by decide), if_pos rfl]; omega
      | true => have := q2 rfl; rw [if_pos rfl]; omega
    · intro N h; exact h.elim
end
end Go.Am.Ar
set_option linter.unusedVariables false
set_option linter.unusedSimpArgs false
set_option maxRecDepth 10000
namespace Go.Am.Ar
open Go.Am renaming pchk → P1, pold → P2, PKNo → P3, ppack → P4, PObj.under → P5, pput → P6, ptset → P7, ptget → P8, pev → P9, ofAV → P10, ofAV1 → P11, ppad → P12, pfill → P13, prepl → P14, AO.effect → P15
open List renaming replicate → L1
open Nat renaming reduceAdd → N1, reduceSub → N2, reduceMul → N3, reduceLT → N4, reduceLeDiff → N5, reduceEqDiff → N6, reduceBEq → N7
open Int renaming reduceToNat → I1, reduceLT → I2, reduceLE → I3, reduceEq → I4, reduceAdd → I5, reduceSub → I6, reduceNeg → I7
def MeasA (ow pr : List Int) (su : List (List Int)) (ms : List Ms) (e : Int) : Prop := (¬ checkM ow pr su = 0 ∧ ms = [] ∧ e = checkM ow pr su) ∨ (checkM ow pr su = 0 ∧ e = 0 ∧ LeastM ow pr su ms)
def winM31 (ms : List Ms) : List Int := ms.map fun x => if x.top = true then 1 else 0
def AfterA (ow pr : List Int) (su : List (List Int)) (k : Int) (ms : List Ms) (b : Bool) (e : Int) : Prop :=
  (¬ checkM ow pr su = 0 ∧ ms = [] ∧ b = false ∧ e = checkM ow pr su) ∨ (checkM ow pr su = 0 ∧ k < 0 ∧ ms = [] ∧ b = false ∧ e = 1) ∨
  (checkM ow pr su = 0 ∧ 0 ≤ k ∧ StOk (limL pr) ow.length ms ∧ Nf (limL pr) ms = itN ow.length (gL ow pr su) k.toNat ∧ (b = true ↔ PreF ow.length (gL ow pr su) (Nf (limL pr) ms)) ∧ e = 0)
theorem MeasA.eq {ow pr : List Int} {su : List (List Int)} {ms ms' : List Ms} {e e' : Int} (h : MeasA ow pr su ms e) (h' : MeasA ow pr su ms' e') : ms = ms' ∧ e = e' := by
  rcases h with ⟨a1, a2, a3⟩ | ⟨a1, a2, a3⟩ <;> rcases h' with ⟨b1, b2, b3⟩ | ⟨b1, b2, b3⟩
  · exact ⟨a2.trans b2.symm, a3.trans b3.symm⟩
  · exact absurd b1 a1
  · exact absurd a1 b1
  · exact ⟨a3.eq b3, a2.trans b2.symm⟩
theorem wk_meas (e : Int) : PvWk (.tuple [.nils, p64 e]) (.tuple [slM false true [], p64 e]) := by
  refine PvWk.tuple rfl fun i y z h1 h2 => ?_
  match i with
  | 0 => cases h1; cases h2; exact PvWk.nils _ _ _
  | 1 => cases h1; cases h2; exact PvWk.refl _
  | i + 2 => simp at h1
theorem wk_meas3 (b : Bool) (e : Int) : PvWk (.tuple [.nils, .bool b, p64 e]) (.tuple [slM false true [], .bool b, p64 e]) := by
  refine PvWk.tuple rfl fun i y z h1 h2 => ?_
  match i with
  | 0 => cases h1; cases h2; exact PvWk.nils _ _ _
  | 1 => cases h1; cases h2; exact PvWk.refl _
  | 2 => cases h1; cases h2; exact PvWk.refl _
  | i + 3 => simp at h1
theorem wk_wins (e : Int) : PvWk (.tuple [.nils, p64 e]) (.tuple [slI false true .u8 [], p64 e]) := by
  refine PvWk.tuple rfl fun i y z h1 h2 => ?_
  match i with
  | 0 => cases h1; cases h2; exact PvWk.nils _ _ _
  | 1 => cases h1; cases h2; exact PvWk.refl _
  | i + 2 => simp at h1
theorem frzMs {g v n : Nat} {ms : List Ms} (h : ms.length = n) : frzO (some (.cells g v (msL ms))) g 9 0 n = some (slM false true ms) := by
  subst h
  rw [frzO_cells (by rw [msL_len]; omega) (msL_und _ _), psub_msL0]
theorem frzIs {g v n : Nat} {k : IntKind} {xs : List Int} (h : xs.length = n) : frzO (some (.cells g v (xs.map (PV.int k)))) g 1 0 n = some (slI false true k xs) := by
  subst h
  rw [frzO_cells (by simp) (underL_ints _ _ _), Nat.mul_one, psub_map]
section
variable {tab : FuncId → Option AF} (T : HasA tab)
include T
theorem measures_p {M : Mem} {K : PV → Mem → Prop} {f1 o1 f2 o2 f3 o3 f4 o4 : Bool} {ow pr : List Int} {su : List (List Int)} (B : Bnd ow pr su)
    (hk : ∀ ms e, MeasA ow pr su ms e → K (.tuple [slM false true ms, p64 e]) M) :
    SemC tab 12 [gmP f1 o1 f2 o2 f3 o3 f4 o4 ow pr su] M K := by
  refine SemC_wk ?_
  refine SemC_pure T.h12 (by simp only [PP, P1, P2, P3, P4, P5, P6, P7, P8, P9, P10, P11, P12, P13, P14, L1, P15, N1, N2, N3, N4, N5, N6, N7, I1, I2, I3, I4, I5, I6, I7, reduceIte, reduceCtorEq, msC_len, msC_one, msC_und, under_slM, msC_0, psub_msC, pover_msC, z9, z9t, msL_len, msL_und, msL_one, prepl_ms, limC_len, limC_one, limC_und, limC_len0, pfrzL_msC, pfrzL_limC, psub_limC, pover_limC, z8, pcells_cp, one_cp, solC_und, solC_0, solC_1, solC_2, PV.under]) ?_
  simp only [af12, PP, P1, P2, P3, P4, P5, P6, P7, P8, P9, P10, P11, P12, P13, P14, L1, P15, N1, N2, N3, N4, N5, N6, N7, I1, I2, I3, I4, I5, I6, I7, reduceIte, reduceCtorEq]
  refine check_p T B ?_
  simp only [PP, P1, P2, P3, P4, P5, P6, P7, P8, P9, P10, P11, P12, P13, P14, L1, P15, N1, N2, N3, N4, N5, N6, N7, I1, I2, I3, I4, I5, I6, I7, reduceIte, reduceCtorEq]
  refine QIf.intro (fun c1 => ?_) (fun c1 => ?_)
  rotate_left
  · simp only [PP, P1, P2, P3, P4, P5, P6, P7, P8, P9, P10, P11, P12, P13, P14, L1, P15, N1, N2, N3, N4, N5, N6, N7, I1, I2, I3, I4, I5, I6, I7, reduceIte, reduceCtorEq, msC_len, msC_one, msC_und, under_slM, msC_0, psub_msC, pover_msC, z9, z9t, msL_len, msL_und, msL_one, prepl_ms, limC_len, limC_one, limC_und, limC_len0, pfrzL_msC, pfrzL_limC, psub_limC, pover_limC, z8, pcells_cp, one_cp, solC_und, solC_0, solC_1, solC_2, c1]
    exact ⟨_, wk_meas _, hk [] _ (.inl ⟨c1, rfl, rfl⟩)⟩
  have V := valid_of c1
  simp only [PP, P1, P2, P3, P4, P5, P6, P7, P8, P9, P10, P11, P12, P13, P14, L1, P15, N1, N2, N3, N4, N5, N6, N7, I1, I2, I3, I4, I5, I6, I7, reduceIte, reduceCtorEq, msC_len, msC_one, msC_und, under_slM, msC_0, psub_msC, pover_msC, z9, z9t, msL_len, msL_und, msL_one, prepl_ms, limC_len, limC_one, limC_und, limC_len0, pfrzL_msC, pfrzL_limC, psub_limC, pover_limC, z8, pcells_cp, one_cp, solC_und, solC_0, solC_1, solC_2, c1]
  refine newSolver_p T (valid_pr V) ?_
  simp only [PP, P1, P2, P3, P4, P5, P6, P7, P8, P9, P10, P11, P12, P13, P14, L1, P15, N1, N2, N3, N4, N5, N6, N7, I1, I2, I3, I4, I5, I6, I7, reduceIte, reduceCtorEq, msC_len, msC_one, msC_und, under_slM, msC_0, psub_msC, pover_msC, z9, z9t, msL_len, msL_und, msL_one, prepl_ms, limC_len, limC_one, limC_und, limC_len0, pfrzL_msC, pfrzL_limC, psub_limC, pover_limC, z8, pcells_cp, one_cp, solC_und, solC_0, solC_1, solC_2]
  refine least_p T V B (fun ms hms => ?_)
  simp only [PP, P1, P2, P3, P4, P5, P6, P7, P8, P9, P10, P11, P12, P13, P14, L1, P15, N1, N2, N3, N4, N5, N6, N7, I1, I2, I3, I4, I5, I6, I7, reduceIte, reduceCtorEq, msC_len, msC_one, msC_und, under_slM, msC_0, psub_msC, pover_msC, z9, z9t, msL_len, msL_und, msL_one, prepl_ms, limC_len, limC_one, limC_und, limC_len0, pfrzL_msC, pfrzL_limC, psub_limC, pover_limC, z8, pcells_cp, one_cp, solC_und, solC_0, solC_1, solC_2]
  exact ⟨_, PvWk.refl _, hk ms 0 (.inr ⟨c1, rfl, hms⟩)⟩
theorem winners31_p {M : Mem} {K : PV → Mem → Prop} {f1 o1 f2 o2 f3 o3 f4 o4 : Bool} {ow pr : List Int} {su : List (List Int)} (B : Bnd ow pr su)
    (hk : ∀ ms e, MeasA ow pr su ms e → K (.tuple [slI false true .u8 (winM31 ms), p64 e]) M) :
    SemC tab 15 [gmP f1 o1 f2 o2 f3 o3 f4 o4 ow pr su] M K := by
  refine SemC_wk ?_
  refine SemC_pure T.h15 (by simp only [PP, P1, P2, P3, P4, P5, P6, P7, P8, P9, P10, P11, P12, P13, P14, L1, P15, N1, N2, N3, N4, N5, N6, N7, I1, I2, I3, I4, I5, I6, I7, reduceIte, reduceCtorEq, msC_len, msC_one, msC_und, under_slM, msC_0, psub_msC, pover_msC, z9, z9t, msL_len, msL_und, msL_one, prepl_ms, limC_len, limC_one, limC_und, limC_len0, pfrzL_msC, pfrzL_limC, psub_limC, pover_limC, z8, pcells_cp, one_cp, solC_und, solC_0, solC_1, solC_2, PV.under]) ?_
  simp only [af15, PP, P1, P2, P3, P4, P5, P6, P7, P8, P9, P10, P11, P12, P13, P14, L1, P15, N1, N2, N3, N4, N5, N6, N7, I1, I2, I3, I4, I5, I6, I7, reduceIte, reduceCtorEq]
  refine measures_p T B (fun ms e hA => ?_)
  rcases hA with ⟨c1, rfl, rfl⟩ | ⟨c1, rfl, hL⟩
  · simp only [PP, P1, P2, P3, P4, P5, P6, P7, P8, P9, P10, P11, P12, P13, P14, L1, P15, N1, N2, N3, N4, N5, N6, N7, I1, I2, I3, I4, I5, I6, I7, reduceIte, reduceCtorEq, msC_len, msC_one, msC_und, under_slM, msC_0, psub_msC, pover_msC, z9, z9t, msL_len, msL_und, msL_one, prepl_ms, limC_len, limC_one, limC_und, limC_len0, pfrzL_msC, pfrzL_limC, psub_limC, pover_limC, z8, pcells_cp, one_cp, solC_und, solC_0, solC_1, solC_2, c1]
    exact ⟨_, wk_wins _, hk [] _ (.inl ⟨c1, rfl, rfl⟩)⟩
  have V := valid_of c1
  have n1 := V.n1
  have hml := hL.st.l
  have b0 : (0 : Int) ≤ ms.length := by omega
  have b1 : (ms.length : Int) * 1 ≤ 140737488355328 := by omega
  have b2 : (ms.length : Int) ≤ 9223372036854775807 := by omega
  simp only [PP, P1, P2, P3, P4, P5, P6, P7, P8, P9, P10, P11, P12, P13, P14, L1, P15, N1, N2, N3, N4, N5, N6, N7, I1, I2, I3, I4, I5, I6, I7, reduceIte, reduceCtorEq, msC_len, msC_one, msC_und, under_slM, msC_0, psub_msC, pover_msC, z9, z9t, msL_len, msL_und, msL_one, prepl_ms, limC_len, limC_one, limC_und, limC_len0, pfrzL_msC, pfrzL_limC, psub_limC, pover_limC, z8, pcells_cp, one_cp, solC_und, solC_0, solC_1, solC_2, b0, b1, b2, Int.le_refl]
  refine loop3 (fun (k ver : Nat) (a : List Int) => k ≤ ms.length ∧ a.length = ms.length ∧ (∀ v, v < k → a[v]? = (winM31 ms)[v]?) ∧ ∀ v, k ≤ v → v < ms.length → a[v]? = some 0)
    (fun k ver a => [.junk, .junk, .junk, .junk, .junk, .junk, .ref 1 0 1 0 ms.length, .junk, .junk, .junk, .junk, .junk, .junk, .junk, .junk, .junk, .junk, .junk, .junk, .junk, slM false true ms, p64 ms.length, p64 k, .junk, .junk, .junk, .junk, .junk, .junk, .junk, .junk, .junk, .junk, .junk])
    (fun k ver a => [.cells 0 0 [slI f1 o1 .u8 ow, slI f2 o2 .i64 pr, slR f3 o3 f4 o4 .i64 su], .cells 0 ver (a.map (PV.int .u8))]) (fun k _ _ => ms.length - k) 0 0 (List.replicate ms.length 0) ⟨by omega, by simp, fun v h => by omega, fun v _ h => by simp [h]⟩ (by simp only [PWeak_nil, PWeak_junk, PWeak_same, Int.cast_ofNat_Int, List.length_append, List.length_cons, List.length_nil, Nat.zero_add]) (by simp only [List.map_replicate]) ?_
  intro k ver a ⟨hle, la, hlo, hhi⟩ ih
  refine SemW_go (by kernel_rfl) ?_
  simp only [PP, P1, P2, P3, P4, P5, P6, P7, P8, P9, P10, P11, P12, P13, P14, L1, P15, N1, N2, N3, N4, N5, N6, N7, I1, I2, I3, I4, I5, I6, I7, reduceIte, reduceCtorEq]
  refine QIf.intro (fun c => ?_) (fun c => ?_)
  · have hk' : k < ms.length := by omega
    have k0 : (0 : Int) ≤ k := by omega
    have kn : (k : Int) < ms.length := by omega
    have k1 : k + 1 ≤ ms.length := hk'
    have hwk := wrap_succ (k := k) (by show _ < 1000000000000; omega)
    obtain ⟨x, g5⟩ := some_of (xs := ms) (k := k) (by omega)
    have r1 := psub_msL g5
    have r2 := ms_lt g5
    have ew : (winM31 ms)[k]? = some (if x.top = true then 1 else 0) := by unfold winM31; rw [List.getElem?_map, g5]; rfl
    have next : ∀ a' : List Int, a'.length = ms.length → a'[k]? = (winM31 ms)[k]? → (∀ v, v ≠ k → a'[v]? = a[v]?) → k + 1 ≤ ms.length ∧ a'.length = ms.length ∧ (∀ v, v < k + 1 → a'[v]? = (winM31 ms)[v]?) ∧ ∀ v, k + 1 ≤ v → v < ms.length → a'[v]? = some 0 := fun a' h1 h2 h3 => ⟨hk', h1, fun v hv => by
      by_cases e : v = k
      · subst e; exact h2
      · rw [h3 v e]; exact hlo v (by omega), fun v h4 h5 => by rw [h3 v (by omega)]; exact hhi v (by omega) h5⟩
    simp only [PP, P1, P2, P3, P4, P5, P6, P7, P8, P9, P10, P11, P12, P13, P14, L1, P15, N1, N2, N3, N4, N5, N6, N7, I1, I2, I3, I4, I5, I6, I7, reduceIte, reduceCtorEq, msC_len, msC_one, msC_und, under_slM, msC_0, psub_msC, pover_msC, z9, z9t, msL_len, msL_und, msL_one, prepl_ms, limC_len, limC_one, limC_und, limC_len0, pfrzL_msC, pfrzL_limC, psub_limC, pover_limC, z8, pcells_cp, one_cp, solC_und, solC_0, solC_1, solC_2, c, k0, r1, r2]
    cases ht : x.top with
    | true =>
      simp only [PP, P1, P2, P3, P4, P5, P6, P7, P8, P9, P10, P11, P12, P13, P14, L1, P15, N1, N2, N3, N4, N5, N6, N7, I1, I2, I3, I4, I5, I6, I7, reduceIte, reduceCtorEq, msC_len, msC_one, msC_und, under_slM, msC_0, psub_msC, pover_msC, z9, z9t, msL_len, msL_und, msL_one, prepl_ms, limC_len, limC_one, limC_und, limC_len0, pfrzL_msC, pfrzL_limC, psub_limC, pover_limC, z8, pcells_cp, one_cp, solC_und, solC_0, solC_1, solC_2, ht, k0, kn, k1, la, hwk]
      refine SemW_re (GStep.drop (b := [.junk, .junk, .junk, .junk, .junk, .junk, .ref 1 0 1 0 ms.length, .junk, .junk, .junk, .junk, .junk, .junk, .junk, .junk, .junk, .junk, .junk, .junk, .junk, slM false true ms, p64 ms.length, p64 ((k + 1 : Nat) : Int), .junk, .junk, .junk, .junk, .junk, .junk, .junk, .junk, .junk, .junk, .junk]) 2 (Nat.zero_le _) (by simp) (by simp only [PWeak_nil, PWeak_junk, PWeak_same, Int.cast_ofNat_Int, List.length_append, List.length_cons, List.length_nil, Nat.zero_add]) (by simp only [PP, P1, P2, P3, P4, P5, P6, P7, P8, P9, P10, P11, P12, P13, P14, L1, P15, N1, N2, N3, N4, N5, N6, N7, I1, I2, I3, I4, I5, I6, I7, reduceIte, reduceCtorEq, msC_len, msC_one, msC_und, under_slM, msC_0, psub_msC, pover_msC, z9, z9t, msL_len, msL_und, msL_one, prepl_ms, limC_len, limC_one, limC_und, limC_len0, pfrzL_msC, pfrzL_limC, psub_limC, pover_limC, z8, pcells_cp, one_cp, solC_und, solC_0, solC_1, solC_2]) (by simp only [← List.map_set, PP, P1, P2, P3, P4, P5, P6, P7, P8, P9, P10, P11, P12, P13, P14, L1, P15, N1, N2, N3, N4, N5, N6, N7, I1, I2, I3, I4, I5, I6, I7, reduceIte, reduceCtorEq, msC_len, msC_one, msC_und, under_slM, msC_0, psub_msC, pover_msC, z9, z9t, msL_len, msL_und, msL_one, prepl_ms, limC_len, limC_one, limC_und, limC_len0, pfrzL_msC, pfrzL_limC, psub_limC, pover_limC, z8, pcells_cp, one_cp, solC_und, solC_0, solC_1, solC_2]) rfl) ?_
      refine SemW_to (ih (k + 1) (ver + 1) (a.set k 1) (next _ (by simp [la]) ?_ fun v hv => List.getElem?_set_ne (by omega)) (by omega)) (by simp only [PWeak_nil, PWeak_junk, PWeak_same, Int.cast_ofNat_Int, List.length_append, List.length_cons, List.length_nil, Nat.zero_add]) (by simp only [← List.map_set, PP, P1, P2, P3, P4, P5, P6, P7, P8, P9, P10, P11, P12, P13, P14, L1, P15, N1, N2, N3, N4, N5, N6, N7, I1, I2, I3, I4, I5, I6, I7, reduceIte, reduceCtorEq])
      rw [ew, ht, List.getElem?_set_self (by omega), if_pos rfl]
    | false =>
      simp only [PP, P1, P2, P3, P4, P5, P6, P7, P8, P9, P10, P11, P12, P13, P14, L1, P15, N1, N2, N3, N4, N5, N6, N7, I1, I2, I3, I4, I5, I6, I7, reduceIte, reduceCtorEq, msC_len, msC_one, msC_und, under_slM, msC_0, psub_msC, pover_msC, z9, z9t, msL_len, msL_und, msL_one, prepl_ms, limC_len, limC_one, limC_und, limC_len0, pfrzL_msC, pfrzL_limC, psub_limC, pover_limC, z8, pcells_cp, one_cp, solC_und, solC_0, solC_1, solC_2, ht, hwk]
      refine SemW_re (GStep.drop (b := [.junk, .junk, .junk, .junk, .junk, .junk, .ref 1 0 1 0 ms.length, .junk, .junk, .junk, .junk, .junk, .junk, .junk, .junk, .junk, .junk, .junk, .junk, .junk, slM false true ms, p64 ms.length, p64 ((k + 1 : Nat) : Int), .junk, .junk, .junk, .junk, .junk, .junk, .junk, .junk, .junk, .junk, .junk]) 2 (Nat.zero_le _) (by simp) (by simp only [PWeak_nil, PWeak_junk, PWeak_same, Int.cast_ofNat_Int, List.length_append, List.length_cons, List.length_nil, Nat.zero_add]) (by simp only [PP, P1, P2, P3, P4, P5, P6, P7, P8, P9, P10, P11, P12, P13, P14, L1, P15, N1, N2, N3, N4, N5, N6, N7, I1, I2, I3, I4, I5, I6, I7, reduceIte, reduceCtorEq, msC_len, msC_one, msC_und, under_slM, msC_0, psub_msC, pover_msC, z9, z9t, msL_len, msL_und, msL_one, prepl_ms, limC_len, limC_one, limC_und, limC_len0, pfrzL_msC, pfrzL_limC, psub_limC, pover_limC, z8, pcells_cp, one_cp, solC_und, solC_0, solC_1, solC_2]) (by simp only [PP, P1, P2, P3, P4, P5, P6, P7, P8, P9, P10, P11, P12, P13, P14, L1, P15, N1, N2, N3, N4, N5, N6, N7, I1, I2, I3, I4, I5, I6, I7, reduceIte, reduceCtorEq, msC_len, msC_one, msC_und, under_slM, msC_0, psub_msC, pover_msC, z9, z9t, msL_len, msL_und, msL_one, prepl_ms, limC_len, limC_one, limC_und, limC_len0, pfrzL_msC, pfrzL_limC, psub_limC, pover_limC, z8, pcells_cp, one_cp, solC_und, solC_0, solC_1, solC_2]) rfl) ?_
      refine SemW_to (ih (k + 1) ver a (next a la ?_ fun v hv => rfl) (by omega)) (by simp only [PWeak_nil, PWeak_junk, PWeak_same, Int.cast_ofNat_Int, List.length_append, List.length_cons, List.length_nil, Nat.zero_add]) (by simp only [PP, P1, P2, P3, P4, P5, P6, P7, P8, P9, P10, P11, P12, P13, P14, L1, P15, N1, N2, N3, N4, N5, N6, N7, I1, I2, I3, I4, I5, I6, I7, reduceIte, reduceCtorEq])
      rw [ew, ht, hhi k (Nat.le_refl _) hk', if_neg (by decide)]
  · have hkn : k = ms.length := by omega
    subst hkn
    have ea : a = winM31 ms := by
      apply List.ext_getElem?
      intro v
      by_cases hv : v < ms.length
      · exact hlo v hv
      · rw [List.getElem?_eq_none (by omega), List.getElem?_eq_none (by unfold winM31; simp; omega)]
    subst ea
    simp only [PP, P1, P2, P3, P4, P5, P6, P7, P8, P9, P10, P11, P12, P13, P14, L1, P15, N1, N2, N3, N4, N5, N6, N7, I1, I2, I3, I4, I5, I6, I7, reduceIte, reduceCtorEq, c]
    rw [frzIs la]
    simp only [PP, P1, P2, P3, P4, P5, P6, P7, P8, P9, P10, P11, P12, P13, P14, L1, P15, N1, N2, N3, N4, N5, N6, N7, I1, I2, I3, I4, I5, I6, I7, reduceIte, reduceCtorEq]
    exact ⟨_, PvWk.refl _, hk ms 0 (.inr ⟨c1, rfl, hL⟩)⟩
set_option maxHeartbeats 1000000 in
theorem after_p {M : Mem} {K : PV → Mem → Prop} {f1 o1 f2 o2 f3 o3 f4 o4 : Bool} {ow pr : List Int} {su : List (List Int)} {n : Int} (B : Bnd ow pr su) (hn : n ≤ 9223372036854775807)
    (hk : ∀ ms b e, AfterA ow pr su n ms b e → K (.tuple [slM false true ms, .bool b, p64 e]) M) :
    SemC tab 11 [gmP f1 o1 f2 o2 f3 o3 f4 o4 ow pr su, p64 n] M K := by
  refine SemC_wk ?_
  refine SemC_pureS T.h11 (by simp only [PP, P1, P2, P3, P4, P5, P6, P7, P8, P9, P10, P11, P12, P13, P14, L1, P15, N1, N2, N3, N4, N5, N6, N7, I1, I2, I3, I4, I5, I6, I7, reduceIte, reduceCtorEq, msC_len, msC_one, msC_und, under_slM, msC_0, psub_msC, pover_msC, z9, z9t, msL_len, msL_und, msL_one, prepl_ms, limC_len, limC_one, limC_und, limC_len0, pfrzL_msC, pfrzL_limC, psub_limC, pover_limC, z8, pcells_cp, one_cp, solC_und, solC_0, solC_1, solC_2, PV.under]) ?_
  simp only [af11]
  refine SemW_seq (SemW_of ?_)
  simp only [PP, P1, P2, P3, P4, P5, P6, P7, P8, P9, P10, P11, P12, P13, P14, L1, P15, N1, N2, N3, N4, N5, N6, N7, I1, I2, I3, I4, I5, I6, I7, reduceIte, reduceCtorEq]
  refine SemW_seq (SemW_of ?_)
  simp only [PP, P1, P2, P3, P4, P5, P6, P7, P8, P9, P10, P11, P12, P13, P14, L1, P15, N1, N2, N3, N4, N5, N6, N7, I1, I2, I3, I4, I5, I6, I7, reduceIte, reduceCtorEq]
  refine check_p T B ?_
  simp only [PP, P1, P2, P3, P4, P5, P6, P7, P8, P9, P10, P11, P12, P13, P14, L1, P15, N1, N2, N3, N4, N5, N6, N7, I1, I2, I3, I4, I5, I6, I7, reduceIte, reduceCtorEq]
  refine QIf.intro (fun c1 => ?_) (fun c1 => ?_)
  rotate_left
  · simp only [PP, P1, P2, P3, P4, P5, P6, P7, P8, P9, P10, P11, P12, P13, P14, L1, P15, N1, N2, N3, N4, N5, N6, N7, I1, I2, I3, I4, I5, I6, I7, reduceIte, reduceCtorEq, msC_len, msC_one, msC_und, under_slM, msC_0, psub_msC, pover_msC, z9, z9t, msL_len, msL_und, msL_one, prepl_ms, limC_len, limC_one, limC_und, limC_len0, pfrzL_msC, pfrzL_limC, psub_limC, pover_limC, z8, pcells_cp, one_cp, solC_und, solC_0, solC_1, solC_2, c1]
    exact ⟨_, wk_meas3 _ _, hk [] _ _ (.inl ⟨c1, rfl, rfl, rfl⟩)⟩
  have V := valid_of c1
  have n0 := V.n0
  have n1 := V.n1
  have hL := valid_lft V
  have b0 : (0 : Int) ≤ ow.length := by omega
  have b72 : (ow.length : Int) * 72 ≤ 140737488355328 := by omega
  have b2 : (ow.length : Int) ≤ 9223372036854775807 := by omega
  simp only [PP, P1, P2, P3, P4, P5, P6, P7, P8, P9, P10, P11, P12, P13, P14, L1, P15, N1, N2, N3, N4, N5, N6, N7, I1, I2, I3, I4, I5, I6, I7, reduceIte, reduceCtorEq, msC_len, msC_one, msC_und, under_slM, msC_0, psub_msC, pover_msC, z9, z9t, msL_len, msL_und, msL_one, prepl_ms, limC_len, limC_one, limC_und, limC_len0, pfrzL_msC, pfrzL_limC, psub_limC, pover_limC, z8, pcells_cp, one_cp, solC_und, solC_0, solC_1, solC_2, c1]
  refine SemW_seq (SemW_of ?_)
  simp only [PP, P1, P2, P3, P4, P5, P6, P7, P8, P9, P10, P11, P12, P13, P14, L1, P15, N1, N2, N3, N4, N5, N6, N7, I1, I2, I3, I4, I5, I6, I7, reduceIte, reduceCtorEq, msC_len, msC_one, msC_und, under_slM, msC_0, psub_msC, pover_msC, z9, z9t, msL_len, msL_und, msL_one, prepl_ms, limC_len, limC_one, limC_und, limC_len0, pfrzL_msC, pfrzL_limC, psub_limC, pover_limC, z8, pcells_cp, one_cp, solC_und, solC_0, solC_1, solC_2]
  refine QIf.intro (fun c2 => ?_) (fun c2 => ?_)
  · simp only [PP, P1, P2, P3, P4, P5, P6, P7, P8, P9, P10, P11, P12, P13, P14, L1, P15, N1, N2, N3, N4, N5, N6, N7, I1, I2, I3, I4, I5, I6, I7, reduceIte, reduceCtorEq, msC_len, msC_one, msC_und, under_slM, msC_0, psub_msC, pover_msC, z9, z9t, msL_len, msL_und, msL_one, prepl_ms, limC_len, limC_one, limC_und, limC_len0, pfrzL_msC, pfrzL_limC, psub_limC, pover_limC, z8, pcells_cp, one_cp, solC_und, solC_0, solC_1, solC_2, c2]
    exact ⟨_, wk_meas3 _ _, hk [] _ _ (.inr (.inl ⟨c1, c2, rfl, rfl, rfl⟩))⟩
  simp only [PP, P1, P2, P3, P4, P5, P6, P7, P8, P9, P10, P11, P12, P13, P14, L1, P15, N1, N2, N3, N4, N5, N6, N7, I1, I2, I3, I4, I5, I6, I7, reduceIte, reduceCtorEq, msC_len, msC_one, msC_und, under_slM, msC_0, psub_msC, pover_msC, z9, z9t, msL_len, msL_und, msL_one, prepl_ms, limC_len, limC_one, limC_und, limC_len0, pfrzL_msC, pfrzL_limC, psub_limC, pover_limC, z8, pcells_cp, one_cp, solC_und, solC_0, solC_1, solC_2, c2]
  refine SemW_seq (SemW_of ?_)
  simp only [PP, P1, P2, P3, P4, P5, P6, P7, P8, P9, P10, P11, P12, P13, P14, L1, P15, N1, N2, N3, N4, N5, N6, N7, I1, I2, I3, I4, I5, I6, I7, reduceIte, reduceCtorEq, msC_len, msC_one, msC_und, under_slM, msC_0, psub_msC, pover_msC, z9, z9t, msL_len, msL_und, msL_one, prepl_ms, limC_len, limC_one, limC_und, limC_len0, pfrzL_msC, pfrzL_limC, psub_limC, pover_limC, z8, pcells_cp, one_cp, solC_und, solC_0, solC_1, solC_2]
  refine newSolver_p T (valid_pr V) ?_
  simp only [PP, P1, P2, P3, P4, P5, P6, P7, P8, P9, P10, P11, P12, P13, P14, L1, P15, N1, N2, N3, N4, N5, N6, N7, I1, I2, I3, I4, I5, I6, I7, reduceIte, reduceCtorEq, msC_len, msC_one, msC_und, under_slM, msC_0, psub_msC, pover_msC, z9, z9t, msL_len, msL_und, msL_one, prepl_ms, limC_len, limC_one, limC_und, limC_len0, pfrzL_msC, pfrzL_limC, psub_limC, pover_limC, z8, pcells_cp, one_cp, solC_und, solC_0, solC_1, solC_2]
  refine SemW_seq (SemW_of ?_)
  simp only [PP, P1, P2, P3, P4, P5, P6, P7, P8, P9, P10, P11, P12, P13, P14, L1, P15, N1, N2, N3, N4, N5, N6, N7, I1, I2, I3, I4, I5, I6, I7, reduceIte, reduceCtorEq, msC_len, msC_one, msC_und, under_slM, msC_0, psub_msC, pover_msC, z9, z9t, msL_len, msL_und, msL_one, prepl_ms, limC_len, limC_one, limC_und, limC_len0, pfrzL_msC, pfrzL_limC, psub_limC, pover_limC, z8, pcells_cp, one_cp, solC_und, solC_0, solC_1, solC_2, b0, b72, b2, Int.le_refl]
  refine SemW_seq (SemW_mono (Qn := fun b N => ∃ ver ms, StOk (limL pr) ow.length ms ∧ Nf (limL pr) ms = itN ow.length (gL ow pr su) n.toNat ∧ PWeak b [.junk, .junk, .junk, .junk, .ref 1 0 9 0 ow.length, .junk, .junk, .junk, .cp (solC f1 o1 f2 o2 f3 o3 f4 o4 ow pr su) 0, .junk, .junk, .junk, .junk, .junk, .junk, .junk, .junk, .junk, .junk, .junk, .junk, .junk, .junk, .junk, .junk, .junk, .junk, .junk, .junk, .junk, .junk, .junk, .junk, .junk, .junk, .junk] ∧ N = [.cells 0 0 [slI f1 o1 .u8 ow, slI f2 o2 .i64 pr, slR f3 o3 f4 o4 .i64 su], .cells 0 ver (msL ms)]) ?_ ?_ (fun _ _ h => h) (fun _ _ _ h => h))
  · refine SemW_seq (SemW_of ?_)
    simp only [PP, P1, P2, P3, P4, P5, P6, P7, P8, P9, P10, P11, P12, P13, P14, L1, P15, N1, N2, N3, N4, N5, N6, N7, I1, I2, I3, I4, I5, I6, I7, reduceIte, reduceCtorEq, msC_len, msC_one, msC_und, under_slM, msC_0, psub_msC, pover_msC, z9, z9t, msL_len, msL_und, msL_one, prepl_ms, limC_len, limC_one, limC_und, limC_len0, pfrzL_msC, pfrzL_limC, psub_limC, pover_limC, z8, pcells_cp, one_cp, solC_und, solC_0, solC_1, solC_2]
    refine SemW_blk ?_
    have k0 : 0 ≤ n := by omega
    refine loop3 (fun (j ver : Nat) (ms : List Ms) => (j : Int) ≤ n ∧ StOk (limL pr) ow.length ms ∧ Nf (limL pr) ms = itN ow.length (gL ow pr su) j)
      (fun j ver ms => [.junk, .junk, .junk, .junk, .ref 1 0 9 0 ow.length, .junk, .junk, .junk, .cp (solC f1 o1 f2 o2 f3 o3 f4 o4 ow pr su) 0, .junk, .junk, .junk, .junk, .junk, .junk, .junk, .junk, .junk, .junk, .junk, .junk, .junk, p64 n, p64 j, .junk, .junk, .junk, .junk, .junk, .junk, .junk, .junk, .junk, .junk, .junk, .junk])
      (fun j ver ms => [.cells 0 0 [slI f1 o1 .u8 ow, slI f2 o2 .i64 pr, slR f3 o3 f4 o4 .i64 su], .cells 0 ver (msL ms)]) (fun j _ _ => n.toNat - j) 0 0 (List.replicate ow.length mz) ⟨k0, StOk.zero (limL_len pr) _, Nf_zero _ _⟩ (by simp only [PWeak_nil, PWeak_junk, PWeak_same, Int.cast_ofNat_Int, List.length_append, List.length_cons, List.length_nil, Nat.zero_add]) rfl ?_
    intro j ver ms ⟨hle, hS, hN⟩ ih
    refine SemW_go (by kernel_rfl) ?_
    simp only [PP, P1, P2, P3, P4, P5, P6, P7, P8, P9, P10, P11, P12, P13, P14, L1, P15, N1, N2, N3, N4, N5, N6, N7, I1, I2, I3, I4, I5, I6, I7, reduceIte, reduceCtorEq]
    refine QIf.intro (fun c => ?_) (fun c => ?_)
    · have hwj : IntKind.i64.wrap ((j : Int) + 1) = ((j + 1 : Nat) : Int) := by rw [wrap64 (x := (j : Int) + 1) (by omega) (by omega)]; omega
      simp only [PP, P1, P2, P3, P4, P5, P6, P7, P8, P9, P10, P11, P12, P13, P14, L1, P15, N1, N2, N3, N4, N5, N6, N7, I1, I2, I3, I4, I5, I6, I7, reduceIte, reduceCtorEq, c]
      refine step_p T V B hS rfl (by simp only [List.all_cons, List.all_nil, cutOk, underL_ints, underL_slRs, underL_cons, underL_nil, under_slI, under_slR, msL_und, Bool.and_self]) (fun v y q1 q2 q3 => ?_) (fun q => ?_)
      · have hv : v < ms.length := by rw [hS.l]; exact q1.1
        simp only [PP, P1, P2, P3, P4, P5, P6, P7, P8, P9, P10, P11, P12, P13, P14, L1, P15, N1, N2, N3, N4, N5, N6, N7, I1, I2, I3, I4, I5, I6, I7, reduceIte, reduceCtorEq, msC_len, msC_one, msC_und, under_slM, msC_0, psub_msC, pover_msC, z9, z9t, msL_len, msL_und, msL_one, prepl_ms, limC_len, limC_one, limC_und, limC_len0, pfrzL_msC, pfrzL_limC, psub_limC, pover_limC, z8, pcells_cp, one_cp, solC_und, solC_0, solC_1, solC_2, hwj]
        refine SemW_weak (ih (j + 1) (ver + 1) (ms.set v y) ⟨by omega, hS.set q2, ?_⟩ (by omega)) (by simp only [PWeak_nil, PWeak_junk, PWeak_same, Int.cast_ofNat_Int, List.length_append, List.length_cons, List.length_nil, Nat.zero_add])
        show _ = stpN ow.length (gL ow pr su) (itN ow.length (gL ow pr su) j)
        rw [Nf_set hv, q3, hN, stpN_of (by rw [← hN]; exact q1)]
      · simp only [PP, P1, P2, P3, P4, P5, P6, P7, P8, P9, P10, P11, P12, P13, P14, L1, P15, N1, N2, N3, N4, N5, N6, N7, I1, I2, I3, I4, I5, I6, I7, reduceIte, reduceCtorEq, msC_len, msC_one, msC_und, under_slM, msC_0, psub_msC, pover_msC, z9, z9t, msL_len, msL_und, msL_one, prepl_ms, limC_len, limC_one, limC_und, limC_len0, pfrzL_msC, pfrzL_limC, psub_limC, pover_limC, z8, pcells_cp, one_cp, solC_und, solC_0, solC_1, solC_2]
        refine ⟨ver, ms, hS, ?_, (by simp only [PWeak_nil, PWeak_junk, PWeak_same, Int.cast_ofNat_Int, List.length_append, List.length_cons, List.length_nil, Nat.zero_add]), rfl⟩
        rw [hN] at q ⊢
        obtain ⟨d, hd⟩ : ∃ d, n.toNat = j + d := ⟨n.toNat - j, by omega⟩
        rw [hd, itN_fix q]
    · have hjn : n = (j : Int) := by omega
      subst hjn
      simp only [PP, P1, P2, P3, P4, P5, P6, P7, P8, P9, P10, P11, P12, P13, P14, L1, P15, N1, N2, N3, N4, N5, N6, N7, I1, I2, I3, I4, I5, I6, I7, reduceIte, reduceCtorEq, c]
      exact ⟨ver, ms, hS, hN, (by simp only [PWeak_nil, PWeak_junk, PWeak_same, Int.cast_ofNat_Int, List.length_append, List.length_cons, List.length_nil, Nat.zero_add]), rfl⟩
  · rintro b N ⟨ver, ms, hS, hN, hw, rfl⟩
    refine SemW_weak ?_ hw
    refine SemW_of ?_
    simp only [PP, P1, P2, P3, P4, P5, P6, P7, P8, P9, P10, P11, P12, P13, P14, L1, P15, N1, N2, N3, N4, N5, N6, N7, I1, I2, I3, I4, I5, I6, I7, reduceIte, reduceCtorEq, msC_len, msC_one, msC_und, under_slM, msC_0, psub_msC, pover_msC, z9, z9t, msL_len, msL_und, msL_one, prepl_ms, limC_len, limC_one, limC_und, limC_len0, pfrzL_msC, pfrzL_limC, psub_limC, pover_limC, z8, pcells_cp, one_cp, solC_und, solC_0, solC_1, solC_2]
    refine SemC_fn T.h39 ?_
    have hn0 : ¬ ow.length = 0 := by omega
    have c72 : ow.length * 72 ≤ 140737488355328 := by omega
    have c2' : ow.length ≤ 9223372036854775807 := by omega
    have hps : psub (msL ms) 0 (ow.length * 9) = msL ms := by rw [← hS.l]; exact psub_msL0 ms
    have hle9 : ow.length * 9 ≤ ms.length * 9 := by rw [hS.l]; omega
    simp only [af39, PP, P1, P2, P3, P4, P5, P6, P7, P8, P9, P10, P11, P12, P13, P14, L1, P15, N1, N2, N3, N4, N5, N6, N7, I1, I2, I3, I4, I5, I6, I7, reduceIte, reduceCtorEq, msC_len, msC_one, msC_und, under_slM, msC_0, psub_msC, pover_msC, z9, z9t, msL_len, msL_und, msL_one, prepl_ms, limC_len, limC_one, limC_und, limC_len0, pfrzL_msC, pfrzL_limC, psub_limC, pover_limC, z8, pcells_cp, one_cp, solC_und, solC_0, solC_1, solC_2, hn0, c72, c2', hps, hle9]
    refine step_p T V B hS rfl (by simp only [List.all_cons, List.all_nil, cutOk, underL_ints, underL_slRs, underL_cons, underL_nil, under_slI, under_slR, msL_und, Bool.and_self]) (fun v y q1 q2 q3 => ?_) (fun q => ?_)
    · simp only [PP, P1, P2, P3, P4, P5, P6, P7, P8, P9, P10, P11, P12, P13, P14, L1, P15, N1, N2, N3, N4, N5, N6, N7, I1, I2, I3, I4, I5, I6, I7, reduceIte, reduceCtorEq, msC_len, msC_one, msC_und, under_slM, msC_0, psub_msC, pover_msC, z9, z9t, msL_len, msL_und, msL_one, prepl_ms, limC_len, limC_one, limC_und, limC_len0, pfrzL_msC, pfrzL_limC, psub_limC, pover_limC, z8, pcells_cp, one_cp, solC_und, solC_0, solC_1, solC_2, frzMs hS.l]
      refine ⟨_, PvWk.refl _, hk ms false 0 (.inr (.inr ⟨c1, by omega, hS, hN, ⟨fun h => (by cases h), fun h => ?_⟩, rfl⟩))⟩
      have := h v q1.1
      have := q1.2.1
      omega
    · simp only [PP, P1, P2, P3, P4, P5, P6, P7, P8, P9, P10, P11, P12, P13, P14, L1, P15, N1, N2, N3, N4, N5, N6, N7, I1, I2, I3, I4, I5, I6, I7, reduceIte, reduceCtorEq, msC_len, msC_one, msC_und, under_slM, msC_0, psub_msC, pover_msC, z9, z9t, msL_len, msL_und, msL_one, prepl_ms, limC_len, limC_one, limC_und, limC_len0, pfrzL_msC, pfrzL_limC, psub_limC, pover_limC, z8, pcells_cp, one_cp, solC_und, solC_0, solC_1, solC_2, frzMs hS.l]
      exact ⟨_, PvWk.refl _, hk ms true 0 (.inr (.inr ⟨c1, by omega, hS, hN, ⟨fun _ => q, fun _ => rfl⟩, rfl⟩))⟩
end
end Go.Am.Ar

