/- Contracts: the reference's lifted measure, and what can be lifted, and what goes with it. -/
import Derived.Test.YtapaimdglfefeaaProgressZielonkaG2
import Derived.Test.YtapaimdglfefeaaPmC
set_option linter.unusedVariables false
set_option linter.unusedSimpArgs false
set_option maxRecDepth 10000
namespace Go.Am.Ar
open Go.Am renaming pchk → P1, pold → P2, PKNo → P3, ppack → P4, PObj.under → P5, pput → P6, ptset → P7, ptget → P8, pev → P9, ofAV → P10, ofAV1 → P11, ppad → P12, pfill → P13, prepl → P14, AO.effect → P15
open List renaming replicate → L1
open Nat renaming reduceAdd → N1, reduceSub → N2, reduceMul → N3, reduceLT → N4, reduceLeDiff → N5, reduceEqDiff → N6, reduceBEq → N7
open Int renaming reduceToNat → I1, reduceLT → I2, reduceLE → I3, reduceEq → I4, reduceAdd → I5, reduceSub → I6, reduceNeg → I7
section
variable {tab : FuncId → Option AF} (T : HasA tab)
include T
end
end Go.Am.Ar
set_option linter.unusedVariables false
set_option linter.unusedSimpArgs false
set_option maxRecDepth 10000
namespace Go.Am.Ar
open Go.Am renaming pchk → P1, pold → P2, PKNo → P3, ppack → P4, PObj.under → P5, pput → P6, ptset → P7, ptget → P8, pev → P9, ofAV → P10, ofAV1 → P11, ppad → P12, pfill → P13, prepl → P14, AO.effect → P15
open List renaming replicate → L1
open Nat renaming reduceAdd → N1, reduceSub → N2, reduceMul → N3, reduceLT → N4, reduceLeDiff → N5, reduceEqDiff → N6, reduceBEq → N7
open Int renaming reduceToNat → I1, reduceLT → I2, reduceLE → I3, reduceEq → I4, reduceAdd → I5, reduceSub → I6, reduceNeg → I7
section
variable {tab : FuncId → Option AF} (T : HasA tab)
include T
end
end Go.Am.Ar
set_option linter.unusedVariables false
set_option linter.unusedSimpArgs false
set_option maxRecDepth 10000
namespace Go.Am.Ar
open Go.Am renaming pchk → P1, pold → P2, PKNo → P3, ppack → P4, PObj.under → P5, pput → P6, ptset → P7, ptget → P8, pev → P9, ofAV → P10, ofAV1 → P11, ppad → P12, pfill → P13, prepl → P14, AO.effect → P15
open List renaming replicate → L1
open Nat renaming reduceAdd → N1, reduceSub → N2, reduceMul → N3, reduceLT → N4, reduceLeDiff → N5, reduceEqDiff → N6, reduceBEq → N7
open Int renaming reduceToNat → I1, reduceLT → I2, reduceLE → I3, reduceEq → I4, reduceAdd → I5, reduceSub → I6, reduceNeg → I7
theorem QCall_yldP {tab : FuncId → Option AF} (id : Nat) (first args : List PV) (M : Mem) (K : PV → Mem → Prop) : QCall tab (.yld id first) args M K = ((∃ ver r, M[id]? = some (.loop ver r)) ∧ SemY tab id (first ++ args) M K) := rfl
theorem getApp {α : Type} (M : List α) (x : α) : (M ++ [x])[M.length]? = some x := by simp
theorem setApp {α : Type} (M : List α) (x y : α) : (M ++ [x]).set M.length y = M ++ [y] := by simp
theorem get_app {α : Type} {M : List α} {i : Nat} {a : α} (h : M[i]? = some a) (l : List α) : (M ++ l)[i]? = some a := by
  rw [List.getElem?_append_left (getSome_lt h)]; exact h
section
variable {tab : FuncId → Option AF} (T : HasA tab)
include T
set_option maxHeartbeats 1000000 in
theorem cands_p {M : Mem} {K : PV → Mem → Prop} {f1 o1 f2 o2 f3 o3 f4 o4 : Bool} {ow pr : List Int} {su : List (List Int)} {L b2 b3 i : Nat} (V : Valid ow pr su) (B : Bnd ow pr su) (J : Nat → List Ms → Mem → Prop) (D : Mem → Prop) {ms0 : List Ms} (h0 : J 0 ms0 M)
    (hid : ∀ k ms N, J k ms N → StOk (limL pr) ow.length ms ∧ N[b3]? = some (.cells 0 0 [.ref i 0 9 0 ow.length]) ∧ N[b2]? = some (.cells 0 0 [.cp (solC f1 o1 f2 o2 f3 o3 f4 o4 ow pr su) 0]) ∧ (∃ ver, N[i]? = some (.cells 0 ver (msL ms))) ∧ ∃ ver r, N[L]? = some (.loop ver r))
    (hskip : ∀ k ms N o, J k ms N → k < ow.length → gL ow pr su (Nf (limL pr) ms) k ≤ Nf (limL pr) ms k → J (k + 1) ms (N ++ [o]))
    (hy : ∀ k ms N y, J k ms N → k < ow.length → y.Ok (limL pr) → y.num (limL pr) = gL ow pr su (Nf (limL pr) ms) k → Nf (limL pr) ms k < gL ow pr su (Nf (limL pr) ms) k → ∀ K' : PV → Mem → Prop, (∀ ms' N', J (k + 1) ms' N' → K' (.bool true) N') → (∀ N', D N' → K' (.bool false) N') → SemY tab L [p64 k, .agg (msC y)] (N ++ [.cells 0 1 (msC y)]) K')
    (hk1 : ∀ ms N, J ow.length ms N → K (.tuple []) N) (hk2 : ∀ N, D N → K (.tuple []) N) :
    SemC tab 75 [.yld L [], .ptr b3 0 0, .ptr b2 0 0] M K := by
  have n1 := V.n1
  refine SemC_fn T.h75 ?_
  obtain ⟨_, p1, _, ⟨_, p3⟩, _⟩ := hid 0 ms0 M h0
  simp only [af75, PP, P1, P2, P3, P4, P5, P6, P7, P8, P9, P10, P11, P12, P13, P14, L1, P15, N1, N2, N3, N4, N5, N6, N7, I1, I2, I3, I4, I5, I6, I7, reduceIte, reduceCtorEq, msC_len, msC_one, msC_und, under_slM, msC_0, psub_msC, pover_msC, z9, z9t, msL_len, msL_und, msL_one, prepl_ms, limC_len, limC_one, limC_und, limC_len0, pfrzL_msC, pfrzL_limC, psub_limC, pover_limC, z8, pcells_cp, one_cp, solC_und, solC_0, solC_1, solC_2, p1, p3]
  refine loop3 (fun (k : Nat) (ms : List Ms) (N : Mem) => k ≤ ow.length ∧ J k ms N) (fun k ms N => [.yld L [], .ptr b3 0 0, .ptr b2 0 0, .junk, .junk, .junk, .junk, p64 ow.length, p64 k, .junk, .junk, .junk, .junk, .junk, .junk, .junk, .junk, .junk, .junk, .junk, .junk, .junk, .junk, .junk, .junk, .junk, .junk, .junk, .junk, .junk]) (fun k ms N => N) (fun k _ _ => ow.length - k) 0 ms0 M ⟨by omega, h0⟩ (by simp only [PWeak_nil, PWeak_junk, PWeak_same, Int.cast_ofNat_Int, List.length_append, List.length_cons, List.length_nil, Nat.zero_add]) rfl ?_
  intro k ms N ⟨hle, hJ⟩ ih
  obtain ⟨hm, q1, q2, ⟨ver, q3⟩, q4⟩ := hid k ms N hJ
  have hml := hm.l
  refine SemW_go (by kernel_rfl) ?_
  simp only [PP, P1, P2, P3, P4, P5, P6, P7, P8, P9, P10, P11, P12, P13, P14, L1, P15, N1, N2, N3, N4, N5, N6, N7, I1, I2, I3, I4, I5, I6, I7, reduceIte, reduceCtorEq]
  refine QIf.intro (fun c => ?_) (fun c => ?_)
  · have hk' : k < ow.length := by omega
    have k0 : (0 : Int) ≤ k := by omega
    have kn : (k : Int) < ow.length := by omega
    have hwk := wrap_succ (k := k) (by show _ < 1000000000000; omega)
    obtain ⟨x, g5⟩ := some_of (xs := ms) (k := k) (by omega)
    have eN : Nf (limL pr) ms k = x.num (limL pr) := Nf_at g5
    have hx := hm.ok x (List.mem_of_getElem? g5)
    have r1 := psub_msL g5
    have r2 := ms_lt g5
    have bor : PBor N [.cp (solC f1 o1 f2 o2 f3 o3 f4 o4 ow pr su) 0, .ref i 0 9 0 ow.length, p64 k] [.cp (solC f1 o1 f2 o2 f3 o3 f4 o4 ow pr su) 0, slM true false ms, p64 k] := by
      refine .same (by simp only [PV.under]; exact solC_und _) ?_
      rw [← hml]
      exact .ref q3 (by rw [msL_len]; omega) (msL_und _ _) (by rw [psub_msL0]) (.same rfl .nil)
    simp only [PP, P1, P2, P3, P4, P5, P6, P7, P8, P9, P10, P11, P12, P13, P14, L1, P15, N1, N2, N3, N4, N5, N6, N7, I1, I2, I3, I4, I5, I6, I7, reduceIte, reduceCtorEq, msC_len, msC_one, msC_und, under_slM, msC_0, psub_msC, pover_msC, z9, z9t, msL_len, msL_und, msL_one, prepl_ms, limC_len, limC_one, limC_und, limC_len0, pfrzL_msC, pfrzL_limC, psub_limC, pover_limC, z8, pcells_cp, one_cp, solC_und, solC_0, solC_1, solC_2, c, q1, q2]
    refine SemC_bor bor (lift_p T V B hm hk' fun y y1 y2 => ⟨by simp only [PV.flat, PV.flatA, msC_flat], ?_⟩)
    simp only [PP, P1, P2, P3, P4, P5, P6, P7, P8, P9, P10, P11, P12, P13, P14, L1, P15, N1, N2, N3, N4, N5, N6, N7, I1, I2, I3, I4, I5, I6, I7, reduceIte, reduceCtorEq, msC_len, msC_one, msC_und, under_slM, msC_0, psub_msC, pover_msC, z9, z9t, msL_len, msL_und, msL_one, prepl_ms, limC_len, limC_one, limC_und, limC_len0, pfrzL_msC, pfrzL_limC, psub_limC, pover_limC, z8, pcells_cp, one_cp, solC_und, solC_0, solC_1, solC_2, getApp, setApp, get_app q1, get_app q3, k0, kn, r1, r2]
    refine compare_p T ?_
    rw [cmp_num y1 hx]
    simp only [PP, P1, P2, P3, P4, P5, P6, P7, P8, P9, P10, P11, P12, P13, P14, L1, P15, N1, N2, N3, N4, N5, N6, N7, I1, I2, I3, I4, I5, I6, I7, reduceIte, reduceCtorEq, msC_len, msC_one, msC_und, under_slM, msC_0, psub_msC, pover_msC, z9, z9t, msL_len, msL_und, msL_one, prepl_ms, limC_len, limC_one, limC_und, limC_len0, pfrzL_msC, pfrzL_limC, psub_limC, pover_limC, z8, pcells_cp, one_cp, solC_und, solC_0, solC_1, solC_2]
    refine QIf.intro (fun d => ?_) (fun d => ?_)
    · have d' := d
      rw [cmpI_pos] at d'
      simp only [PP, P1, P2, P3, P4, P5, P6, P7, P8, P9, P10, P11, P12, P13, P14, L1, P15, N1, N2, N3, N4, N5, N6, N7, I1, I2, I3, I4, I5, I6, I7, reduceIte, reduceCtorEq, msC_len, msC_one, msC_und, under_slM, msC_0, psub_msC, pover_msC, z9, z9t, msL_len, msL_und, msL_one, prepl_ms, limC_len, limC_one, limC_und, limC_len0, pfrzL_msC, pfrzL_limC, psub_limC, pover_limC, z8, pcells_cp, one_cp, solC_und, solC_0, solC_1, solC_2, d, getApp, QCall_yldP]
      refine ⟨⟨_, _, get_app q4.choose_spec.choose_spec _⟩, hy k ms N y hJ hk' y1 y2 (by rw [eN]; have := y2; omega) _ (fun ms' N' hJ' => ?_) fun N' hD => ?_⟩
      · simp only [PP, P1, P2, P3, P4, P5, P6, P7, P8, P9, P10, P11, P12, P13, P14, L1, P15, N1, N2, N3, N4, N5, N6, N7, I1, I2, I3, I4, I5, I6, I7, reduceIte, reduceCtorEq, hwk]
        exact SemW_weak (ih (k + 1) ms' N' ⟨by omega, hJ'⟩ (by omega)) (by simp only [PWeak_nil, PWeak_junk, PWeak_same, Int.cast_ofNat_Int, List.length_append, List.length_cons, List.length_nil, Nat.zero_add])
      · simp only [PP, P1, P2, P3, P4, P5, P6, P7, P8, P9, P10, P11, P12, P13, P14, L1, P15, N1, N2, N3, N4, N5, N6, N7, I1, I2, I3, I4, I5, I6, I7, reduceIte, reduceCtorEq]
        exact hk2 N' hD
    · have d' := d
      rw [cmpI_pos] at d'
      simp only [PP, P1, P2, P3, P4, P5, P6, P7, P8, P9, P10, P11, P12, P13, P14, L1, P15, N1, N2, N3, N4, N5, N6, N7, I1, I2, I3, I4, I5, I6, I7, reduceIte, reduceCtorEq, msC_len, msC_one, msC_und, under_slM, msC_0, psub_msC, pover_msC, z9, z9t, msL_len, msL_und, msL_one, prepl_ms, limC_len, limC_one, limC_und, limC_len0, pfrzL_msC, pfrzL_limC, psub_limC, pover_limC, z8, pcells_cp, one_cp, solC_und, solC_0, solC_1, solC_2, d, hwk]
      exact SemW_weak (ih (k + 1) ms _ ⟨by omega, hskip k ms N _ hJ hk' (by rw [eN]; have := y2; omega)⟩ (by omega)) (by simp only [PWeak_nil, PWeak_junk, PWeak_same, Int.cast_ofNat_Int, List.length_append, List.length_cons, List.length_nil, Nat.zero_add])
  · have hkn : k = ow.length := by omega
    subst hkn
    simp only [PP, P1, P2, P3, P4, P5, P6, P7, P8, P9, P10, P11, P12, P13, P14, L1, P15, N1, N2, N3, N4, N5, N6, N7, I1, I2, I3, I4, I5, I6, I7, reduceIte, reduceCtorEq, c]
    exact hk1 ms N hJ
end
end Go.Am.Ar
set_option linter.unusedVariables false
set_option linter.unusedSimpArgs false
set_option maxRecDepth 10000
namespace Go.Am.Ar
open Go.Am renaming pchk → P1, pold → P2, PKNo → P3, ppack → P4, PObj.under → P5, pput → P6, ptset → P7, ptget → P8, pev → P9, ofAV → P10, ofAV1 → P11, ppad → P12, pfill → P13, prepl → P14, AO.effect → P15
open List renaming replicate → L1
open Nat renaming reduceAdd → N1, reduceSub → N2, reduceMul → N3, reduceLT → N4, reduceLeDiff → N5, reduceEqDiff → N6, reduceBEq → N7
open Int renaming reduceToNat → I1, reduceLT → I2, reduceLE → I3, reduceEq → I4, reduceAdd → I5, reduceSub → I6, reduceNeg → I7
section
variable {α : Type} (M : List α) (x y : α) (l : List α) (i j : Nat)
theorem getK : (M ++ l)[M.length + j]? = l[j]? := by
  rw [List.getElem?_append_right (by omega)]; congr 1; omega
theorem getK0 : (M ++ l)[M.length]? = l[0]? := by
  rw [List.getElem?_append_right (by omega)]; congr 1; omega
theorem setK : (M ++ l).set (M.length + j) y = M ++ l.set j y := by
  rw [List.set_append_right _ _ (by omega)]; congr 2; omega
theorem setK0 : (M ++ l).set M.length y = M ++ l.set 0 y := by
  rw [List.set_append_right _ _ (by omega)]; congr 2; omega
end
section
variable {tab : FuncId → Option AF} (T : HasA tab)
include T
end
end Go.Am.Ar
set_option linter.unusedVariables false
set_option linter.unusedSimpArgs false
set_option maxRecDepth 10000
namespace Go.Am.Ar
open Go.Am renaming pchk → P1, pold → P2, PKNo → P3, ppack → P4, PObj.under → P5, pput → P6, ptset → P7, ptget → P8, pev → P9, ofAV → P10, ofAV1 → P11, ppad → P12, pfill → P13, prepl → P14, AO.effect → P15
open List renaming replicate → L1
open Nat renaming reduceAdd → N1, reduceSub → N2, reduceMul → N3, reduceLT → N4, reduceLeDiff → N5, reduceEqDiff → N6, reduceBEq → N7
open Int renaming reduceToNat → I1, reduceLT → I2, reduceLE → I3, reduceEq → I4, reduceAdd → I5, reduceSub → I6, reduceNeg → I7
theorem lp_isP {lp : PLoop} {B : AC} (h1 : lp.state = .ready) (h2 : lp.pending = none) (hB : lp.body = B) : (⟨.ready, none, lp.tmps, lp.params, lp.assign, B⟩ : PLoop) = lp := by
  cases lp; simp_all
theorem Nf_set {ns : List Nat} {ms : List Ms} {k : Nat} {y : Ms} (hk : k < ms.length) : Nf ns (ms.set k y) = updN (Nf ns ms) k (y.num ns) := by
  funext v
  unfold Nf updN
  simp only [List.getD]
  by_cases e : v = k
  · subst e; rw [List.getElem?_set_self hk, if_pos rfl]; rfl
  · rw [List.getElem?_set_ne (by omega), if_neg e]
theorem Nf_zero (ns : List Nat) (n : Nat) : Nf ns (List.replicate n mz) = fun _ => 0 := by
  funext v
  unfold Nf
  rw [List.getD, List.getElem?_replicate]
  split
  · exact mz_num
  · exact mz_num
theorem StOk.set {ns : List Nat} {n k : Nat} {ms : List Ms} {y : Ms} (h : StOk ns n ms) (hy : y.Ok ns) : StOk ns n (ms.set k y) :=
  ⟨by rw [List.length_set]; exact h.l, fun x hx => by
    rcases List.mem_or_eq_of_mem_set hx with q | q
    · exact h.ok x q
    · subst q; exact hy⟩
theorem StOk.zero {ns : List Nat} (h8 : ns.length = 8) (n : Nat) : StOk ns n (List.replicate n mz) := ⟨by simp, fun x hx => by rw [List.eq_of_mem_replicate hx]; exact mz_ok h8⟩
theorem StOk.bnd {ns : List Nat} {n : Nat} {ms : List Ms} (h : StOk ns n ms) : ∀ v, v < n → Nf ns ms v ≤ mT ns := fun v hv => by
  obtain ⟨x, g⟩ := some_of (xs := ms) (k := v) (by rw [h.l]; exact hv)
  rw [Nf_at g]; exact Ms.num_le (h.ok x (List.mem_of_getElem? g))
theorem StOk.eq {ns : List Nat} {n : Nat} {a b : List Ms} (ha : StOk ns n a) (hb : StOk ns n b) (h : ∀ v, v < n → Nf ns a v = Nf ns b v) : a = b := by
  apply List.ext_getElem?
  intro v
  by_cases hv : v < n
  · obtain ⟨x, gx⟩ := some_of (xs := a) (k := v) (by rw [ha.l]; exact hv)
    obtain ⟨y, gy⟩ := some_of (xs := b) (k := v) (by rw [hb.l]; exact hv)
    have := h v hv
    rw [Nf_at gx, Nf_at gy] at this
    rw [gx, gy, Ms.inj (ha.ok x (List.mem_of_getElem? gx)) (hb.ok y (List.mem_of_getElem? gy)) this]
  · rw [List.getElem?_eq_none (by rw [ha.l]; omega), List.getElem?_eq_none (by rw [hb.l]; omega)]
theorem valid_lft {ow pr : List Int} {su : List (List Int)} (V : Valid ow pr su) : Lft ow.length (mT (limL pr)) (gL ow pr su) := lN_lft fun v hv => ⟨(Sf_ok V hv).1, (Sf_ok V hv).2.1⟩
structure LeastM (ow pr : List Int) (su : List (List Int)) (ms : List Ms) : Prop where
  st : StOk (limL pr) ow.length ms
  li : LI ow.length (mT (limL pr)) (gL ow pr su) (Nf (limL pr) ms)
  pre : PreF ow.length (gL ow pr su) (Nf (limL pr) ms)
theorem LeastM.eq {ow pr : List Int} {su : List (List Int)} {a b : List Ms} (ha : LeastM ow pr su a) (hb : LeastM ow pr su b) : a = b := ha.st.eq hb.st (ha.li.unique ha.pre hb.li hb.pre)
section
variable {tab : FuncId → Option AF} (T : HasA tab)
include T
set_option maxHeartbeats 2000000 in
theorem least_p {M : Mem} {K : PV → Mem → Prop} {f1 o1 f2 o2 f3 o3 f4 o4 : Bool} {ow pr : List Int} {su : List (List Int)} (V : Valid ow pr su) (B : Bnd ow pr su)
    (hk : ∀ ms, LeastM ow pr su ms → K (slM false true ms) M) :
    SemC tab 40 [.cp (solC f1 o1 f2 o2 f3 o3 f4 o4 ow pr su) 0] M K := by
  have n1 := V.n1
  have h8 := limL_len pr
  have hL := valid_lft V
  have b0 : (0 : Int) ≤ ow.length := by omega
  have b72 : (ow.length : Int) * 72 ≤ 140737488355328 := by omega
  have b2 : (ow.length : Int) ≤ 9223372036854775807 := by omega
  refine SemC_pureS T.h40 (by simp only [PP, P1, P2, P3, P4, P5, P6, P7, P8, P9, P10, P11, P12, P13, P14, L1, P15, N1, N2, N3, N4, N5, N6, N7, I1, I2, I3, I4, I5, I6, I7, reduceIte, reduceCtorEq, msC_len, msC_one, msC_und, under_slM, msC_0, psub_msC, pover_msC, z9, z9t, msL_len, msL_und, msL_one, prepl_ms, limC_len, limC_one, limC_und, limC_len0, pfrzL_msC, pfrzL_limC, psub_limC, pover_limC, z8, pcells_cp, one_cp, solC_und, solC_0, solC_1, solC_2, PV.under]) ?_
  simp only [af40]
  refine SemW_seq (SemW_of ?_)
  simp only [PP, P1, P2, P3, P4, P5, P6, P7, P8, P9, P10, P11, P12, P13, P14, L1, P15, N1, N2, N3, N4, N5, N6, N7, I1, I2, I3, I4, I5, I6, I7, reduceIte, reduceCtorEq]
  refine SemW_seq (SemW_of ?_)
  simp only [PP, P1, P2, P3, P4, P5, P6, P7, P8, P9, P10, P11, P12, P13, P14, L1, P15, N1, N2, N3, N4, N5, N6, N7, I1, I2, I3, I4, I5, I6, I7, reduceIte, reduceCtorEq, msC_len, msC_one, msC_und, under_slM, msC_0, psub_msC, pover_msC, z9, z9t, msL_len, msL_und, msL_one, prepl_ms, limC_len, limC_one, limC_und, limC_len0, pfrzL_msC, pfrzL_limC, psub_limC, pover_limC, z8, pcells_cp, one_cp, solC_und, solC_0, solC_1, solC_2, b0, b72, b2, Int.le_refl]
  refine SemW_seq (SemW_seq (SemW_of ?_))
  simp only [PP, P1, P2, P3, P4, P5, P6, P7, P8, P9, P10, P11, P12, P13, P14, L1, P15, N1, N2, N3, N4, N5, N6, N7, I1, I2, I3, I4, I5, I6, I7, reduceIte, reduceCtorEq, msC_len, msC_one, msC_und, under_slM, msC_0, psub_msC, pover_msC, z9, z9t, msL_len, msL_und, msL_one, prepl_ms, limC_len, limC_one, limC_und, limC_len0, pfrzL_msC, pfrzL_limC, psub_limC, pover_limC, z8, pcells_cp, one_cp, solC_und, solC_0, solC_1, solC_2]
  refine SemW_blk ?_
  have hS0 := StOk.zero h8 ow.length
  refine loop4 (fun (ver vb : Nat) (ch : Bool) (ms : List Ms) => StOk (limL pr) ow.length ms ∧ LI ow.length (mT (limL pr)) (gL ow pr su) (Nf (limL pr) ms) ∧ (ch = false → PreF ow.length (gL ow pr su) (Nf (limL pr) ms)))
    (fun ver vb ch ms => [.cp (solC f1 o1 f2 o2 f3 o3 f4 o4 ow pr su) 0, .junk, .nils, .ptr 1 0 0, .ptr 2 0 0, .junk, .junk, .junk, .junk, .junk, .junk, .junk, .junk, .junk, .junk, .junk, .junk, .junk, .junk, .junk, .junk, .junk, .junk, .junk, .junk, .junk])
    (fun ver vb ch ms => [.cells 0 ver (msL ms), .cells 0 1 [.ref 0 0 9 0 ow.length], .cells 0 vb [.bool ch]])
    (fun _ _ ch ms => 2 * (ow.length * mT (limL pr) - sumN ow.length (Nf (limL pr) ms)) + (if ch = true then 1 else 0)) 0 1 true (List.replicate ow.length mz)
    ⟨hS0, by rw [Nf_zero]; exact LI.zero hL, fun h => (by cases h)⟩ (by simp only [PWeak_nil, PWeak_junk, PWeak_same, Int.cast_ofNat_Int, List.length_append, List.length_cons, List.length_nil, Nat.zero_add]) rfl ?_
  intro ver vb ch ms ⟨hS, hI, hP⟩ ih
  refine SemW_loop (by kernel_rfl) ?_
  refine SemW_seq ?_
  refine SemW_of ?_
  simp only [PP, P1, P2, P3, P4, P5, P6, P7, P8, P9, P10, P11, P12, P13, P14, L1, P15, N1, N2, N3, N4, N5, N6, N7, I1, I2, I3, I4, I5, I6, I7, reduceIte, reduceCtorEq]
  cases ch with
  | false =>
    simp only [PP, P1, P2, P3, P4, P5, P6, P7, P8, P9, P10, P11, P12, P13, P14, L1, P15, N1, N2, N3, N4, N5, N6, N7, I1, I2, I3, I4, I5, I6, I7, reduceIte, reduceCtorEq]
    refine SemW_of ?_
    simp only [PP, P1, P2, P3, P4, P5, P6, P7, P8, P9, P10, P11, P12, P13, P14, L1, P15, N1, N2, N3, N4, N5, N6, N7, I1, I2, I3, I4, I5, I6, I7, reduceIte, reduceCtorEq, msC_len, msC_one, msC_und, under_slM, msC_0, psub_msC, pover_msC, z9, z9t, msL_len, msL_und, msL_one, prepl_ms, limC_len, limC_one, limC_und, limC_len0, pfrzL_msC, pfrzL_limC, psub_limC, pover_limC, z8, pcells_cp, one_cp, solC_und, solC_0, solC_1, solC_2]
    have hps : psub (msL ms) 0 (ow.length * 9) = msL ms := by rw [← hS.l]; exact psub_msL0 ms
    have hfz : frzO (some (.cells 0 ver (msL ms))) 0 9 0 ow.length = some (slM false true ms) := by
      rw [frzO_cells (by rw [msL_len, hS.l]; omega) (msL_und _ _), hps, ← hS.l]
    simp only [hfz, PP, P1, P2, P3, P4, P5, P6, P7, P8, P9, P10, P11, P12, P13, P14, L1, P15, N1, N2, N3, N4, N5, N6, N7, I1, I2, I3, I4, I5, I6, I7, reduceIte, reduceCtorEq]
    exact hk ms ⟨hS, hI, hP rfl⟩
  | true =>
    simp only [PP, P1, P2, P3, P4, P5, P6, P7, P8, P9, P10, P11, P12, P13, P14, L1, P15, N1, N2, N3, N4, N5, N6, N7, I1, I2, I3, I4, I5, I6, I7, reduceIte, reduceCtorEq]
    refine SemW_seq (SemW_blk ?_)
    refine SemW_seq (SemW_of ?_)
    simp only [PP, P1, P2, P3, P4, P5, P6, P7, P8, P9, P10, P11, P12, P13, P14, L1, P15, N1, N2, N3, N4, N5, N6, N7, I1, I2, I3, I4, I5, I6, I7, reduceIte, reduceCtorEq]
    refine SemW_seq (SemW_of ?_)
    simp only [PP, P1, P2, P3, P4, P5, P6, P7, P8, P9, P10, P11, P12, P13, P14, L1, P15, N1, N2, N3, N4, N5, N6, N7, I1, I2, I3, I4, I5, I6, I7, reduceIte, reduceCtorEq]
    refine SemC_fn T.h64 ?_
    simp only [af64, PP, P1, P2, P3, P4, P5, P6, P7, P8, P9, P10, P11, P12, P13, P14, L1, P15, N1, N2, N3, N4, N5, N6, N7, I1, I2, I3, I4, I5, I6, I7, reduceIte, reduceCtorEq, msC_len, msC_one, msC_und, under_slM, msC_0, psub_msC, pover_msC, z9, z9t, msL_len, msL_und, msL_one, prepl_ms, limC_len, limC_one, limC_und, limC_len0, pfrzL_msC, pfrzL_limC, psub_limC, pover_limC, z8, pcells_cp, one_cp, solC_und, solC_0, solC_1, solC_2]
    refine SemW_blk ?_
    refine SemW_rangeN rfl (fun lp h1 h2 h3 h4 h5 h6 => ?_)
    simp only [PP, P1, P2, P3, P4, P5, P6, P7, P8, P9, P10, P11, P12, P13, P14, L1, P15, N1, N2, N3, N4, N5, N6, N7, I1, I2, I3, I4, I5, I6, I7, reduceIte, reduceCtorEq]
    refine cands_p T (f1 := f1) (o1 := o1) (f2 := f2) (o2 := o2) (f3 := f3) (o3 := o3) (f4 := f4) (o4 := o4) V B
      (fun k ms' N => StOk (limL pr) ow.length ms' ∧ LI ow.length (mT (limL pr)) (gL ow pr su) (Nf (limL pr) ms') ∧ ∃ c v1 v2 vl G, (c = false → ms' = ms ∧ ∀ u, u < k → gL ow pr su (Nf (limL pr) ms) u ≤ Nf (limL pr) ms u) ∧ (c = true → sumN ow.length (Nf (limL pr) ms) < sumN ow.length (Nf (limL pr) ms')) ∧
        N = .cells 0 v1 (msL ms') :: .cells 0 1 [.ref 0 0 9 0 ow.length] :: .cells 0 v2 [.bool c] :: .cells 0 0 [.cp (solC f1 o1 f2 o2 f3 o3 f4 o4 ow pr su) 0] :: .cells 0 0 [.ref 0 0 9 0 ow.length] :: .loop vl lp :: G)
      (fun N => False) (i := 0) (ms0 := ms) ⟨hS, hI, false, ver, vb + 1, 0, [], fun _ => ⟨rfl, fun u h => by omega⟩, fun h => (by cases h), rfl⟩ ?_ ?_ ?_ ?_ ?_
    · rintro k ms' N ⟨hS', _, c, v1, v2, vl, G, _, _, rfl⟩
      exact ⟨hS', rfl, rfl, ⟨v1, rfl⟩, ⟨vl, lp, rfl⟩⟩
    · rintro k ms' N o ⟨hS', hI', c, v1, v2, vl, G, q1, q2, rfl⟩ hk' hle
      refine ⟨hS', hI', c, v1, v2, vl, G ++ [o], fun h => ⟨(q1 h).1, fun u hu => ?_⟩, q2, rfl⟩
      by_cases e : u = k
      · subst e; rw [(q1 h).1] at hle; exact hle
      · exact (q1 h).2 u (by omega)
    · rintro k ms' N y ⟨hS', hI', c, v1, v2, vl, G, q1, q2, rfl⟩ hk' y1 y2 y3 K' hK1 hK2
      have k0 : (0 : Int) ≤ k := by omega
      have kn : (k : Int) < ow.length := by omega
      have kl : k < ms'.length := by rw [hS'.l]; exact hk'
      have k9 : k * 9 + 9 ≤ ow.length * 9 := by omega
      have hpov := pover_msL (l := ms') y kl
      have hml := hS'.l
      simp only [List.cons_append]
      refine SemY_run (ver := vl) (r := lp) rfl (by rw [h4]; rfl) ?_
      rw [h3, h4, h5]
      refine SemW_of ?_
      simp only [psetAll, PP, P1, P2, P3, P4, P5, P6, P7, P8, P9, P10, P11, P12, P13, P14, L1, P15, N1, N2, N3, N4, N5, N6, N7, I1, I2, I3, I4, I5, I6, I7, reduceIte, reduceCtorEq, msC_len, msC_one, msC_und, under_slM, msC_0, psub_msC, pover_msC, z9, z9t, msL_len, msL_und, msL_one, prepl_ms, limC_len, limC_one, limC_und, limC_len0, pfrzL_msC, pfrzL_limC, psub_limC, pover_limC, z8, pcells_cp, one_cp, solC_und, solC_0, solC_1, solC_2, List.append_assoc, getK, getK0, setK, setK0]
      refine ⟨vl, lp, rfl, h1, ?_⟩
      rw [h6]
      refine SemW_of ?_
      simp only [PP, P1, P2, P3, P4, P5, P6, P7, P8, P9, P10, P11, P12, P13, P14, L1, P15, N1, N2, N3, N4, N5, N6, N7, I1, I2, I3, I4, I5, I6, I7, reduceIte, reduceCtorEq, msC_len, msC_one, msC_und, under_slM, msC_0, psub_msC, pover_msC, z9, z9t, msL_len, msL_und, msL_one, prepl_ms, limC_len, limC_one, limC_und, limC_len0, pfrzL_msC, pfrzL_limC, psub_limC, pover_limC, z8, pcells_cp, one_cp, solC_und, solC_0, solC_1, solC_2, List.append_assoc, getK, getK0, setK, setK0, k0, kn, k9, hml, hpov]
      refine ⟨_, _, rfl, ?_⟩
      rw [if_pos rfl]
      refine hK1 (ms'.set k y) _ ⟨hS'.set y1, ?_, true, v1 + 1, v2 + 1, vl + 1 + 1, G ++ [.cells 0 1 (msC y), .cells 0 1 (msC y)], fun h => (by cases h), fun _ => ?_, ?_⟩
      · rw [Nf_set kl, y2]; exact hI'.step hL hk'
      · rw [Nf_set kl, y2]
        have h1 := sumN_upd (n := ow.length) (m := Nf (limL pr) ms') (v := k) (x := gL ow pr su (Nf (limL pr) ms') k) hk' y3
        cases c with
        | false => rw [(q1 rfl).1] at h1 ⊢; exact h1
        | true => have := q2 rfl; omega
      · simp only [List.set_cons_succ, List.set_cons_zero, lp_isP h1 h2 h6]
    · rintro ms' N ⟨hS', hI', c, v1, v2, vl, G, q1, q2, rfl⟩
      refine ⟨vl, lp, rfl, by rw [h1]; exact (by intro h; cases h), ?_⟩
      rw [h2]
      simp only [PP, P1, P2, P3, P4, P5, P6, P7, P8, P9, P10, P11, P12, P13, P14, L1, P15, N1, N2, N3, N4, N5, N6, N7, I1, I2, I3, I4, I5, I6, I7, reduceIte, reduceCtorEq]
      refine SemW_seq (SemW_of ?_)
      simp only [PP, P1, P2, P3, P4, P5, P6, P7, P8, P9, P10, P11, P12, P13, P14, L1, P15, N1, N2, N3, N4, N5, N6, N7, I1, I2, I3, I4, I5, I6, I7, reduceIte, reduceCtorEq]
      refine SemW_re (GStep.drop (b := [.cp (solC f1 o1 f2 o2 f3 o3 f4 o4 ow pr su) 0, .junk, .nils, .ptr 1 0 0, .junk, .junk, .junk, .junk, .junk, .junk, .junk, .junk, .junk, .junk, .junk, .junk, .junk, .junk, .junk, .junk, .junk, .junk, .junk, .junk, .bool c, .junk]) 2 (Nat.zero_le _) (by simp) (by simp only [PWeak_nil, PWeak_junk, PWeak_same]) (by simp only [PP, P1, P2, P3, P4, P5, P6, P7, P8, P9, P10, P11, P12, P13, P14, L1, P15, N1, N2, N3, N4, N5, N6, N7, I1, I2, I3, I4, I5, I6, I7, reduceIte, reduceCtorEq, msC_len, msC_one, msC_und, under_slM, msC_0, psub_msC, pover_msC, z9, z9t, msL_len, msL_und, msL_one, prepl_ms, limC_len, limC_one, limC_und, limC_len0, pfrzL_msC, pfrzL_limC, psub_limC, pover_limC, z8, pcells_cp, one_cp, solC_und, solC_0, solC_1, solC_2, PV.under]) (by simp only [List.take_succ_cons, List.take_zero, List.all_cons, List.all_nil, PObj.under, msL_und, underL_cons, underL_nil, under_ref, decide_true, Bool.and_self, Nat.zero_lt_succ]) rfl) ?_
      simp only [List.take_succ_cons, List.take_zero]
      refine SemW_of ?_
      simp only [PP, P1, P2, P3, P4, P5, P6, P7, P8, P9, P10, P11, P12, P13, P14, L1, P15, N1, N2, N3, N4, N5, N6, N7, I1, I2, I3, I4, I5, I6, I7, reduceIte, reduceCtorEq]
      have hb1 := sumN_le (n := ow.length) (m := Nf (limL pr) ms') hI'.bnd
      refine SemW_to (ih v1 1 c ms' ⟨hS', hI', fun h => by rw [(q1 h).1]; exact fun v hv => (q1 h).2 v hv⟩ ?_) (by simp only [PWeak_nil, PWeak_junk, PWeak_same, Int.cast_ofNat_Int, List.length_append, List.length_cons, List.length_nil, Nat.zero_add]) rfl
      cases c with
      | false => rw [(q1 rfl).1]; rw [if_neg (by decide), if_pos rfl]; omega
      | true => have := q2 rfl; rw [if_pos rfl]; omega
    · intro N h; exact h.elim
end
end Go.Am.Ar

