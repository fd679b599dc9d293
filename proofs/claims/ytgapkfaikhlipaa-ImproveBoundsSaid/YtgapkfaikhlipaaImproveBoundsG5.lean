/- The law that improving a strategy decreases no value, and what goes with it. -/
import Derived.Test.YtgapkfaikhlipaaImproveBoundsG4
set_option linter.unusedVariables false
set_option linter.unusedSimpArgs false
set_option maxRecDepth 10000
namespace Go.Am.Ar
open Go.Am.PV renaming junk → Z
open Go.Am renaming pchk → P1,pold → P2,PKNo → P3,ppack → P4,PObj.under → P5,pput → P6,ptset → P7,ptget → P8,pev → P9,ofAV → P10,ofAV1 → P11,ppad → P12,pfill → P13,prepl → P14,AO.effect → P15
open List renaming replicate → L1
open Nat renaming reduceAdd → N1,reduceSub → N2,reduceMul → N3,reduceLT → N4,reduceLeDiff → N5,reduceEqDiff → N6,reduceBEq → N7
open Int renaming reduceToNat → I1,reduceLT → I2,reduceLE → I3,reduceEq → I4,reduceAdd → I5,reduceSub → I6,reduceNeg → I7
theorem valsM_get {ow pr : List Int} {su : List (List Int)} {st : List Int} {v : Nat} (hv : v < st.length) : (valsM ow pr su st)[v]? = some (folA ow pr su st v) := tabA_get hv
theorem tmod_rng {a b : Int} (ha : 0 ≤ a) (hb : 0 < b) : 0 ≤ a.tmod b ∧ a.tmod b < b := by
  rw [Int.tmod_eq_emod_of_nonneg ha]
  exact ⟨Int.emod_nonneg _ (by omega),Int.emod_lt_of_pos _ hb⟩
def fulM (ow : List Int) (su : List (List Int)) (st ms : List Int) (v : Nat) : Int :=
  if ow.getD v 0 = 0 then st.getD v 0 else (su.getD v []).getD ((if v < ms.length then ms.getD v 0 else 0).tmod (su.getD v []).length).toNat 0
theorem fulM_mem {ow pr : List Int} {su : List (List Int)} {st ms : List Int} (V : Valid ow pr su) (hm : ∀ x ∈ ms,0 ≤ x) {v : Nat} (hv : v < ow.length) :
    ∃ row u,su[v]? = some row ∧ 0 < row.length ∧ row[((if v < ms.length then ms.getD v 0 else 0).tmod row.length).toNat]? = some u ∧ u ∈ row ∧ (su.getD v []).getD ((if v < ms.length then ms.getD v 0 else 0).tmod (su.getD v []).length).toNat 0 = u ∧ 0 ≤ (if v < ms.length then ms.getD v 0 else 0).tmod row.length ∧ (if v < ms.length then ms.getD v 0 else 0).tmod row.length < row.length := by
  have hvs : v < su.length := by rw [V.s]; exact hv
  obtain ⟨_,_,_,h0,_⟩ := V.row v hvs
  obtain ⟨row,gr⟩ := some_of hvs
  have er : su[v] = row := by rw [List.getElem?_eq_getElem hvs] at gr; cases gr; rfl
  rw [er] at h0
  have e2 : su.getD v [] = row := by simp [List.getD,gr]
  have hnn : 0 ≤ (if v < ms.length then ms.getD v 0 else 0) := by
    split
    · rename_i q
      obtain ⟨x,hx⟩ := some_of q
      rw [getD_some hx]; exact hm x (List.mem_of_getElem? hx)
    · exact Int.le_refl _
  have hr := tmod_rng hnn (show (0 : Int) < row.length by omega)
  obtain ⟨u,hu⟩ := some_of (xs := row) (k := ((if v < ms.length then ms.getD v 0 else 0).tmod row.length).toNat) (by omega)
  exact ⟨row,u,gr,h0,hu,List.mem_of_getElem? hu,by rw [e2]; exact getD_some hu,hr⟩
section
variable {tab : FuncId → Option AF} (T : HasA tab)
include T
end
end Go.Am.Ar
set_option linter.unusedVariables false
set_option linter.unusedSimpArgs false
set_option maxRecDepth 10000
namespace Go.Am.Ar
open Go.Am.PV renaming junk → Z
open Go.Am renaming pchk → P1,pold → P2,PKNo → P3,ppack → P4,PObj.under → P5,pput → P6,ptset → P7,ptget → P8,pev → P9,ofAV → P10,ofAV1 → P11,ppad → P12,pfill → P13,prepl → P14,AO.effect → P15
open List renaming replicate → L1
open Nat renaming reduceAdd → N1,reduceSub → N2,reduceMul → N3,reduceLT → N4,reduceLeDiff → N5,reduceEqDiff → N6,reduceBEq → N7
open Int renaming reduceToNat → I1,reduceLT → I2,reduceLE → I3,reduceEq → I4,reduceAdd → I5,reduceSub → I6,reduceNeg → I7
theorem fol_trans {ow pr : List Int} {su : List (List Int)} {a b c : List Int} (hc : checkM ow pr su = 0) (ha : MvOk su ow.length a) (hb : MvOk su ow.length b) (hcc : MvOk su ow.length c) {v : Nat} (hv : v < ow.length)
    (h1 : 0 ≤ ordI pr (folA ow pr su a v) (folA ow pr su b v)) (h2 : 0 ≤ ordI pr (folA ow pr su b v) (folA ow pr su c v)) : 0 ≤ ordI pr (folA ow pr su a v) (folA ow pr su c v) := by
  have O := ord3_ord fun v => ((valid_of hc).prI v).1
  have t1 := O.tr ⟨_,(val_ok hc hcc hv).nn⟩ ⟨_,(val_ok hc hb hv).nn⟩ ⟨_,(val_ok hc ha hv).nn⟩
  have a1 := O.anti ⟨_,(val_ok hc ha hv).nn⟩ ⟨_,(val_ok hc hb hv).nn⟩
  have a2 := O.anti ⟨_,(val_ok hc hb hv).nn⟩ ⟨_,(val_ok hc hcc hv).nn⟩
  have a3 := O.anti ⟨_,(val_ok hc ha hv).nn⟩ ⟨_,(val_ok hc hcc hv).nn⟩
  simp only at t1 a1 a2 a3
  omega
structure DomM (ow pr : List Int) (su : List (List Int)) (st1 bl : List Int) : Prop where
  l : bl.length = ow.length
  ok : comE ow pr su bl = 0
  dom : ∀ st',RespOk ow pr su (comM ow su bl) st' → ∀ v : Nat,v < ow.length → 0 ≤ ordI pr (folA ow pr su st' v) (folA ow pr su st1 v)
theorem DomM.next {ow pr : List Int} {su : List (List Int)} {st0 st1 bl st4 : List Int} (hc : checkM ow pr su = 0) (h01 : ∀ v,v < ow.length → ow.getD v 0 = 0 ∨ ow.getD v 0 = 1) (R1 : RespOk ow pr su st0 st1) (D : DomM ow pr su st1 bl) (R4 : RespOk ow pr su (comM ow su bl) st4) : DomM ow pr su st1 (impR ow pr su st4) :=
  ⟨impR_len,impR_ok hc R4,fun st' R' v hv => by
    have Q : RespOk ow pr su (impM 1 ow pr su (valsM ow pr su st4) 0 st4) st' := R'.congr fun v hv ho => impR_same hv ho
    exact fol_trans hc R'.ok R4.ok R1.ok hv (R4.up hc Q h01 hv) (D.dom st4 R4 v hv)⟩
section
variable {tab : FuncId → Option AF} (T : HasA tab)
include T
set_option maxHeartbeats 4000000 in
theorem ibounds_p {F : GF} {ow pr st ms : List Int} {su : List (List Int)} (ho : ∀ x ∈ ow,0 ≤ x) (hms : ∀ x ∈ ms,0 ≤ x ∧ x ≤ 255) :
    SemC tab 5 [.agg (gmF F ow pr su),slI false false .i64 st,slI false false .u8 ms] [] fun r _ => r = .bool true := by
  refine SemC_sem T.h5 ?_
  simp only [af5]
  refine SemW_seq (SemW_of ?_)
  simp only [PP,P1,P2,P3,P4,P5,P6,P7,P8,P9,P10,P11,P12,P13,P14,L1,P15,N1,N2,N3,N4,N5,N6,N7,I1,I2,I3,I4,I5,I6,I7,reduceIte,reduceCtorEq]
  refine SemW_seq (SemW_of ?_)
  simp only [PP,P1,P2,P3,P4,P5,P6,P7,P8,P9,P10,P11,P12,P13,P14,L1,P15,N1,N2,N3,N4,N5,N6,N7,I1,I2,I3,I4,I5,I6,I7,reduceIte,reduceCtorEq]
  refine long32_p T (ls := [st]) (f5 := true) (o5 := true) (f6 := false) (o6 := false) (by show 1 < 1000000000000; omega) (fun r hr => ?_)
  cases r with
  | true =>
    simp only [PP,P1,P2,P3,P4,P5,P6,P7,P8,P9,P10,P11,P12,P13,P14,L1,P15,N1,N2,N3,N4,N5,N6,N7,I1,I2,I3,I4,I5,I6,I7,reduceIte,reduceCtorEq]
    refine SemC_true T.awake ?_
    simp only [PP,P1,P2,P3,P4,P5,P6,P7,P8,P9,P10,P11,P12,P13,P14,L1,P15,N1,N2,N3,N4,N5,N6,N7,I1,I2,I3,I4,I5,I6,I7,reduceIte,reduceCtorEq]
  | false =>
  obtain ⟨hl,h14⟩ := hr rfl
  have S := longM_false hl
  have B := S.bnd
  have lst : st.length < big := by have := S.l st (by simp); show _ < 1000000000000; omega
  simp only [PP,P1,P2,P3,P4,P5,P6,P7,P8,P9,P10,P11,P12,P13,P14,L1,P15,N1,N2,N3,N4,N5,N6,N7,I1,I2,I3,I4,I5,I6,I7,reduceIte,reduceCtorEq]
  refine QIf.intro (fun c0 => ?_) (fun c0 => ?_)
  · simp only [PP,P1,P2,P3,P4,P5,P6,P7,P8,P9,P10,P11,P12,P13,P14,L1,P15,N1,N2,N3,N4,N5,N6,N7,I1,I2,I3,I4,I5,I6,I7,reduceIte,reduceCtorEq,c0]
    refine SemC_true T.awake ?_
    simp only [PP,P1,P2,P3,P4,P5,P6,P7,P8,P9,P10,P11,P12,P13,P14,L1,P15,N1,N2,N3,N4,N5,N6,N7,I1,I2,I3,I4,I5,I6,I7,reduceIte,reduceCtorEq]
  have hml : ms.length ≤ 60 := by omega
  simp only [PP,P1,P2,P3,P4,P5,P6,P7,P8,P9,P10,P11,P12,P13,P14,L1,P15,N1,N2,N3,N4,N5,N6,N7,I1,I2,I3,I4,I5,I6,I7,reduceIte,reduceCtorEq,c0]
  refine SemC_true T.awake ?_
  simp only [PP,P1,P2,P3,P4,P5,P6,P7,P8,P9,P10,P11,P12,P13,P14,L1,P15,N1,N2,N3,N4,N5,N6,N7,I1,I2,I3,I4,I5,I6,I7,reduceIte,reduceCtorEq]
  refine SemW_seq (SemW_of ?_)
  simp only [PP,P1,P2,P3,P4,P5,P6,P7,P8,P9,P10,P11,P12,P13,P14,L1,P15,N1,N2,N3,N4,N5,N6,N7,I1,I2,I3,I4,I5,I6,I7,reduceIte,reduceCtorEq]
  refine valuation_p T B h14 lst (fun e => ?_) (fun e st1 R1 => ?_)
  · simp only [PP,P1,P2,P3,P4,P5,P6,P7,P8,P9,P10,P11,P12,P13,P14,L1,P15,N1,N2,N3,N4,N5,N6,N7,I1,I2,I3,I4,I5,I6,I7,reduceIte,reduceCtorEq]
    refine SemW_seq (SemW_of ?_)
    simp only [PP,P1,P2,P3,P4,P5,P6,P7,P8,P9,P10,P11,P12,P13,P14,L1,P15,N1,N2,N3,N4,N5,N6,N7,I1,I2,I3,I4,I5,I6,I7,reduceIte,reduceCtorEq,e]
  obtain ⟨hc,hstl,hst⟩ := comE_ok e
  have V := valid_of hc
  have hp := fun v => (V.prI v).1
  have n0 := V.n0
  have n1 := V.n1
  have hpl := V.p
  have hsl := V.s
  have l1 : (valsM ow pr su st1).length = ow.length := by rw [valsM,tabA_len,R1.ok.l]
  have h01 : ∀ v,v < ow.length → ow.getD v 0 = 0 ∨ ow.getD v 0 = 1 := fun v hv => by
    obtain ⟨_,_,h1,_,_⟩ := V.row v (by omega)
    obtain ⟨x,hx⟩ := some_of hv
    have := ho x (List.mem_of_getElem? hx)
    rw [getD_some hx] at h1 ⊢; omega
  simp only [PP,P1,P2,P3,P4,P5,P6,P7,P8,P9,P10,P11,P12,P13,P14,L1,P15,N1,N2,N3,N4,N5,N6,N7,I1,I2,I3,I4,I5,I6,I7,reduceIte,reduceCtorEq]
  refine SemW_seq (SemW_of ?_)
  simp only [PP,P1,P2,P3,P4,P5,P6,P7,P8,P9,P10,P11,P12,P13,P14,L1,P15,N1,N2,N3,N4,N5,N6,N7,I1,I2,I3,I4,I5,I6,I7,reduceIte,reduceCtorEq]
  refine rWrong_p T B ho lst ?_
  rw [e]
  simp only [PP,P1,P2,P3,P4,P5,P6,P7,P8,P9,P10,P11,P12,P13,P14,L1,P15,N1,N2,N3,N4,N5,N6,N7,I1,I2,I3,I4,I5,I6,I7,reduceIte,reduceCtorEq]
  refine SemW_seq (SemW_of ?_)
  simp only [PP,P1,P2,P3,P4,P5,P6,P7,P8,P9,P10,P11,P12,P13,P14,L1,P15,N1,N2,N3,N4,N5,N6,N7,I1,I2,I3,I4,I5,I6,I7,reduceIte,reduceCtorEq]
  refine SemC_fn T.h13 ?_
  have s8 : st.length * 8 ≤ 140737488355328 ∧ st.length ≤ 9223372036854775807 := ⟨by omega,by omega⟩
  simp only [af13,PP,P1,P2,P3,P4,P5,P6,P7,P8,P9,P10,P11,P12,P13,P14,L1,P15,N1,N2,N3,N4,N5,N6,N7,I1,I2,I3,I4,I5,I6,I7,reduceIte,reduceCtorEq,s8.1,s8.2]
  refine SemW_seq (SemW_of ?_)
  simp only [PP,P1,P2,P3,P4,P5,P6,P7,P8,P9,P10,P11,P12,P13,P14,L1,P15,N1,N2,N3,N4,N5,N6,N7,I1,I2,I3,I4,I5,I6,I7,reduceIte,reduceCtorEq]
  refine copyInts_p T lst ?_
  simp only [PP,P1,P2,P3,P4,P5,P6,P7,P8,P9,P10,P11,P12,P13,P14,L1,P15,N1,N2,N3,N4,N5,N6,N7,I1,I2,I3,I4,I5,I6,I7,reduceIte,reduceCtorEq]
  refine SemW_seq (SemW_of ?_)
  simp only [PP,P1,P2,P3,P4,P5,P6,P7,P8,P9,P10,P11,P12,P13,P14,L1,P15,N1,N2,N3,N4,N5,N6,N7,I1,I2,I3,I4,I5,I6,I7,reduceIte,reduceCtorEq]
  have hst0 : st = tabA ow.length fun v => if v < 0 then fulM ow su st ms v else st.getD v 0 := by
    refine tabA_ext hstl fun v hv => ?_
    rw [if_neg (by omega)]
    obtain ⟨x,hx⟩ := some_of (xs := st) (k := v) (by omega)
    rw [getD_some hx,hx]
  refine loop2 (fun (k ver : Nat) => k ≤ ow.length) (fun k ver => [Z,Z,slI false false .u8 ms,.ptr 0 0 0,Z,Z,Z,.sl false true 3 ow.length (vlsL (valsM ow pr su st1)),Z,.ref 1 0 1 0 st.length,slI false true .i64 st,p64 k,Z,Z,Z,Z,Z,Z,Z,Z,Z,Z,Z,Z,Z,Z,Z,Z,Z,Z,Z,Z,Z,Z,Z,Z,Z,Z,Z,Z,Z,Z,Z,Z,Z,Z,Z,Z,Z,Z,Z,Z,Z,Z,Z,Z,Z,Z,Z,Z,Z,Z,Z,Z,Z,Z,Z,Z,Z,Z,Z,Z,Z,Z,Z,Z,Z,Z,Z,Z,Z,Z,Z,Z,Z,Z,Z,Z,Z,Z,Z,Z,Z,Z,Z,Z,Z,Z,Z,Z,Z,Z,Z,Z,Z,Z,Z,Z,Z,Z,Z,Z,Z,Z,Z,Z,Z,Z,Z,Z,Z,Z,Z,Z,Z,Z,Z,Z,Z,Z,Z,Z,Z,Z,Z,Z,Z,Z,Z,Z,Z,Z,Z,Z,Z,Z,Z,Z,Z,Z,Z,Z,Z,Z,Z,Z,Z,Z,Z,Z,Z,Z,Z,Z,Z,Z,Z,Z,Z,Z,Z,Z,Z,Z,Z,Z,Z,Z,Z,Z,Z,Z,Z,Z,Z,Z,Z,Z,Z,Z,Z,Z,Z,Z,Z,Z,Z,Z,Z])
    (fun k ver => [.cells 0 0 (gmF F ow pr su),.cells 0 ver ((tabA ow.length fun v => if v < k then fulM ow su st ms v else st.getD v 0).map p64)]) (fun k _ => ow.length - k) 0 0 (Nat.zero_le _) (by simp only [PWeak_nil,PWeak_junk,PWeak_same,Int.cast_ofNat_Int,List.length_append,List.length_cons,List.length_nil,Nat.zero_add]) (by rw [← hst0]) ?_
  intro k ver hle ih
  obtain ⟨X,hX⟩ : ∃ X,X = tabA ow.length fun v => if v < k then fulM ow su st ms v else st.getD v 0 := ⟨_,rfl⟩
  have hXl : X.length = ow.length := by rw [hX,tabA_len]
  rw [← hX]
  refine SemW_go (by kernel_rfl) ?_
  simp only [PP,P1,P2,P3,P4,P5,P6,P7,P8,P9,P10,P11,P12,P13,P14,L1,P15,N1,N2,N3,N4,N5,N6,N7,I1,I2,I3,I4,I5,I6,I7,reduceIte,reduceCtorEq,hstl]
  refine QIf.intro (fun d2 => ?_) (fun d2 => ?_)
  · have hk : k < ow.length := by omega
    have hw := wrap_succ (k := k) (by show _ < 1000000000000; omega)
    have k0 : (0 : Int) ≤ k := by omega
    have hkX : k < X.length := by omega
    obtain ⟨row,u,gr,hr0,gu,hur,eu,m0,m1⟩ := fulM_mem (ms := ms) (st := st) V (fun x hx => (hms x hx).1) hk
    obtain ⟨o,go⟩ := some_of (xs := ow) (k := k) hk
    have eo : ow.getD k 0 = o := getD_some go
    have ho1 := h01 k hk
    rw [eo] at ho1
    have ks : (k : Int) < su.length := by omega
    have rz : (row.length : Int) ≠ 0 := by omega
    have hup : ∀ y,fulM ow su st ms k = y → X.set k y = tabA ow.length fun v => if v < k + 1 then fulM ow su st ms v else st.getD v 0 := fun y hy => by
      rw [hX,tabA_set y hk]
      refine tabA_congr fun v hv => ?_
      by_cases e : v = k
      · subst e; rw [if_pos rfl,if_pos (show v < v + 1 by omega),hy]
      · rw [if_neg e]
        by_cases q : v < k
        · rw [if_pos q,if_pos (show v < k + 1 by omega)]
        · rw [if_neg q,if_neg (show ¬ v < k + 1 by omega)]
    have hset : ∀ y,(X.map p64).set k (p64 y) = (X.set k y).map p64 := fun y => by rw [List.map_set]
    have hfin : (o = 0 → fulM ow su st ms k = st.getD k 0) ∧ (o ≠ 0 → fulM ow su st ms k = u) := by
      unfold fulM
      rw [eo,eu]
      exact ⟨fun h => if_pos h,fun h => if_neg h⟩
    have gX : X[k]? = some (st.getD k 0) := by rw [hX,tabA_get hk,if_neg (by omega)]
    have hid : X.set k (st.getD k 0) = X := by
      refine List.ext_getElem? fun i => ?_
      by_cases e : k = i
      · subst e; rw [List.getElem?_set_self hkX,gX]
      · rw [List.getElem?_set_ne e]
    simp only [PP,P1,P2,P3,P4,P5,P6,P7,P8,P9,P10,P11,P12,P13,P14,L1,P15,N1,N2,N3,N4,N5,N6,N7,I1,I2,I3,I4,I5,I6,I7,reduceIte,reduceCtorEq,d2,go,k0]
    refine QIf.intro (fun e => ?_) (fun e => ?_)
    rotate_left
    · have h1 := hup _ (hfin.1 (by omega))
      simp only [PP,P1,P2,P3,P4,P5,P6,P7,P8,P9,P10,P11,P12,P13,P14,L1,P15,N1,N2,N3,N4,N5,N6,N7,I1,I2,I3,I4,I5,I6,I7,reduceIte,reduceCtorEq,e,hw]
      exact SemW_to (ih (k + 1) ver (by omega) (by omega)) (by simp only [PWeak_nil,PWeak_junk,PWeak_same,hstl]) (by rw [← h1,hid])
    have h1 := hup u (hfin.2 (by omega))
    by_cases q : k < ms.length
    · obtain ⟨mv,gm⟩ := some_of q
      have hmv := hms mv (List.mem_of_getElem? gm)
      have wmv : IntKind.i64.wrap mv = mv := wrap64 (by omega) (by omega)
      have qq : (k : Int) < ms.length := by omega
      rw [if_pos q,getD_some gm] at gu m0 m1
      simp only [PP,P1,P2,P3,P4,P5,P6,P7,P8,P9,P10,P11,P12,P13,P14,L1,P15,N1,N2,N3,N4,N5,N6,N7,I1,I2,I3,I4,I5,I6,I7,reduceIte,reduceCtorEq,e,d2,qq,gm,k0,wmv,gr,ks,prem rz,m0,m1,gu,hkX,hset,go,hstl,hw]
      exact ⟨by omega,SemW_to (ih (k + 1) (ver + 1) (by omega) (by omega)) (by simp only [PWeak_nil,PWeak_junk,PWeak_same,hstl]) (by rw [h1])⟩
    · have qq : ¬ (k : Int) < ms.length := by omega
      rw [if_neg q] at gu m0 m1
      simp only [PP,P1,P2,P3,P4,P5,P6,P7,P8,P9,P10,P11,P12,P13,P14,L1,P15,N1,N2,N3,N4,N5,N6,N7,I1,I2,I3,I4,I5,I6,I7,reduceIte,reduceCtorEq,e,d2,qq,k0,gr,ks,prem rz,m0,m1,gu,hkX,hset,go,hstl,hw]
      exact ⟨by omega,SemW_to (ih (k + 1) (ver + 1) (by omega) (by omega)) (by simp only [PWeak_nil,PWeak_junk,PWeak_same,hstl]) (by rw [h1])⟩
  have hkn2 : k = ow.length := by omega
  have hXf : X = tabA ow.length (fulM ow su st ms) := by rw [hX]; exact tabA_congr fun v hv => if_pos (by omega)
  have Xat : ∀ v,v < ow.length → X.getD v 0 = fulM ow su st ms v := fun v hv => by
    have : X[v]? = some (fulM ow su st ms v) := by rw [hXf]; exact tabA_get hv
    exact getD_some this
  have XM : MvOk su ow.length X := ⟨hXl,fun v hv => by
    rw [Xat v hv]
    unfold fulM
    split
    · rename_i q; exact (hst v hv).resolve_left (by omega)
    · obtain ⟨row,u,gr,_,_,hur,eu,_,_⟩ := fulM_mem (ms := ms) (st := st) V (fun x hx => (hms x hx).1) hv
      rw [eu]
      have : su.getD v [] = row := by simp [List.getD,gr]
      rw [this]; exact hur⟩
  have hmin : ∀ v : Nat,v < ow.length → 0 ≤ ordI pr (folA ow pr su X v) (folA ow pr su st1 v) := fun v hv => R1.min hc XM (fun v hv ho1 => by
    rw [Xat v hv,comM_same hv ho1]
    unfold fulM
    rw [if_pos ((h01 v hv).resolve_right ho1)]) hv
  have D0 : DomM ow pr su st1 st := ⟨hstl,e,fun st' R' v hv => by
    rw [R'.uniq hc R1 hv,self_fol hc R1.ok (by omega) (by omega)]; exact Int.le_refl _⟩
  simp only [PP,P1,P2,P3,P4,P5,P6,P7,P8,P9,P10,P11,P12,P13,P14,L1,P15,N1,N2,N3,N4,N5,N6,N7,I1,I2,I3,I4,I5,I6,I7,reduceIte,reduceCtorEq,d2]
  obtain ⟨QN,hQN⟩ : ∃ QN : List PV → Mem → Prop,QN = fun b N => ∃ bl,DomM ow pr su st1 bl ∧ PWeak b [Z,Z,Z,.ptr 0 0 0,Z,Z,Z,.sl false true 3 ow.length (vlsL (valsM ow pr su st1)),Z,.ref 1 0 1 0 ow.length,slI false true .i64 bl,Z,Z,Z,Z,Z,Z,Z,Z,Z,Z,Z,Z,Z,Z,Z,Z,Z,Z,Z,Z,Z,Z,Z,Z,Z,Z,Z,Z,Z,Z,Z,Z,Z,Z,Z,Z,Z,Z,Z,Z,Z,Z,Z,Z,Z,Z,Z,Z,Z,Z,Z,Z,Z,Z,Z,Z,Z,Z,Z,Z,Z,Z,Z,Z,Z,Z,Z,Z,Z,Z,Z,Z,Z,Z,Z,Z,Z,Z,Z,Z,Z,Z,Z,Z,Z,Z,Z,Z,Z,Z,Z,Z,Z,Z,Z,Z,Z,Z,Z,Z,Z,Z,Z,Z,Z,Z,Z,Z,Z,Z,Z,Z,Z,Z,Z,Z,Z,Z,Z,Z,Z,Z,Z,Z,Z,Z,Z,Z,Z,Z,Z,Z,Z,Z,Z,Z,Z,Z,Z,Z,Z,Z,Z,Z,Z,Z,Z,Z,Z,Z,Z,Z,Z,Z,Z,Z,Z,Z,Z,Z,Z,Z,Z,Z,Z,Z,Z,Z,Z,Z,Z,Z,Z,Z,Z,Z,Z,Z,Z,Z,Z,Z,Z,Z,Z,Z,Z,Z] ∧ N = [.cells 0 0 (gmF F ow pr su),.cells 0 ver (X.map p64)] := ⟨_,rfl⟩
  refine SemW_seq (SemW_mono (Qn := QN) (SemW_of ?_) ?_ (fun _ _ h => h) (fun _ _ _ h => h))
  · simp only [PP,P1,P2,P3,P4,P5,P6,P7,P8,P9,P10,P11,P12,P13,P14,L1,P15,N1,N2,N3,N4,N5,N6,N7,I1,I2,I3,I4,I5,I6,I7,reduceIte,reduceCtorEq]
    refine loop2 (fun (j : Nat) (bl : List Int) => DomM ow pr su st1 bl ∧ j ≤ 200) (fun j bl => [Z,Z,Z,.ptr 0 0 0,Z,Z,Z,.sl false true 3 ow.length (vlsL (valsM ow pr su st1)),Z,.ref 1 0 1 0 ow.length,slI false true .i64 bl,Z,Z,p64 j,Z,Z,Z,Z,Z,Z,Z,Z,Z,Z,Z,Z,Z,Z,Z,Z,Z,Z,Z,Z,Z,Z,Z,Z,Z,Z,Z,Z,Z,Z,Z,Z,Z,Z,Z,Z,Z,Z,Z,Z,Z,Z,Z,Z,Z,Z,Z,Z,Z,Z,Z,Z,Z,Z,Z,Z,Z,Z,Z,Z,Z,Z,Z,Z,Z,Z,Z,Z,Z,Z,Z,Z,Z,Z,Z,Z,Z,Z,Z,Z,Z,Z,Z,Z,Z,Z,Z,Z,Z,Z,Z,Z,Z,Z,Z,Z,Z,Z,Z,Z,Z,Z,Z,Z,Z,Z,Z,Z,Z,Z,Z,Z,Z,Z,Z,Z,Z,Z,Z,Z,Z,Z,Z,Z,Z,Z,Z,Z,Z,Z,Z,Z,Z,Z,Z,Z,Z,Z,Z,Z,Z,Z,Z,Z,Z,Z,Z,Z,Z,Z,Z,Z,Z,Z,Z,Z,Z,Z,Z,Z,Z,Z,Z,Z,Z,Z,Z,Z,Z,Z,Z,Z,Z,Z,Z,Z,Z,Z,Z,Z,Z,Z,Z,Z,Z])
      (fun _ _ => [.cells 0 0 (gmF F ow pr su),.cells 0 ver (X.map p64)]) (fun j _ => 200 - j) 0 st ⟨D0,by omega⟩ (by simp only [PWeak_nil,PWeak_junk,PWeak_same,Int.cast_ofNat_Int,hstl]) rfl ?_
    intro j bl ⟨D,hj⟩ ih2
    have hbl := D.l
    refine SemW_go (by kernel_rfl) ?_
    simp only [PP,P1,P2,P3,P4,P5,P6,P7,P8,P9,P10,P11,P12,P13,P14,L1,P15,N1,N2,N3,N4,N5,N6,N7,I1,I2,I3,I4,I5,I6,I7,reduceIte,reduceCtorEq]
    refine QIf.intro (fun c => ?_) (fun c => ?_)
    rotate_left
    · simp only [PP,P1,P2,P3,P4,P5,P6,P7,P8,P9,P10,P11,P12,P13,P14,L1,P15,N1,N2,N3,N4,N5,N6,N7,I1,I2,I3,I4,I5,I6,I7,reduceIte,reduceCtorEq,c]
      rw [hQN]
      exact ⟨bl,D,(by simp only [PWeak_nil,PWeak_junk,PWeak_same,Int.cast_ofNat_Int,List.length_append,List.length_cons,List.length_nil,Nat.zero_add]),rfl⟩
    have hw := wrap_succ (k := j) (by show _ < 1000000000000; omega)
    simp only [PP,P1,P2,P3,P4,P5,P6,P7,P8,P9,P10,P11,P12,P13,P14,L1,P15,N1,N2,N3,N4,N5,N6,N7,I1,I2,I3,I4,I5,I6,I7,reduceIte,reduceCtorEq,c]
    refine Improve_p T B h14 (by rw [D.l]; show _ < 1000000000000; omega) (fun e2 => absurd D.ok e2) (fun _ st4 R4 => ?_)
    have hil : (impR ow pr su st4).length = ow.length := impR_len
    cases hch : chgM 1 ow pr su (valsM ow pr su st4) 0 st4 with
    | false =>
      simp only [PP,P1,P2,P3,P4,P5,P6,P7,P8,P9,P10,P11,P12,P13,P14,L1,P15,N1,N2,N3,N4,N5,N6,N7,I1,I2,I3,I4,I5,I6,I7,reduceIte,reduceCtorEq,hil,hbl]
      rw [hQN]
      exact ⟨bl,D,(by simp only [PWeak_nil,PWeak_junk,PWeak_same,hil,hbl]),rfl⟩
    | true =>
      simp only [PP,P1,P2,P3,P4,P5,P6,P7,P8,P9,P10,P11,P12,P13,P14,L1,P15,N1,N2,N3,N4,N5,N6,N7,I1,I2,I3,I4,I5,I6,I7,reduceIte,reduceCtorEq,hil,hbl,hw]
      exact SemW_weak (ih2 (j + 1) (impR ow pr su st4) ⟨D.next hc h01 R1 R4,by omega⟩ (by omega)) (by simp only [PWeak_nil,PWeak_junk,PWeak_same,hil,hbl])
  rw [hQN]
  rintro b N ⟨bl,D,hb,rfl⟩
  have hbl := D.l
  refine SemW_weak ?_ hb
  refine SemW_seq (SemW_of ?_)
  simp only [PP,P1,P2,P3,P4,P5,P6,P7,P8,P9,P10,P11,P12,P13,P14,L1,P15,N1,N2,N3,N4,N5,N6,N7,I1,I2,I3,I4,I5,I6,I7,reduceIte,reduceCtorEq]
  refine valuation_p T B h14 (by rw [D.l]; show _ < 1000000000000; omega) (fun e2 => absurd D.ok e2) (fun _ st5 R5 => ?_)
  have l5 : (valsM ow pr su st5).length = ow.length := by rw [valsM,tabA_len,R5.ok.l]
  simp only [PP,P1,P2,P3,P4,P5,P6,P7,P8,P9,P10,P11,P12,P13,P14,L1,P15,N1,N2,N3,N4,N5,N6,N7,I1,I2,I3,I4,I5,I6,I7,reduceIte,reduceCtorEq]
  refine SemW_seq (SemW_of ?_)
  simp only [PP,P1,P2,P3,P4,P5,P6,P7,P8,P9,P10,P11,P12,P13,P14,L1,P15,N1,N2,N3,N4,N5,N6,N7,I1,I2,I3,I4,I5,I6,I7,reduceIte,reduceCtorEq]
  refine SemW_seq (SemW_of ?_)
  simp only [PP,P1,P2,P3,P4,P5,P6,P7,P8,P9,P10,P11,P12,P13,P14,L1,P15,N1,N2,N3,N4,N5,N6,N7,I1,I2,I3,I4,I5,I6,I7,reduceIte,reduceCtorEq]
  refine loop2 (fun (j : Nat) (G : Mem) => j ≤ ow.length) (fun j _ => [Z,Z,Z,.ptr 0 0 0,Z,Z,Z,.sl false true 3 ow.length (vlsL (valsM ow pr su st1)),Z,.ref 1 0 1 0 ow.length,Z,Z,Z,Z,Z,Z,Z,.sl false true 3 ow.length (vlsL (valsM ow pr su st5)),Z,p64 j,Z,Z,Z,Z,Z,Z,Z,Z,Z,Z,Z,Z,Z,Z,Z,Z,Z,Z,Z,Z,Z,Z,Z,Z,Z,Z,Z,Z,Z,Z,Z,Z,Z,Z,Z,Z,Z,Z,Z,Z,Z,Z,Z,Z,Z,Z,Z,Z,Z,Z,Z,Z,Z,Z,Z,Z,Z,Z,Z,Z,Z,Z,Z,Z,Z,Z,Z,Z,Z,Z,Z,Z,Z,Z,Z,Z,Z,Z,Z,Z,Z,Z,Z,Z,Z,Z,Z,Z,Z,Z,Z,Z,Z,Z,Z,Z,Z,Z,Z,Z,Z,Z,Z,Z,Z,Z,Z,Z,Z,Z,Z,Z,Z,Z,Z,Z,Z,Z,Z,Z,Z,Z,Z,Z,Z,Z,Z,Z,Z,Z,Z,Z,Z,Z,Z,Z,Z,Z,Z,Z,Z,Z,Z,Z,Z,Z,Z,Z,Z,Z,Z,Z,Z,Z,Z,Z,Z,Z,Z,Z,Z,Z,Z,Z,Z,Z,Z,Z,Z,Z,Z,Z,Z,Z,Z,Z,Z,Z,Z])
    (fun _ G => .cells 0 0 (gmF F ow pr su) :: .cells 0 ver (X.map p64) :: G) (fun j _ => ow.length - j) 0 [] (Nat.zero_le _) (by simp only [PWeak_nil,PWeak_junk,PWeak_same,Int.cast_ofNat_Int,List.length_append,List.length_cons,List.length_nil,Nat.zero_add]) rfl ?_
  intro j G hj ih2
  refine SemW_go (by kernel_rfl) ?_
  simp only [PP,P1,P2,P3,P4,P5,P6,P7,P8,P9,P10,P11,P12,P13,P14,L1,P15,N1,N2,N3,N4,N5,N6,N7,I1,I2,I3,I4,I5,I6,I7,reduceIte,reduceCtorEq]
  refine QIf.intro (fun c => ?_) (fun c => ?_)
  rotate_left
  · simp only [PP,P1,P2,P3,P4,P5,P6,P7,P8,P9,P10,P11,P12,P13,P14,L1,P15,N1,N2,N3,N4,N5,N6,N7,I1,I2,I3,I4,I5,I6,I7,reduceIte,reduceCtorEq,c]
    refine SemW_of ?_
    simp only [PP,P1,P2,P3,P4,P5,P6,P7,P8,P9,P10,P11,P12,P13,P14,L1,P15,N1,N2,N3,N4,N5,N6,N7,I1,I2,I3,I4,I5,I6,I7,reduceIte,reduceCtorEq]
  have hk : j < ow.length := by omega
  have hw := wrap_succ (k := j) (by show _ < 1000000000000; omega)
  have k0 : (0 : Int) ≤ j := by omega
  have g1 := psub_vls (valsM_get (ow := ow) (pr := pr) (su := su) (st := st1) (v := j) (by rw [R1.ok.l]; exact hk))
  have g5 := psub_vls (valsM_get (ow := ow) (pr := pr) (su := su) (st := st5) (v := j) (by rw [R5.ok.l]; exact hk))
  have b1 : j * 3 + 3 ≤ (vlsL (valsM ow pr su st1)).length := by rw [vlsL_len]; omega
  have b5 : j * 3 + 3 ≤ (vlsL (valsM ow pr su st5)).length := by rw [vlsL_len]; omega
  have ok1 := val_ok hc R1.ok hk
  have ok5 := val_ok hc R5.ok hk
  have okX := val_ok hc XM hk
  obtain ⟨c1,c2⟩ := cmp_ok hc ok1 okX
  obtain ⟨c3,c4⟩ := cmp_ok hc ok1 ok5
  have anX := (ord3_ord hp).anti ⟨_,ok1.nn⟩ ⟨_,okX.nn⟩
  have an5 := (ord3_ord hp).anti ⟨_,ok1.nn⟩ ⟨_,ok5.nn⟩
  simp only at anX an5
  have uX := hmin j hk
  have u5 := D.dom st5 R5 j hk
  have nX : ¬ 0 < ordI pr (folA ow pr su st1 j) (folA ow pr su X j) := by omega
  have n5 : ¬ 0 < ordI pr (folA ow pr su st1 j) (folA ow pr su st5 j) := by omega
  have hplay := XM.play V hc hk
  simp only [PP,P1,P2,P3,P4,P5,P6,P7,P8,P9,P10,P11,P12,P13,P14,L1,P15,N1,N2,N3,N4,N5,N6,N7,I1,I2,I3,I4,I5,I6,I7,reduceIte,reduceCtorEq,c]
  refine SemC_borF (args3 := [.agg (gmF F0 ow pr su),slI false false .i64 X,p64 j]) (.same (by simp only [PP,P1,P2,P3,P4,P5,P6,P7,P8,P9,P10,P11,P12,P13,P14,L1,P15,N1,N2,N3,N4,N5,N6,N7,I1,I2,I3,I4,I5,I6,I7,reduceIte,reduceCtorEq]) (.ints rfl hXl (.same rfl .nil))) (by simp only [ageL,PV.age,ageL_ints,ageL_slI]) (follow_p T B h14 (by rw [hXl]; show _ < 1000000000000; omega) ⟨?_, ?_⟩)
  · simp only [young_tuple,young_agg,youngL_cons,youngL_nil,young_slI,young_int,Bool.and_true]
  rw [hplay]
  have jl : (j : Int) < ow.length := by omega
  simp only [PP,P1,P2,P3,P4,P5,P6,P7,P8,P9,P10,P11,P12,P13,P14,L1,P15,N1,N2,N3,N4,N5,N6,N7,I1,I2,I3,I4,I5,I6,I7,reduceIte,reduceCtorEq,gkI0,skI0,k0,jl,g1,b1]
  refine vcompare_p T B (ok1.bg n1) (okX.bg n1) ?_
  rw [c1,c2]
  simp only [PP,P1,P2,P3,P4,P5,P6,P7,P8,P9,P10,P11,P12,P13,P14,L1,P15,N1,N2,N3,N4,N5,N6,N7,I1,I2,I3,I4,I5,I6,I7,reduceIte,reduceCtorEq,k0,jl,g1,g5,b1,b5]
  refine vcompare_p T B (ok1.bg n1) (ok5.bg n1) ?_
  rw [c3,c4]
  simp only [PP,P1,P2,P3,P4,P5,P6,P7,P8,P9,P10,P11,P12,P13,P14,L1,P15,N1,N2,N3,N4,N5,N6,N7,I1,I2,I3,I4,I5,I6,I7,reduceIte,reduceCtorEq,nX,n5,hw]
  exact SemW_to (ih2 (j + 1) (G ++ [_]) (by omega) (by omega)) (by simp only [PWeak_nil,PWeak_junk,PWeak_same,Int.cast_ofNat_Int,List.length_append,List.length_cons,List.length_nil,Nat.zero_add]) rfl
theorem ibounds_all (args : List AV) (h : H) (hs : ShVs [gameTy,.slice (.int .i64),.slice (.int .u8)] args h) :
    ∃ n h',(run tab n).call 5 args h = some (.bool true,h') := by
  obtain ⟨a,b,c,rfl,ha,hb,hc⟩ := shVs3 hs
  obtain ⟨ow,pr,su,r1,N⟩ := arg_game ha
  obtain ⟨st,r2,_⟩ := arg_ints hb
  obtain ⟨ms,r3,_,q3⟩ := arg_ints hc
  exact run_of_C (law_of_sem (.cons r1 (.cons r2 (.cons r3 (.nil _)))) (ibounds_p T (F := ⟨false,false,false,false,false,false,false,false⟩) (fun x hx => (N.o x hx).1) q3))
end
end Go.Am.Ar

