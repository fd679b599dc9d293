/- Contracts: automata compared and copied, and what goes with it. -/
import Derived.Test.YtfapjojfiaiidaaSimulateMatchesG0
import Derived.Test.YtfapjojfiaiidaaSimulateMatchesG3
import Derived.Test.YtfapjojfiaiidaaPmC
set_option linter.unusedVariables false
set_option linter.unusedSimpArgs false
set_option maxRecDepth 10000
namespace Go.Am.Ar
open Go.Am.PV renaming junk → Z
open Go.Am renaming pchk → P1,pold → P2,PKNo → P3,ppack → P4,PObj.under → P5,pput → P6,ptset → P7,ptget → P8,pev → P9,ofAV → P10,ofAV1 → P11,ppad → P12,pfill → P13,prepl → P14,AO.effect → P15
open List renaming replicate → L1
open Nat renaming reduceAdd → N1,reduceSub → N2,reduceMul → N3,reduceLT → N4,reduceLeDiff → N5,reduceEqDiff → N6,reduceBEq → N7
open Int renaming reduceToNat → I1,reduceLT → I2,reduceLE → I3,reduceEq → I4,reduceAdd → I5,reduceSub → I6,reduceNeg → I7
theorem NF.ext' {N N' : NF} (h1 : N.vs = N'.vs) (h2 : N.n = N'.n) (h3 : N.st = N'.st) (h4 : N.fi = N'.fi) (h5 : N.es = N'.es) : N = N' := by
  cases N; cases N'; simp_all
section
variable {tab : FuncId → Option AF} (T : HasA tab)
include T
theorem equalB_p {M : Mem} {K : PV → Mem → Prop} {f o f' o' : Bool} {xs ys : List Bool} (hm : xs.length < big) (hk : K (.bool (decide (xs = ys))) M) :
    SemC tab 27 [slB f o xs,slB f' o' ys] M K := by
  refine SemC_pure T.h27 (by simp only [PP,P1,P2,P3,P4,P5,P6,P7,P8,P9,P10,P11,P12,P13,P14,L1,P15,N1,N2,N3,N4,N5,N6,N7,I1,I2,I3,I4,I5,I6,I7,reduceIte,reduceCtorEq]) ?_
  simp only [af27,PP,P1,P2,P3,P4,P5,P6,P7,P8,P9,P10,P11,P12,P13,P14,L1,P15,N1,N2,N3,N4,N5,N6,N7,I1,I2,I3,I4,I5,I6,I7,reduceIte,reduceCtorEq]
  refine QIf.intro (fun c1 => ?_) (fun c1 => ?_)
  · simp only [PP,P1,P2,P3,P4,P5,P6,P7,P8,P9,P10,P11,P12,P13,P14,L1,P15,N1,N2,N3,N4,N5,N6,N7,I1,I2,I3,I4,I5,I6,I7,reduceIte,reduceCtorEq,c1]
    have hl : xs.length = ys.length := by omega
    refine loop1 (fun (k : Nat) => k ≤ xs.length ∧ K (.bool (decide (xs.drop k = ys.drop k))) M) (fun k => [slB f o xs,slB f' o' ys,Z,Z,Z,p64 k,Z,Z,Z,Z,Z,Z,Z,Z,Z,Z,Z,Z,Z,Z,Z,Z,Z,Z,Z,Z]) (fun _ => []) (fun k => xs.length - k) 0 ⟨by omega,hk⟩ (by simp only [PWeak_nil,PWeak_junk,PWeak_same,Int.cast_ofNat_Int,List.length_append,List.length_cons,List.length_nil,Nat.zero_add]) rfl ?_
    intro k ⟨hle,hq⟩ ih
    refine SemW_go (by kernel_rfl) ?_
    simp only [PP,P1,P2,P3,P4,P5,P6,P7,P8,P9,P10,P11,P12,P13,P14,L1,P15,N1,N2,N3,N4,N5,N6,N7,I1,I2,I3,I4,I5,I6,I7,reduceIte,reduceCtorEq]
    refine QIf.intro (fun c => ?_) (fun c => ?_)
    · have hk' : k < xs.length := by omega
      have hk2 : k < ys.length := by omega
      obtain ⟨x,gx⟩ := some_of hk'
      obtain ⟨y,gy⟩ := some_of hk2
      rw [drop_some gx,drop_some gy] at hq
      have hw := wrap_succ (k := k) (by omega)
      have h0 : (0 : Int) ≤ k := by omega
      have cy : (k : Int) < ys.length := by omega
      simp only [PP,P1,P2,P3,P4,P5,P6,P7,P8,P9,P10,P11,P12,P13,P14,L1,P15,N1,N2,N3,N4,N5,N6,N7,I1,I2,I3,I4,I5,I6,I7,reduceIte,reduceCtorEq,c,gx,gy,hw,h0,cy]
      by_cases e : x = y
      · subst e
        simp only [PP,P1,P2,P3,P4,P5,P6,P7,P8,P9,P10,P11,P12,P13,P14,L1,P15,N1,N2,N3,N4,N5,N6,N7,I1,I2,I3,I4,I5,I6,I7,reduceIte,reduceCtorEq,hw,List.cons.injEq] at hq ⊢
        exact SemW_weak (ih (k + 1) ⟨by omega,hq⟩ (by omega)) (by simp only [PWeak_nil,PWeak_junk,PWeak_same,Int.cast_ofNat_Int,List.length_append,List.length_cons,List.length_nil,Nat.zero_add])
      · have hbe : (x == y) = false := by simp [e]
        simp only [PP,P1,P2,P3,P4,P5,P6,P7,P8,P9,P10,P11,P12,P13,P14,L1,P15,N1,N2,N3,N4,N5,N6,N7,I1,I2,I3,I4,I5,I6,I7,reduceIte,reduceCtorEq,hbe,e,List.cons.injEq] at hq ⊢
        exact hq
    · simp only [PP,P1,P2,P3,P4,P5,P6,P7,P8,P9,P10,P11,P12,P13,P14,L1,P15,N1,N2,N3,N4,N5,N6,N7,I1,I2,I3,I4,I5,I6,I7,reduceIte,reduceCtorEq,c]
      rw [List.drop_eq_nil_of_le (by omega),List.drop_eq_nil_of_le (by omega)] at hq
      simp only [PP,P1,P2,P3,P4,P5,P6,P7,P8,P9,P10,P11,P12,P13,P14,L1,P15,N1,N2,N3,N4,N5,N6,N7,I1,I2,I3,I4,I5,I6,I7,reduceIte,reduceCtorEq] at hq
      exact hq
  · have hne : xs ≠ ys := fun e => c1 (by rw [e])
    simp only [PP,P1,P2,P3,P4,P5,P6,P7,P8,P9,P10,P11,P12,P13,P14,L1,P15,N1,N2,N3,N4,N5,N6,N7,I1,I2,I3,I4,I5,I6,I7,reduceIte,reduceCtorEq,c1]
    rw [decide_eq_false hne] at hk
    exact hk
theorem equalE_p {M : Mem} {K : PV → Mem → Prop} {f o f' o' : Bool} {xs ys : List Eg} (hm : xs.length < big) (h1 : ∀ x ∈ xs,x.fit) (h2 : ∀ x ∈ ys,x.fit) (hk : K (.bool (decide (xs = ys))) M) :
    SemC tab 38 [slE f o xs,slE f' o' ys] M K := by
  refine SemC_pure T.h38 (by simp only [PP,P1,P2,P3,P4,P5,P6,P7,P8,P9,P10,P11,P12,P13,P14,L1,P15,N1,N2,N3,N4,N5,N6,N7,I1,I2,I3,I4,I5,I6,I7,reduceIte,reduceCtorEq,under_slE]) ?_
  simp only [af38,PP,P1,P2,P3,P4,P5,P6,P7,P8,P9,P10,P11,P12,P13,P14,L1,P15,N1,N2,N3,N4,N5,N6,N7,I1,I2,I3,I4,I5,I6,I7,reduceIte,reduceCtorEq]
  refine QIf.intro (fun c1 => ?_) (fun c1 => ?_)
  · simp only [PP,P1,P2,P3,P4,P5,P6,P7,P8,P9,P10,P11,P12,P13,P14,L1,P15,N1,N2,N3,N4,N5,N6,N7,I1,I2,I3,I4,I5,I6,I7,reduceIte,reduceCtorEq,c1]
    have hl : xs.length = ys.length := by omega
    refine loop1 (fun (k : Nat) => k ≤ xs.length ∧ K (.bool (decide (xs.drop k = ys.drop k))) M) (fun k => [slE f o xs,slE f' o' ys,Z,Z,Z,p64 k,Z,Z,Z,Z,Z,Z,Z,Z,Z,Z,Z,Z,Z,Z,Z,Z,Z,Z,Z,Z]) (fun _ => []) (fun k => xs.length - k) 0 ⟨by omega,hk⟩ (by simp only [PWeak_nil,PWeak_junk,PWeak_same,Int.cast_ofNat_Int,List.length_append,List.length_cons,List.length_nil,Nat.zero_add]) rfl ?_
    intro k ⟨hle,hq⟩ ih
    refine SemW_go (by kernel_rfl) ?_
    simp only [PP,P1,P2,P3,P4,P5,P6,P7,P8,P9,P10,P11,P12,P13,P14,L1,P15,N1,N2,N3,N4,N5,N6,N7,I1,I2,I3,I4,I5,I6,I7,reduceIte,reduceCtorEq]
    refine QIf.intro (fun c => ?_) (fun c => ?_)
    · have hk' : k < xs.length := by omega
      have hk2 : k < ys.length := by omega
      obtain ⟨x,gx⟩ := some_of hk'
      obtain ⟨y,gy⟩ := some_of hk2
      rw [drop_some gx,drop_some gy] at hq
      have hw := wrap_succ (k := k) (by omega)
      have h0 : (0 : Int) ≤ k := by omega
      have cy : (k : Int) < ys.length := by omega
      have hx4 := psub_egL gx
      have hy4 := psub_egL gy
      have lx : k * 4 + 4 ≤ (egL xs).length := by rw [egL_len]; exact eg_le gx
      have ly : k * 4 + 4 ≤ (egL ys).length := by rw [egL_len]; exact eg_le gy
      have hpe := peq_eg (h1 x (List.mem_of_getElem? gx)) (h2 y (List.mem_of_getElem? gy))
      simp only [PP,P1,P2,P3,P4,P5,P6,P7,P8,P9,P10,P11,P12,P13,P14,L1,P15,N1,N2,N3,N4,N5,N6,N7,I1,I2,I3,I4,I5,I6,I7,reduceIte,reduceCtorEq,c,hx4,hy4,lx,ly,hw,h0,cy,hpe]
      by_cases e : x = y
      · simp only [PP,P1,P2,P3,P4,P5,P6,P7,P8,P9,P10,P11,P12,P13,P14,L1,P15,N1,N2,N3,N4,N5,N6,N7,I1,I2,I3,I4,I5,I6,I7,reduceIte,reduceCtorEq,e,hw,List.cons.injEq] at hq ⊢
        exact SemW_weak (ih (k + 1) ⟨by omega,hq⟩ (by omega)) (by simp only [PWeak_nil,PWeak_junk,PWeak_same,Int.cast_ofNat_Int,List.length_append,List.length_cons,List.length_nil,Nat.zero_add])
      · simp only [PP,P1,P2,P3,P4,P5,P6,P7,P8,P9,P10,P11,P12,P13,P14,L1,P15,N1,N2,N3,N4,N5,N6,N7,I1,I2,I3,I4,I5,I6,I7,reduceIte,reduceCtorEq,e,List.cons.injEq] at hq ⊢
        exact hq
    · simp only [PP,P1,P2,P3,P4,P5,P6,P7,P8,P9,P10,P11,P12,P13,P14,L1,P15,N1,N2,N3,N4,N5,N6,N7,I1,I2,I3,I4,I5,I6,I7,reduceIte,reduceCtorEq,c]
      rw [List.drop_eq_nil_of_le (by omega),List.drop_eq_nil_of_le (by omega)] at hq
      simp only [PP,P1,P2,P3,P4,P5,P6,P7,P8,P9,P10,P11,P12,P13,P14,L1,P15,N1,N2,N3,N4,N5,N6,N7,I1,I2,I3,I4,I5,I6,I7,reduceIte,reduceCtorEq] at hq
      exact hq
  · have hne : xs ≠ ys := fun e => c1 (by rw [e])
    simp only [PP,P1,P2,P3,P4,P5,P6,P7,P8,P9,P10,P11,P12,P13,P14,L1,P15,N1,N2,N3,N4,N5,N6,N7,I1,I2,I3,I4,I5,I6,I7,reduceIte,reduceCtorEq,c1]
    rw [decide_eq_false hne] at hk
    exact hk
theorem equalN_p {M : Mem} {K : PV → Mem → Prop} {f1 o1 f2 o2 f3 o3 g1 p1 g2 p2 g3 p3 : Bool} {N N' : NF} (B : BnN N) (h1 : ∀ x ∈ N.es,x.fit) (h2 : ∀ x ∈ N'.es,x.fit) (hk : ∀ b,(b = true ↔ N = N') → K (.bool b) M) :
    SemC tab 23 [.agg (nfC f1 o1 f2 o2 f3 o3 N),.agg (nfC g1 p1 g2 p2 g3 p3 N')] M K := by
  refine SemC_pure T.h23 (by simp only [PP,P1,P2,P3,P4,P5,P6,P7,P8,P9,P10,P11,P12,P13,P14,L1,P15,N1,N2,N3,N4,N5,N6,N7,I1,I2,I3,I4,I5,I6,I7,reduceIte,reduceCtorEq,under_slE]) ?_
  simp only [af23,PP,P1,P2,P3,P4,P5,P6,P7,P8,P9,P10,P11,P12,P13,P14,L1,P15,N1,N2,N3,N4,N5,N6,N7,I1,I2,I3,I4,I5,I6,I7,reduceIte,reduceCtorEq]
  have no : N ≠ N' → K (.bool false) M := fun h => hk false ⟨(fun q => Bool.noConfusion q),fun q => absurd q h⟩
  refine QIf.intro (fun c1 => ?_) (fun c1 => ?_)
  rotate_left
  · simp only [PP,P1,P2,P3,P4,P5,P6,P7,P8,P9,P10,P11,P12,P13,P14,L1,P15,N1,N2,N3,N4,N5,N6,N7,I1,I2,I3,I4,I5,I6,I7,reduceIte,reduceCtorEq,c1]
    exact no fun e => c1 (by rw [e])
  simp only [PP,P1,P2,P3,P4,P5,P6,P7,P8,P9,P10,P11,P12,P13,P14,L1,P15,N1,N2,N3,N4,N5,N6,N7,I1,I2,I3,I4,I5,I6,I7,reduceIte,reduceCtorEq,c1]
  refine QIf.intro (fun c2 => ?_) (fun c2 => ?_)
  rotate_left
  · simp only [PP,P1,P2,P3,P4,P5,P6,P7,P8,P9,P10,P11,P12,P13,P14,L1,P15,N1,N2,N3,N4,N5,N6,N7,I1,I2,I3,I4,I5,I6,I7,reduceIte,reduceCtorEq,c2]
    exact no fun e => c2 (by rw [e])
  simp only [PP,P1,P2,P3,P4,P5,P6,P7,P8,P9,P10,P11,P12,P13,P14,L1,P15,N1,N2,N3,N4,N5,N6,N7,I1,I2,I3,I4,I5,I6,I7,reduceIte,reduceCtorEq,c2]
  refine equalInts_p T B.s ?_
  by_cases c3 : N.st = N'.st
  rotate_left
  · simp only [PP,P1,P2,P3,P4,P5,P6,P7,P8,P9,P10,P11,P12,P13,P14,L1,P15,N1,N2,N3,N4,N5,N6,N7,I1,I2,I3,I4,I5,I6,I7,reduceIte,reduceCtorEq,c3]
    exact no fun e => c3 (by rw [e])
  simp only [PP,P1,P2,P3,P4,P5,P6,P7,P8,P9,P10,P11,P12,P13,P14,L1,P15,N1,N2,N3,N4,N5,N6,N7,I1,I2,I3,I4,I5,I6,I7,reduceIte,reduceCtorEq,c3]
  refine equalInts_p T B.f ?_
  by_cases c4 : N.fi = N'.fi
  rotate_left
  · simp only [PP,P1,P2,P3,P4,P5,P6,P7,P8,P9,P10,P11,P12,P13,P14,L1,P15,N1,N2,N3,N4,N5,N6,N7,I1,I2,I3,I4,I5,I6,I7,reduceIte,reduceCtorEq,c4]
    exact no fun e => c4 (by rw [e])
  simp only [PP,P1,P2,P3,P4,P5,P6,P7,P8,P9,P10,P11,P12,P13,P14,L1,P15,N1,N2,N3,N4,N5,N6,N7,I1,I2,I3,I4,I5,I6,I7,reduceIte,reduceCtorEq,c4]
  refine equalE_p T B.e h1 h2 ?_
  by_cases c5 : N.es = N'.es
  rotate_left
  · simp only [PP,P1,P2,P3,P4,P5,P6,P7,P8,P9,P10,P11,P12,P13,P14,L1,P15,N1,N2,N3,N4,N5,N6,N7,I1,I2,I3,I4,I5,I6,I7,reduceIte,reduceCtorEq,c5]
    exact no fun e => c5 (by rw [e])
  simp only [PP,P1,P2,P3,P4,P5,P6,P7,P8,P9,P10,P11,P12,P13,P14,L1,P15,N1,N2,N3,N4,N5,N6,N7,I1,I2,I3,I4,I5,I6,I7,reduceIte,reduceCtorEq,c5]
  exact hk true ⟨fun _ => NF.ext' c1 c2 c3 c4 c5,fun _ => rfl⟩
theorem copyI_p {M : Mem} {K : PV → Mem → Prop} {f o : Bool} {xs : List Int} (hm : xs.length < big) (hk : K (.ref M.length 0 1 0 xs.length) (M ++ [.cells 0 0 (xs.map p64)])) :
    SemC tab 39 [slI f o .i64 xs] M K := by
  refine SemC_fn T.h39 ?_
  have hm : xs.length < 1000000000000 := hm
  have b8 : xs.length * 8 ≤ 140737488355328 := by omega
  have b1 : xs.length ≤ 9223372036854775807 := by omega
  simp only [af39,PP,P1,P2,P3,P4,P5,P6,P7,P8,P9,P10,P11,P12,P13,P14,L1,P15,N1,N2,N3,N4,N5,N6,N7,I1,I2,I3,I4,I5,I6,I7,reduceIte,reduceCtorEq,b8,b1]
  exact hk
theorem copyE_p {M : Mem} {K : PV → Mem → Prop} {f o : Bool} {xs : List Eg} (hm : xs.length < big) (hk : K (.ref M.length 0 4 0 xs.length) (M ++ [.cells 0 0 (egL xs)])) :
    SemC tab 40 [slE f o xs] M K := by
  refine SemC_fn T.h40 ?_
  have hm : xs.length < 1000000000000 := hm
  have b8 : xs.length * 24 ≤ 140737488355328 := by omega
  have b1 : xs.length ≤ 9223372036854775807 := by omega
  simp only [af40,PP,P1,P2,P3,P4,P5,P6,P7,P8,P9,P10,P11,P12,P13,P14,L1,P15,N1,N2,N3,N4,N5,N6,N7,I1,I2,I3,I4,I5,I6,I7,reduceIte,reduceCtorEq,b8,b1,egL_one]
  exact hk
theorem copyL_p {K : PV → Mem → Prop} {f1 o1 f2 o2 f3 o3 : Bool} {N : NF} (B : BnN N)
    (hk : K (.agg [p64 N.vs,p64 N.n,.ref (2) 0 1 0 N.st.length,.ref (3) 0 1 0 N.fi.length,.ref (4) 0 4 0 N.es.length])
      ([.cells 0 0 (nfC f1 o1 f2 o2 f3 o3 N),.cells 0 1 [p64 N.vs,p64 N.n,.ref (2) 0 1 0 N.st.length,.ref (3) 0 1 0 N.fi.length,.ref (4) 0 4 0 N.es.length],.cells 0 0 (N.st.map p64),.cells 0 0 (N.fi.map p64),.cells 0 0 (egL N.es)])) :
    SemC tab 13 [.agg (nfC f1 o1 f2 o2 f3 o3 N)] [] K := by
  refine SemC_fn T.h13 ?_
  simp only [af13,PP,P1,P2,P3,P4,P5,P6,P7,P8,P9,P10,P11,P12,P13,P14,L1,P15,N1,N2,N3,N4,N5,N6,N7,I1,I2,I3,I4,I5,I6,I7,reduceIte,reduceCtorEq]
  refine copyI_p T B.s ?_
  simp only [PP,P1,P2,P3,P4,P5,P6,P7,P8,P9,P10,P11,P12,P13,P14,L1,P15,N1,N2,N3,N4,N5,N6,N7,I1,I2,I3,I4,I5,I6,I7,reduceIte,reduceCtorEq]
  refine copyI_p T B.f ?_
  simp only [PP,P1,P2,P3,P4,P5,P6,P7,P8,P9,P10,P11,P12,P13,P14,L1,P15,N1,N2,N3,N4,N5,N6,N7,I1,I2,I3,I4,I5,I6,I7,reduceIte,reduceCtorEq]
  refine copyE_p T B.e ?_
  simp only [PP,P1,P2,P3,P4,P5,P6,P7,P8,P9,P10,P11,P12,P13,P14,L1,P15,N1,N2,N3,N4,N5,N6,N7,I1,I2,I3,I4,I5,I6,I7,reduceIte,reduceCtorEq]
  exact hk
theorem copyN_p {M : Mem} {K : PV → Mem → Prop} {f1 o1 f2 o2 f3 o3 : Bool} {N : NF} (B : BnN N) (hk : K (.agg (nfC false true false true false true N)) M) :
    SemC tab 13 [.agg (nfC f1 o1 f2 o2 f3 o3 N)] M K := by
  refine SemC_frame (by simp only [PP,P1,P2,P3,P4,P5,P6,P7,P8,P9,P10,P11,P12,P13,P14,L1,P15,N1,N2,N3,N4,N5,N6,N7,I1,I2,I3,I4,I5,I6,I7,reduceIte,reduceCtorEq,under_slE]) (copyL_p T B ?_)
  have h1 := frzO_egL (g := 0) (v := 0) (l := N.es) rfl
  simp only [PP,P1,P2,P3,P4,P5,P6,P7,P8,P9,P10,P11,P12,P13,P14,L1,P15,N1,N2,N3,N4,N5,N6,N7,I1,I2,I3,I4,I5,I6,I7,reduceIte,reduceCtorEq,h1]
  exact ⟨_,rfl,hk⟩
end
end Go.Am.Ar
set_option linter.unusedVariables false
set_option linter.unusedSimpArgs false
set_option maxRecDepth 10000
namespace Go.Am.Ar
open Go.Am.PV renaming junk → Z
open Go.Am renaming pchk → P1,pold → P2,PKNo → P3,ppack → P4,PObj.under → P5,pput → P6,ptset → P7,ptget → P8,pev → P9,ofAV → P10,ofAV1 → P11,ppad → P12,pfill → P13,prepl → P14,AO.effect → P15
open List renaming replicate → L1
open Nat renaming reduceAdd → N1,reduceSub → N2,reduceMul → N3,reduceLT → N4,reduceLeDiff → N5,reduceEqDiff → N6,reduceBEq → N7
open Int renaming reduceToNat → I1,reduceLT → I2,reduceLE → I3,reduceEq → I4,reduceAdd → I5,reduceSub → I6,reduceNeg → I7
section
variable {tab : FuncId → Option AF} (T : HasA tab)
include T
set_option maxHeartbeats 2000000 in
theorem refQuotient_p {M : Mem} {K : PV → Mem → Prop} {f1 o1 f2 o2 f3 o3 : Bool} {N : NF} (B : BnN N) (hk : ∀ Q e,QuoA N Q e → K (.tuple [.agg (nfC false true false true false true Q),p64 e]) M) :
    SemC tab 17 [.agg (nfC f1 o1 f2 o2 f3 o3 N)] M K := by
  refine SemC_wk ?_
  refine SemC_pureS T.h17 (by simp only [PP,P1,P2,P3,P4,P5,P6,P7,P8,P9,P10,P11,P12,P13,P14,L1,P15,N1,N2,N3,N4,N5,N6,N7,I1,I2,I3,I4,I5,I6,I7,reduceIte,reduceCtorEq,under_slE]) ?_
  simp only [af17]
  refine SemW_seq (SemW_of ?_)
  simp only [PP,P1,P2,P3,P4,P5,P6,P7,P8,P9,P10,P11,P12,P13,P14,L1,P15,N1,N2,N3,N4,N5,N6,N7,I1,I2,I3,I4,I5,I6,I7,reduceIte,reduceCtorEq]
  refine SemW_re (GStep.freezeP (b := [Z,.cp (nfC f1 o1 f2 o2 f3 o3 N) 0,.ptr 1 0 0,p64 0,Z,Z,Z,Z,Z,Z,Z,Z,Z,Z,Z,Z,Z,Z,Z,Z,Z,Z,Z,Z,Z,Z,Z,Z,Z,Z,Z,Z,Z,Z,Z,Z,Z,Z,Z,Z,Z,Z,Z,Z,Z,Z,Z,Z,Z,Z,Z,Z,Z,Z,Z,Z,Z,Z,Z,Z,Z,Z,Z,Z,Z,Z,Z,Z,Z,Z,Z,Z,Z,Z,Z,Z,Z,Z,Z,Z,Z,Z,Z,Z,Z,Z,Z,Z,Z,Z,Z,Z,Z,Z,Z,Z,Z,Z,Z]) 0 (Nat.zero_le _) rfl (by simp only [PFrzP_nil,PFrzP_junk,PFrzP_same,PFrzP_ptr]) rfl) ?_
  refine SemW_seq (SemW_of ?_)
  simp only [PP,P1,P2,P3,P4,P5,P6,P7,P8,P9,P10,P11,P12,P13,P14,L1,P15,N1,N2,N3,N4,N5,N6,N7,I1,I2,I3,I4,I5,I6,I7,reduceIte,reduceCtorEq]
  refine refClasses_p T B (fun l e hL => ?_)
  simp only [PP,P1,P2,P3,P4,P5,P6,P7,P8,P9,P10,P11,P12,P13,P14,L1,P15,N1,N2,N3,N4,N5,N6,N7,I1,I2,I3,I4,I5,I6,I7,reduceIte,reduceCtorEq]
  rcases hL with ⟨h1,rfl,rfl⟩ | ⟨h1,rfl,rs,m,R,hC⟩
  · refine SemW_of ?_
    simp only [PP,P1,P2,P3,P4,P5,P6,P7,P8,P9,P10,P11,P12,P13,P14,L1,P15,N1,N2,N3,N4,N5,N6,N7,I1,I2,I3,I4,I5,I6,I7,reduceIte,reduceCtorEq,h1]
    exact ⟨_,wk_two wk_zeroN,hk zeroN _ (.inl ⟨h1,rfl,rfl⟩)⟩
  have C := nok_of h1
  have n0 := C.n0
  have n64 := C.n64
  have hll := hC.len
  obtain ⟨hml,hcl⟩ := hC.lt
  refine SemW_seq (SemW_of ?_)
  simp only [PP,P1,P2,P3,P4,P5,P6,P7,P8,P9,P10,P11,P12,P13,P14,L1,P15,N1,N2,N3,N4,N5,N6,N7,I1,I2,I3,I4,I5,I6,I7,reduceIte,reduceCtorEq]
  refine SemW_of ?_
  simp only [PP,P1,P2,P3,P4,P5,P6,P7,P8,P9,P10,P11,P12,P13,P14,L1,P15,N1,N2,N3,N4,N5,N6,N7,I1,I2,I3,I4,I5,I6,I7,reduceIte,reduceCtorEq]
  refine loop2 (fun (k s : Nat) => k ≤ l.length ∧ s ≤ m ∧ (∀ c ∈ l.take k,c + 1 ≤ s)) (fun k s => [Z,.cp (nfC f1 o1 f2 o2 f3 o3 N) 0,.ptr 1 0 0,Z,slI false true .i64 l,Z,p64 s,p64 k,Z,Z,Z,Z,Z,Z,Z,Z,Z,Z,Z,Z,Z,Z,Z,Z,Z,Z,Z,Z,Z,Z,Z,Z,Z,Z,Z,Z,Z,Z,Z,Z,Z,Z,Z,Z,Z,Z,Z,Z,Z,Z,Z,Z,Z,Z,Z,Z,Z,Z,Z,Z,Z,Z,Z,Z,Z,Z,Z,Z,Z,Z,Z,Z,Z,Z,Z,Z,Z,Z,Z,Z,Z,Z,Z,Z,Z,Z,Z,Z,Z,Z,Z,Z,Z,Z,Z,Z,Z,Z,Z]) (fun k s => [.gone,.cells 0 0 [p64 0,p64 0,.nils,.nils,.nils]]) (fun k _ => l.length - k) 0 0 ⟨by omega,by omega,fun c h => by cases h⟩ (by simp only [PWeak_nil,PWeak_junk,PWeak_same,Int.cast_ofNat_Int,List.length_append,List.length_cons,List.length_nil,Nat.zero_add]) rfl ?_
  intro k s ⟨hkn,hsm,hd⟩ ih
  refine SemW_go (by kernel_rfl) ?_
  simp only [PP,P1,P2,P3,P4,P5,P6,P7,P8,P9,P10,P11,P12,P13,P14,L1,P15,N1,N2,N3,N4,N5,N6,N7,I1,I2,I3,I4,I5,I6,I7,reduceIte,reduceCtorEq]
  refine QIf.intro (fun d => ?_) (fun d => ?_)
  · have hk' : k < l.length := by omega
    obtain ⟨x,gx⟩ := some_of (xs := l) (k := k) (by omega)
    have hx := hcl x (List.mem_of_getElem? gx)
    have k0 : (0 : Int) ≤ k := by omega
    have kl : (k : Int) < l.length := by omega
    have hwk := wrap_succ (k := k) (by show _ < 1000000000000; omega)
    have hwx : IntKind.i64.wrap (x + 1) = x + 1 := wrap64 (by omega) (by omega)
    have hmx : max (s : Int) (x + 1) = ((max s (x + 1).toNat : Nat) : Int) := by omega
    simp only [PP,P1,P2,P3,P4,P5,P6,P7,P8,P9,P10,P11,P12,P13,P14,L1,P15,N1,N2,N3,N4,N5,N6,N7,I1,I2,I3,I4,I5,I6,I7,reduceIte,reduceCtorEq,d,k0,kl,gx,hwk,hwx,hmx]
    refine SemW_to (ih (k + 1) (max s (x + 1).toNat) ⟨by omega,by omega,fun c hc => ?_⟩ (by omega)) (by simp only [PWeak_nil,PWeak_junk,PWeak_same,Int.cast_ofNat_Int,List.length_append,List.length_cons,List.length_nil,Nat.zero_add]) rfl
    rw [List.take_add_one,gx] at hc
    rcases List.mem_append.1 hc with hc | hc
    · have := hd c hc; omega
    · simp at hc; subst hc; omega
  have hsm2 : s = m := by
    rw [List.take_of_length_le (by omega)] at hd
    rcases Nat.eq_zero_or_pos m with e | e
    · omega
    · have := hd _ (hC.surj (m - 1) (by omega)); omega
  subst hsm2
  have hst := posM_mem C.st
  have hfi := posM_mem C.fi
  have hsl := posM_len C.st n64
  have hfl := posM_len C.fi n64
  simp only [PP,P1,P2,P3,P4,P5,P6,P7,P8,P9,P10,P11,P12,P13,P14,L1,P15,N1,N2,N3,N4,N5,N6,N7,I1,I2,I3,I4,I5,I6,I7,reduceIte,reduceCtorEq,d]
  refine setR_p T (by omega) (by omega) (by omega) (fun x hx => by have := hst x hx; omega) ?_
  simp only [PP,P1,P2,P3,P4,P5,P6,P7,P8,P9,P10,P11,P12,P13,P14,L1,P15,N1,N2,N3,N4,N5,N6,N7,I1,I2,I3,I4,I5,I6,I7,reduceIte,reduceCtorEq]
  refine setR_p T (by omega) (by omega) (by omega) (fun x hx => by have := hfi x hx; omega) ?_
  simp only [PP,P1,P2,P3,P4,P5,P6,P7,P8,P9,P10,P11,P12,P13,P14,L1,P15,N1,N2,N3,N4,N5,N6,N7,I1,I2,I3,I4,I5,I6,I7,reduceIte,reduceCtorEq]
  obtain ⟨S,hS⟩ : ∃ S,setQ l N.st s = S := ⟨_,rfl⟩
  obtain ⟨F,hF⟩ : ∃ F,setQ l N.fi s = F := ⟨_,rfl⟩
  rw [hS,hF]
  refine SemW_re (GStep.nilbox 2 4 4 rfl rfl rfl) ?_
  simp only [List.cons_append,List.nil_append,List.length_cons,List.length_nil,Nat.reduceAdd,List.set_cons_succ,List.set_cons_zero]
  have hbE : N.es.length < 1000000000000 := B.e
  have hfit : ∀ e ∈ N.es,(edQ l e).fit ∧ (0 ≤ e.fr ∧ e.fr < l.length ∧ 0 ≤ e.to ∧ e.to < l.length) ∧ ∃ a b,l[e.fr.toNat]? = some a ∧ l[e.to.toNat]? = some b ∧ edQ l e = ⟨a,b,e.ps,e.ng⟩ := fun e he => by
    obtain ⟨q1,q2,q3,q4,_⟩ := C.ed e he
    obtain ⟨a,ga⟩ := some_of (xs := l) (k := e.fr.toNat) (by omega)
    obtain ⟨b,gb⟩ := some_of (xs := l) (k := e.to.toNat) (by omega)
    have ha := hcl a (List.mem_of_getElem? ga)
    have hb := hcl b (List.mem_of_getElem? gb)
    have e1 := clAt_some ga
    have e2 := clAt_some gb
    obtain ⟨b1,b2⟩ := B.b e he
    refine ⟨?_,by omega,a,b,ga,gb,by unfold edQ; rw [e1,e2]⟩
    refine ⟨⟨by show _ ≤ clAt l e.fr; omega,by show clAt l e.fr ≤ _; omega⟩,⟨by show _ ≤ clAt l e.to; omega,by show clAt l e.to ≤ _; omega⟩,b1,b2⟩
  refine loop5 (fun (k g v1 v2 : Nat) (G : Mem) => k ≤ N.es.length) (fun k g v1 v2 G => [Z,.cp (nfC f1 o1 f2 o2 f3 o3 N) 0,.ptr 1 0 0,Z,slI false true .i64 l,Z,Z,Z,.ptr 2 0 0,p64 k,Z,Z,Z,Z,Z,Z,Z,Z,Z,Z,Z,Z,Z,Z,Z,Z,Z,Z,Z,Z,Z,Z,Z,Z,Z,Z,Z,Z,Z,Z,Z,Z,Z,Z,Z,Z,Z,Z,Z,Z,Z,Z,Z,Z,Z,Z,Z,Z,Z,Z,Z,Z,Z,Z,Z,Z,Z,Z,Z,Z,Z,Z,Z,Z,Z,Z,Z,Z,Z,Z,Z,Z,Z,Z,Z,Z,Z,Z,Z,Z,Z,Z,Z,Z,Z,Z,Z,Z,Z]) (fun k g v1 v2 G => .gone :: .cells 0 0 [p64 0,p64 0,.nils,.nils,.nils] :: .cells 0 v1 [p64 N.vs,p64 s,slI false true .i64 S,slI false true .i64 F,.ref 3 g 4 0 (edsQ l (N.es.take k)).length] :: .cells g v2 (egL (edsQ l (N.es.take k))) :: G) (fun k _ _ _ _ => N.es.length - k) 0 0 1 0 [] (by omega) (by simp only [PWeak_nil,PWeak_junk,PWeak_same,Int.cast_ofNat_Int,List.length_append,List.length_cons,List.length_nil,Nat.zero_add]) rfl ?_
  intro k2 g v1 v2 G hle2 ih3
  obtain ⟨acc,hacc⟩ : ∃ acc,edsQ l (N.es.take k2) = acc := ⟨_,rfl⟩
  have hal : acc.length ≤ k2 := by rw [← hacc]; exact Nat.le_trans (edsQ_len _ _) (by simp; omega)
  rw [hacc]
  refine SemW_go (by kernel_rfl) ?_
  simp only [PP,P1,P2,P3,P4,P5,P6,P7,P8,P9,P10,P11,P12,P13,P14,L1,P15,N1,N2,N3,N4,N5,N6,N7,I1,I2,I3,I4,I5,I6,I7,reduceIte,reduceCtorEq]
  refine QIf.intro (fun c => ?_) (fun c => ?_)
  rotate_left
  · have hk2 : k2 = N.es.length := by omega
    subst hk2
    rw [List.take_of_length_le (Nat.le_refl _)] at hacc
    have hfr := frzO_egL (g := g) (v := v2) (l := acc) rfl
    simp only [PP,P1,P2,P3,P4,P5,P6,P7,P8,P9,P10,P11,P12,P13,P14,L1,P15,N1,N2,N3,N4,N5,N6,N7,I1,I2,I3,I4,I5,I6,I7,reduceIte,reduceCtorEq,c,hfr]
    refine ⟨_,PvWk.refl _, ?_⟩
    have := hk _ 0 (.inr ⟨h1,rfl,rs,l,s,R,hC,rfl⟩)
    unfold quoN at this
    rw [hS,hF,hacc] at this
    exact this
  have hk' : k2 < N.es.length := by omega
  obtain ⟨e,ge⟩ := some_of hk'
  have hem := List.mem_of_getElem? ge
  obtain ⟨hft,⟨q1,q2,q3,q4⟩,a,b,ga,gb,heq⟩ := hfit e hem
  have hw := wrap_succ (k := k2) (by show _ < 1000000000000; omega)
  have k0 : (0 : Int) ≤ k2 := by omega
  have kl : (k2 : Int) < N.es.length := by omega
  have h4 := psub_egL ge
  have hl4 : k2 * 4 + 4 ≤ (egL N.es).length := by rw [egL_len]; exact eg_le ge
  have hfa : ∀ x ∈ acc,x.fit := fun x hx => by
    rw [← hacc] at hx
    obtain ⟨e',h1,rfl⟩ := mem_edsQ.1 hx
    exact (hfit e' (List.mem_of_mem_take h1)).1
  have htk : edsQ l (N.es.take (k2 + 1)) = addE acc ⟨a,b,e.ps,e.ng⟩ := by
    rw [List.take_add_one,ge]
    show edsQ l (_ ++ [e]) = _
    rw [edsQ_snoc,hacc,heq]
  rw [heq] at hft
  simp only [PP,P1,P2,P3,P4,P5,P6,P7,P8,P9,P10,P11,P12,P13,P14,L1,P15,N1,N2,N3,N4,N5,N6,N7,I1,I2,I3,I4,I5,I6,I7,reduceIte,reduceCtorEq,c,k0,kl,h4,hl4,gk0,sk0,q1,q2,q3,q4,ga,gb]
  refine loop2 (fun (i : Nat) (sn : Bool) => i ≤ acc.length ∧ (sn = true ↔ (⟨a,b,e.ps,e.ng⟩ : Eg) ∈ acc.take i)) (fun i sn => [Z,.cp (nfC f1 o1 f2 o2 f3 o3 N) 0,.ptr 1 0 0,Z,slI false true .i64 l,Z,Z,Z,.ptr 2 0 0,p64 k2,.ptr (G.length + 1 + 1 + 1 + 1) 0 0,.bool sn,p64 i,Z,Z,Z,Z,Z,Z,Z,Z,Z,Z,Z,Z,Z,Z,Z,Z,Z,Z,Z,Z,Z,Z,Z,Z,Z,Z,Z,Z,Z,Z,Z,Z,Z,Z,Z,Z,Z,Z,Z,Z,Z,Z,Z,Z,Z,Z,Z,Z,Z,Z,Z,Z,Z,Z,Z,Z,Z,Z,Z,Z,Z,Z,Z,Z,Z,Z,Z,Z,Z,Z,Z,Z,Z,Z,Z,Z,Z,Z,Z,Z,Z,Z,Z,Z,Z,Z]) (fun i sn => .gone :: .cells 0 0 [p64 0,p64 0,.nils,.nils,.nils] :: .cells 0 v1 [p64 N.vs,p64 s,slI false true .i64 S,slI false true .i64 F,.ref 3 g 4 0 acc.length] :: .cells g v2 (egL acc) :: (G ++ [.cells 0 3 [p64 a,p64 b,p8 e.ps,p8 e.ng]])) (fun i _ => acc.length - i) 0 false ⟨by omega,by simp⟩ (by simp only [PWeak_nil,PWeak_junk,PWeak_same,Int.cast_ofNat_Int,List.length_append,List.length_cons,List.length_nil,Nat.zero_add]) rfl ?_
  intro i sn ⟨hi,hsn⟩ ih4
  refine SemW_go (by kernel_rfl) ?_
  simp only [PP,P1,P2,P3,P4,P5,P6,P7,P8,P9,P10,P11,P12,P13,P14,L1,P15,N1,N2,N3,N4,N5,N6,N7,I1,I2,I3,I4,I5,I6,I7,reduceIte,reduceCtorEq]
  refine QIf.intro (fun c2 => ?_) (fun c2 => ?_)
  · have hi' : i < acc.length := by omega
    obtain ⟨y,gy⟩ := some_of hi'
    have i0 : (0 : Int) ≤ i := by omega
    have il : (i : Int) < acc.length := by omega
    have hwi := wrap_succ (k := i) (by show _ < 1000000000000; omega)
    have y4 := psub_egL gy
    have yl4 : i * 4 + 4 ≤ (egL acc).length := by rw [egL_len]; exact eg_le gy
    have hpe := peq_eg (hfa y (List.mem_of_getElem? gy)) hft
    have hs4 : psub [PV.int .i64 a,PV.int .i64 b,PV.int .u8 e.ps,PV.int .u8 e.ng] 0 4 = egC ⟨a,b,e.ps,e.ng⟩ := rfl
    have nxt : ∀ sn',(sn' = true ↔ (sn = true ∨ y = ⟨a,b,e.ps,e.ng⟩)) → (sn' = true ↔ (⟨a,b,e.ps,e.ng⟩ : Eg) ∈ acc.take (i + 1)) := fun sn' h => by
      rw [h,hsn,List.take_add_one,gy]
      simp only [Option.toList_some,List.mem_append,List.mem_singleton]
      exact or_congr Iff.rfl ⟨Eq.symm,Eq.symm⟩
    cases sn with
    | true =>
      simp only [PP,P1,P2,P3,P4,P5,P6,P7,P8,P9,P10,P11,P12,P13,P14,L1,P15,N1,N2,N3,N4,N5,N6,N7,I1,I2,I3,I4,I5,I6,I7,reduceIte,reduceCtorEq,c2,hwi]
      exact SemW_weak (ih4 (i + 1) true ⟨by omega,nxt true ⟨fun _ => .inl rfl,fun _ => rfl⟩⟩ (by omega)) (by simp only [PWeak_nil,PWeak_junk,PWeak_same,Int.cast_ofNat_Int,List.length_append,List.length_cons,List.length_nil,Nat.zero_add])
    | false =>
      simp only [PP,P1,P2,P3,P4,P5,P6,P7,P8,P9,P10,P11,P12,P13,P14,L1,P15,N1,N2,N3,N4,N5,N6,N7,I1,I2,I3,I4,I5,I6,I7,reduceIte,reduceCtorEq,c2,i0,il,y4,yl4,gk0,hpe,hs4,hwi]
      exact SemW_weak (ih4 (i + 1) _ ⟨by omega,nxt (decide (y = ⟨a,b,e.ps,e.ng⟩)) (by simp)⟩ (by omega)) (by simp only [PWeak_nil,PWeak_junk,PWeak_same,Int.cast_ofNat_Int,List.length_append,List.length_cons,List.length_nil,Nat.zero_add])
  · rw [List.take_of_length_le (by omega)] at hsn
    cases sn with
    | true =>
      have q := hsn.1 rfl
      have ha : edsQ l (N.es.take (k2 + 1)) = acc := by rw [htk,addE,if_pos q]
      simp only [PP,P1,P2,P3,P4,P5,P6,P7,P8,P9,P10,P11,P12,P13,P14,L1,P15,N1,N2,N3,N4,N5,N6,N7,I1,I2,I3,I4,I5,I6,I7,reduceIte,reduceCtorEq,c2,hw]
      exact SemW_to (ih3 (k2 + 1) g v1 v2 (G ++ [.cells 0 3 (egC ⟨a,b,e.ps,e.ng⟩)]) (by omega) (by omega)) (by simp only [PWeak_nil,PWeak_junk,PWeak_same,Int.cast_ofNat_Int,List.length_append,List.length_cons,List.length_nil,Nat.zero_add]) (by rw [ha])
    | false =>
      have q : (⟨a,b,e.ps,e.ng⟩ : Eg) ∉ acc := fun h => by have := hsn.2 h; cases this
      have ha : edsQ l (N.es.take (k2 + 1)) = acc ++ [⟨a,b,e.ps,e.ng⟩] := by rw [htk,addE,if_neg q]
      have b8 : (acc.length + 1) * 24 ≤ 140737488355328 := by omega
      have b1 : acc.length ≤ 9223372036854775806 := by omega
      have hps := psub_egAll (l := acc) rfl
      have hl5 : acc.length * 4 ≤ (egL acc).length := by rw [egL_len]; omega
      simp only [PP,P1,P2,P3,P4,P5,P6,P7,P8,P9,P10,P11,P12,P13,P14,L1,P15,N1,N2,N3,N4,N5,N6,N7,I1,I2,I3,I4,I5,I6,I7,reduceIte,reduceCtorEq,c2,gk0,sk0,hw,b8,b1,hps,hl5]
      exact SemW_to (ih3 (k2 + 1) (g + 1) (v1 + 1) 0 (G ++ [.cells 0 3 (egC ⟨a,b,e.ps,e.ng⟩)]) (by omega) (by omega)) (by simp only [PWeak_nil,PWeak_junk,PWeak_same,Int.cast_ofNat_Int,List.length_append,List.length_cons,List.length_nil,Nat.zero_add]) (by rw [ha, ← egL_app,List.length_append]; rfl)
theorem same_p {M : Mem} {K : PV → Mem → Prop} {f1 o1 f2 o2 f3 o3 f4 o4 : Bool} {a b : List (List Bool)} (ha : a.length < 1000000000000) (hr : ∀ r ∈ a,r.length < 1000000000000) (hk : K (.bool (decide (a = b))) M) :
    SemC tab 21 [slBr f1 o1 f2 o2 a,slBr f3 o3 f4 o4 b] M K := by
  refine SemC_pure T.h21 (by simp only [PP,P1,P2,P3,P4,P5,P6,P7,P8,P9,P10,P11,P12,P13,P14,L1,P15,N1,N2,N3,N4,N5,N6,N7,I1,I2,I3,I4,I5,I6,I7,reduceIte,reduceCtorEq,under_slBr]) ?_
  simp only [af21,PP,P1,P2,P3,P4,P5,P6,P7,P8,P9,P10,P11,P12,P13,P14,L1,P15,N1,N2,N3,N4,N5,N6,N7,I1,I2,I3,I4,I5,I6,I7,reduceIte,reduceCtorEq]
  refine QIf.intro (fun c1 => ?_) (fun c1 => ?_)
  · simp only [PP,P1,P2,P3,P4,P5,P6,P7,P8,P9,P10,P11,P12,P13,P14,L1,P15,N1,N2,N3,N4,N5,N6,N7,I1,I2,I3,I4,I5,I6,I7,reduceIte,reduceCtorEq,c1]
    have hl : a.length = b.length := by omega
    refine loop1 (fun (k : Nat) => k ≤ a.length ∧ K (.bool (decide (a.drop k = b.drop k))) M) (fun k => [slBr f1 o1 f2 o2 a,slBr f3 o3 f4 o4 b,Z,Z,Z,p64 k,Z,Z,Z,Z,Z,Z,Z,Z,Z,Z,Z,Z,Z,Z,Z,Z,Z,Z,Z,Z,Z]) (fun _ => []) (fun k => a.length - k) 0 ⟨by omega,hk⟩ (by simp only [PWeak_nil,PWeak_junk,PWeak_same,Int.cast_ofNat_Int,List.length_append,List.length_cons,List.length_nil,Nat.zero_add]) rfl ?_
    intro k ⟨hle,hq⟩ ih
    refine SemW_go (by kernel_rfl) ?_
    simp only [PP,P1,P2,P3,P4,P5,P6,P7,P8,P9,P10,P11,P12,P13,P14,L1,P15,N1,N2,N3,N4,N5,N6,N7,I1,I2,I3,I4,I5,I6,I7,reduceIte,reduceCtorEq]
    refine QIf.intro (fun c => ?_) (fun c => ?_)
    · have hk' : k < a.length := by omega
      have hk2 : k < b.length := by omega
      obtain ⟨x,gx⟩ := some_of hk'
      obtain ⟨y,gy⟩ := some_of hk2
      rw [drop_some gx,drop_some gy] at hq
      have hw := wrap_succ (k := k) (by show _ < 1000000000000; omega)
      have h0 : (0 : Int) ≤ k := by omega
      have cy : (k : Int) < b.length := by omega
      simp only [PP,P1,P2,P3,P4,P5,P6,P7,P8,P9,P10,P11,P12,P13,P14,L1,P15,N1,N2,N3,N4,N5,N6,N7,I1,I2,I3,I4,I5,I6,I7,reduceIte,reduceCtorEq,c,gx,gy,hw,h0,cy]
      refine equalB_p T (hr x (List.mem_of_getElem? gx)) ?_
      by_cases e : x = y
      · simp only [PP,P1,P2,P3,P4,P5,P6,P7,P8,P9,P10,P11,P12,P13,P14,L1,P15,N1,N2,N3,N4,N5,N6,N7,I1,I2,I3,I4,I5,I6,I7,reduceIte,reduceCtorEq,e,hw,List.cons.injEq] at hq ⊢
        exact SemW_weak (ih (k + 1) ⟨by omega,hq⟩ (by omega)) (by simp only [PWeak_nil,PWeak_junk,PWeak_same,Int.cast_ofNat_Int,List.length_append,List.length_cons,List.length_nil,Nat.zero_add])
      · simp only [PP,P1,P2,P3,P4,P5,P6,P7,P8,P9,P10,P11,P12,P13,P14,L1,P15,N1,N2,N3,N4,N5,N6,N7,I1,I2,I3,I4,I5,I6,I7,reduceIte,reduceCtorEq,e,List.cons.injEq] at hq ⊢
        exact hq
    · simp only [PP,P1,P2,P3,P4,P5,P6,P7,P8,P9,P10,P11,P12,P13,P14,L1,P15,N1,N2,N3,N4,N5,N6,N7,I1,I2,I3,I4,I5,I6,I7,reduceIte,reduceCtorEq,c]
      rw [List.drop_eq_nil_of_le (by omega),List.drop_eq_nil_of_le (by omega)] at hq
      simp only [PP,P1,P2,P3,P4,P5,P6,P7,P8,P9,P10,P11,P12,P13,P14,L1,P15,N1,N2,N3,N4,N5,N6,N7,I1,I2,I3,I4,I5,I6,I7,reduceIte,reduceCtorEq] at hq
      exact hq
  · have hne : a ≠ b := fun e => c1 (by rw [e])
    simp only [PP,P1,P2,P3,P4,P5,P6,P7,P8,P9,P10,P11,P12,P13,P14,L1,P15,N1,N2,N3,N4,N5,N6,N7,I1,I2,I3,I4,I5,I6,I7,reduceIte,reduceCtorEq,c1]
    rw [decide_eq_false hne] at hk
    exact hk
end
end Go.Am.Ar
set_option linter.unusedVariables false
set_option linter.unusedSimpArgs false
set_option maxRecDepth 10000
namespace Go.Am.Ar
open Go.Am.PV renaming junk → Z
theorem pidx_slN (sz : Nat) (fl : Bool) (b o n : Nat) (kd : IntKind) (j : Int) (K : AV → Prop) : PIdx sz (.slice fl sz b o n) (.int kd j) K = ((True ∧ 0 ≤ j ∧ j < n) ∧ K (.ptr b (o + j.toNat * sz))) := by
  unfold PIdx
  rw [PSlice_slice,PInt_int]
  simp
theorem ov_slN {w : PWd} {f : Bool} {sz : Nat} {cs : List PV} {n : Nat} {v : AV} (hr : RepV w (.sl f true sz n cs) v) : (v = .nilslice ∧ n = 0) ∨ ∃ fl b off ver bcs,v = .slice fl sz b off n ∧ w.imm b = some (.cells ver true bcs) ∧ w.n0 ≤ b ∧ off + cs.length ≤ bcs.length ∧ ∀ (i : Nat),i < cs.length → ∃ y z,cs[i]? = some y ∧ bcs[off + i]? = some z ∧ RepV w y z := by
  cases hr with
  | slN => exact .inl ⟨rfl,rfl⟩
  | sl h1 h2 h3 h4 h5 h7 h6 =>
    obtain ⟨h5',rfl⟩ := h5 rfl
    refine .inr ⟨_,_,_,_,_,rfl,h1,h5',h2,fun i hi => ?_⟩
    have hi2 : _ + i < _ := Nat.lt_of_lt_of_le (Nat.add_lt_add_left hi _) h2
    exact ⟨cs[i],_,List.getElem?_eq_getElem hi,List.getElem?_eq_getElem hi2,h6 i _ _ (List.getElem?_eq_getElem hi) (List.getElem?_eq_getElem hi2)⟩
def ShA (z z' : AV) : Prop := z' = z ∨ (∃ k n n',z = .int k n ∧ z' = .int k n') ∨ ∃ b b',z = .bool b ∧ z' = .bool b'
structure Ov3 (w : PWd) (h h' : H) : Prop where
  next : h.next ≤ h'.next
  keep : ∀ x,x < h.next → x < w.n0 ∨ w.imm x = none → h'.get x = h.get x
  cells : ∀ x ver bcs,w.imm x = some (.cells ver true bcs) → w.n0 ≤ x → ∃ ver' bcs',h'.get x = some (.cells ver' true bcs') ∧ bcs'.length = bcs.length ∧ ∀ (i : Nat) (z : AV),bcs[i]? = some z → ∃ z',bcs'[i]? = some z' ∧ ShA z z'
theorem Ov3.refl {w : PWd} {h : H} (hw : ∀ b o,w.imm b = some o → h.get b = some o) : Ov3 w h h :=
  ⟨Nat.le_refl _,fun _ _ _ => rfl,fun x ver bcs hx _ => ⟨ver,bcs,hw x _ hx,rfl,fun i z hz => ⟨z,hz,.inl rfl⟩⟩⟩
theorem Ov3.alloc {w : PWd} {h h' : H} (hw : ∀ b o,w.imm b = some o → b < h.next) (hv : Ov3 w h h') (o : AObj) : Ov3 w h (h'.alloc o) :=
  ⟨Nat.le_trans hv.next (by simp),fun x hx hy => by rw [H.get_alloc,if_neg (by have := hv.next; omega)]; exact hv.keep x hx hy,fun x ver bcs hx hn => by
    obtain ⟨v2,b2,q1,q2,q3⟩ := hv.cells x ver bcs hx hn
    exact ⟨v2,b2,by rw [H.get_alloc,if_neg (by have := hv.next; have := hw x _ hx; omega)]; exact q1,q2,q3⟩⟩
theorem Ov3.two {w : PWd} {h h' : H} (o : Ov3 w h h') : Ov2 w h h' := ⟨o.next,o.keep,fun x ver bcs h1 h2 => by
  obtain ⟨v,b,q1,q2,q3⟩ := o.cells x ver bcs h1 h2
  refine ⟨v,b,q1,q2,fun i z hz hn hb => ?_⟩
  obtain ⟨z',g1,g2⟩ := q3 i z hz
  rcases g2 with rfl | ⟨k,n,_,rfl,_⟩ | ⟨b,_,rfl,_⟩
  · exact g1
  · exact absurd rfl (hn k n)
  · exact absurd rfl (hb b)⟩
theorem ov3_putN {w : PWd} {h h' : H} (hw : ∀ b o,w.imm b = some o → b < h.next) (hv : Ov3 w h h') {b ver : Nat} {bcs : List AV} (e1 : w.imm b = some (.cells ver true bcs)) (e2 : w.n0 ≤ b) {p : Nat} {xs : List AV} (hp : p + xs.length ≤ bcs.length) (hx : xs.all AV.one = true) (hz : ∀ i,i < xs.length → ∃ z x,bcs[p + i]? = some z ∧ xs[i]? = some x ∧ ShA z x) :
    ∃ h2,putCells h' b p xs = some h2 ∧ Ov3 w h h2 ∧ Kp w h' h2 := by
  obtain ⟨v2,b2,q1,q2,q3⟩ := hv.cells b ver bcs e1 e2
  have hle : p + xs.length ≤ b2.length := by omega
  have hlen : (over b2 p xs).length = b2.length := by rw [over_get _ _ _ hle]; simp; omega
  refine ⟨h'.set b (.cells (v2 + 1) true (over b2 p xs)), ?_,⟨?_, ?_, ?_⟩,⟨Nat.le_refl _, ?_⟩⟩
  · unfold putCells
    rw [q1]
    simp only
    rw [if_pos (by simp only [Bool.and_eq_true,decide_eq_true_eq]; exact ⟨hle,hx⟩)]
  · exact hv.next
  · intro y hy ho
    have : y ≠ b := by
      rintro rfl
      rcases ho with ho | ho
      · omega
      · rw [e1] at ho; cases ho
    rw [H.get_set_ne this]; exact hv.keep y hy ho
  · intro y ver' bcs' hy hn
    by_cases e : y = b
    · subst e
      rw [e1] at hy; cases hy
      refine ⟨_,_,H.get_set_same q1,by rw [hlen,q2],fun i z hi => ?_⟩
      rw [over_get _ _ _ hle]
      by_cases hip : i < p ∨ p + xs.length ≤ i
      · obtain ⟨z',g1,g2⟩ := q3 i z hi
        refine ⟨z', ?_,g2⟩
        rcases hip with q | q
        · rw [List.append_assoc,List.getElem?_append_left (by simp; omega),List.getElem?_take,if_pos q]; exact g1
        · rw [List.getElem?_append_right (by simp; omega),List.getElem?_drop]
          simp only [List.length_append,List.length_take]
          rw [show p + xs.length + (i - (min p b2.length + xs.length)) = i by omega]; exact g1
      · rw [not_or,Nat.not_lt,Nat.not_le] at hip
        obtain ⟨z0,x,g1,g2,g3⟩ := hz (i - p) (by omega)
        rw [show p + (i - p) = i by omega,hi] at g1
        cases g1
        refine ⟨x, ?_,g3⟩
        rw [List.getElem?_append_left (by simp; omega),List.getElem?_append_right (by simp; omega),List.length_take,show min p b2.length = p by omega]; exact g2
    · obtain ⟨v3,b3,r1,r2,r3⟩ := hv.cells y ver' bcs' hy hn
      exact ⟨v3,b3,by rw [H.get_set_ne e]; exact r1,r2,r3⟩
  · intro y hy ho
    have : y ≠ b := by
      rintro rfl
      rcases ho with ho | ho
      · omega
      · rw [e1] at ho; cases ho
    exact H.get_set_ne this
section
variable {tab : FuncId → Option AF} (T : HasA tab)
include T
theorem overInts_3 {w : PWd} {h h1 : H} (hw : ∀ b o,w.imm b = some o → b < h.next) {f : Bool} {xs : List Int} {v : AV} (hr : RepV w (slI f true .i64 xs) v) (hm : xs.length < big) (hi : Ov3 w h h1) {Q : AV → H → Prop} (hq : ∀ h2,Ov3 w h h2 → Kp w h1 h2 → Q (.tuple []) h2) :
    C (lim tab) 25 [v] h1 Q := by
  have hcs : cS 12 [0,2] = [1,3,4,5,6,7,8,9,10,11] := rfl
  rw [C_fn T.h25]
  simp only [af25,W_skip,W_ret,W_regionD,WD_nil,WD_none,KPutD_eq,chkOk_nil,true_and,AO.effect,W_exit,W_region,W_seq,W_block,W_cond,PCondW_true,PCondW_false,PCondW_dec,PGuardW_tt,PGuardW_ff,PGuardW_tf,PGuardW_ft,PGuardW_tuple,PGuardW_dec_t,PGuardW_dec_f,pickV_true,pickV_false,pickV_dec,KSeq_eq,KBlock_eq,WL_eq,WO_nil,WO_none,WO_some,KPut_eq,KCall_eq,KRes_eq,KFalse,WS_call,WS_move,WS_pick,WS_alloc,WS_box,WS_build,WS_buildSlice,WS_load,WS_loadAgg,WS_store,WS_nilCheck,WS_bin,WS_eqB,WS_isNil,WS_eqCells,WS_un,WS_convInt,WS_mkFunc,WS_makeMap,WS_makeSlice,WS_slice,WS_fieldAddr,WS_field,WS_fieldN,WS_indexAddr,WS_indexAddrA,WS_index,WS_extract,WS_len,WS_append,WS_max,PPtr_ptr,PInt_int,PBool_bool,PSome_some,PAgg_agg,PTuple_tuple,PSlice_slice,PSlice_nil,PLen_nil,PLen_slice,PCall_func,put,tset,tget,ev,bnd,scrub,padTo,aresAll,ares,packRes,abin_add,abin_sub,abin_mul,abin_eql,abin_neq,abin_lss,abin_leq,abin_gtr,abin_geq,aun_not,maxV_two,List.length_cons,List.length_nil,List.replicate,List.cons_append,List.nil_append,List.append_nil,List.map_cons,List.map_nil,Nat.reduceAdd,Nat.reduceSub,ite_true,ite_false,if_true,if_false,Bool.false_eq_true,reduceIte,decide_true,decide_false,Bool.not_true,Bool.not_false,beq_self_eq_true,List.length_map,ne_eq,not_true_eq_false,not_false_eq_true]
  rw [W_scrub]
  simp only [hcs,scrub,tset]
  rcases ov_sl hr with ⟨rfl,hx⟩ | ⟨fl,b,off,ver,bcs,rfl,e1,e2,e3,e4⟩
  · rw [W_round]
    have hlt : ¬ (0 : Int) < 0 := by omega
    simp only [W_skip,W_ret,W_regionD,WD_nil,WD_none,KPutD_eq,chkOk_nil,true_and,AO.effect,W_exit,W_region,W_seq,W_block,W_cond,PCondW_true,PCondW_false,PCondW_dec,PGuardW_tt,PGuardW_ff,PGuardW_tf,PGuardW_ft,PGuardW_tuple,PGuardW_dec_t,PGuardW_dec_f,pickV_true,pickV_false,pickV_dec,KSeq_eq,KBlock_eq,WL_eq,WO_nil,WO_none,WO_some,KPut_eq,KCall_eq,KRes_eq,KFalse,WS_call,WS_move,WS_pick,WS_alloc,WS_box,WS_build,WS_buildSlice,WS_load,WS_loadAgg,WS_store,WS_nilCheck,WS_bin,WS_eqB,WS_isNil,WS_eqCells,WS_un,WS_convInt,WS_mkFunc,WS_makeMap,WS_makeSlice,WS_slice,WS_fieldAddr,WS_field,WS_fieldN,WS_indexAddr,WS_indexAddrA,WS_index,WS_extract,WS_len,WS_append,WS_max,PPtr_ptr,PInt_int,PBool_bool,PSome_some,PAgg_agg,PTuple_tuple,PSlice_slice,PSlice_nil,PLen_nil,PLen_slice,PCall_func,put,tset,tget,ev,bnd,scrub,padTo,aresAll,ares,packRes,abin_add,abin_sub,abin_mul,abin_eql,abin_neq,abin_lss,abin_leq,abin_gtr,abin_geq,aun_not,maxV_two,List.length_cons,List.length_nil,List.replicate,List.cons_append,List.nil_append,List.append_nil,List.map_cons,List.map_nil,Nat.reduceAdd,Nat.reduceSub,ite_true,ite_false,if_true,if_false,Bool.false_eq_true,reduceIte,decide_true,decide_false,Bool.not_true,Bool.not_false,beq_self_eq_true,List.length_map,ne_eq,not_true_eq_false,not_false_eq_true,hlt]
    exact hq h1 hi (.refl w h1)
  · refine (?_ : ∀ (m k : Nat) (h' : H),k + m = xs.length → Ov3 w h h' → Kp w h1 h' → W (lim tab) (.loop ?sc ?x) [.slice fl 1 b off xs.length,.junk,i64 k,.junk,.junk,.junk,.junk,.junk,.junk,.junk,.junk,.junk] h' ?q1 ?q2 ?q3) xs.length 0 h1 (by simp) hi (.refl w h1)
    intro m
    induction m with
    | zero =>
      intro k h' hk hv hkp
      rw [W_round]
      have hlt : ¬ (k : Int) < xs.length := by omega
      simp only [W_skip,W_ret,W_regionD,WD_nil,WD_none,KPutD_eq,chkOk_nil,true_and,AO.effect,W_exit,W_region,W_seq,W_block,W_cond,PCondW_true,PCondW_false,PCondW_dec,PGuardW_tt,PGuardW_ff,PGuardW_tf,PGuardW_ft,PGuardW_tuple,PGuardW_dec_t,PGuardW_dec_f,pickV_true,pickV_false,pickV_dec,KSeq_eq,KBlock_eq,WL_eq,WO_nil,WO_none,WO_some,KPut_eq,KCall_eq,KRes_eq,KFalse,WS_call,WS_move,WS_pick,WS_alloc,WS_box,WS_build,WS_buildSlice,WS_load,WS_loadAgg,WS_store,WS_nilCheck,WS_bin,WS_eqB,WS_isNil,WS_eqCells,WS_un,WS_convInt,WS_mkFunc,WS_makeMap,WS_makeSlice,WS_slice,WS_fieldAddr,WS_field,WS_fieldN,WS_indexAddr,WS_indexAddrA,WS_index,WS_extract,WS_len,WS_append,WS_max,PPtr_ptr,PInt_int,PBool_bool,PSome_some,PAgg_agg,PTuple_tuple,PSlice_slice,PSlice_nil,PLen_nil,PLen_slice,PCall_func,put,tset,tget,ev,bnd,scrub,padTo,aresAll,ares,packRes,abin_add,abin_sub,abin_mul,abin_eql,abin_neq,abin_lss,abin_leq,abin_gtr,abin_geq,aun_not,maxV_two,List.length_cons,List.length_nil,List.replicate,List.cons_append,List.nil_append,List.append_nil,List.map_cons,List.map_nil,Nat.reduceAdd,Nat.reduceSub,ite_true,ite_false,if_true,if_false,Bool.false_eq_true,reduceIte,decide_true,decide_false,Bool.not_true,Bool.not_false,beq_self_eq_true,List.length_map,ne_eq,not_true_eq_false,not_false_eq_true,hlt]
      exact hq h' hv hkp
    | succ m ih =>
      intro k h' hk hv hkp
      rw [W_round]
      have hlt : (k : Int) < xs.length := by omega
      have h0 : (0 : Int) ≤ k := by omega
      have hwr := wrap_succ (k := k) (by omega)
      obtain ⟨y,z,hy,hz,hrz⟩ := e4 k (by simp; omega)
      have hzi : ∃ n,z = .int .i64 n := by
        rw [List.getElem?_map] at hy
        obtain ⟨x,hx⟩ := some_of (xs := xs) (k := k) (by omega)
        rw [hx] at hy
        cases hy
        exact ⟨x,rep_int hrz⟩
      obtain ⟨nz,rfl⟩ := hzi
      obtain ⟨h2,hp,hv2,hkp2⟩ := ov3_putN hw hv e1 e2 (p := off + k) (xs := [i64 (-77)]) (getSome_lt hz) rfl (fun i hi => by
        have : i = 0 := by simpa using hi
        subst this
        exact ⟨_,_,hz,rfl,.inr (.inl ⟨_,_,_,rfl,rfl⟩)⟩)
      simp only [W_skip,W_ret,W_regionD,WD_nil,WD_none,KPutD_eq,chkOk_nil,true_and,AO.effect,W_exit,W_region,W_seq,W_block,W_cond,PCondW_true,PCondW_false,PCondW_dec,PGuardW_tt,PGuardW_ff,PGuardW_tf,PGuardW_ft,PGuardW_tuple,PGuardW_dec_t,PGuardW_dec_f,pickV_true,pickV_false,pickV_dec,KSeq_eq,KBlock_eq,WL_eq,WO_nil,WO_none,WO_some,KPut_eq,KCall_eq,KRes_eq,KFalse,WS_call,WS_move,WS_pick,WS_alloc,WS_box,WS_build,WS_buildSlice,WS_load,WS_loadAgg,WS_store,WS_nilCheck,WS_bin,WS_eqB,WS_isNil,WS_eqCells,WS_un,WS_convInt,WS_mkFunc,WS_makeMap,WS_makeSlice,WS_slice,WS_fieldAddr,WS_field,WS_fieldN,WS_indexAddr,WS_indexAddrA,WS_index,WS_extract,WS_len,WS_append,WS_max,PPtr_ptr,PInt_int,PBool_bool,PSome_some,PAgg_agg,PTuple_tuple,PSlice_slice,PSlice_nil,PLen_nil,PLen_slice,PCall_func,put,tset,tget,ev,bnd,scrub,padTo,aresAll,ares,packRes,abin_add,abin_sub,abin_mul,abin_eql,abin_neq,abin_lss,abin_leq,abin_gtr,abin_geq,aun_not,maxV_two,List.length_cons,List.length_nil,List.replicate,List.cons_append,List.nil_append,List.append_nil,List.map_cons,List.map_nil,Nat.reduceAdd,Nat.reduceSub,ite_true,ite_false,if_true,if_false,Bool.false_eq_true,reduceIte,decide_true,decide_false,Bool.not_true,Bool.not_false,beq_self_eq_true,List.length_map,ne_eq,not_true_eq_false,not_false_eq_true,pidx_slice,hlt,h0,true_and,and_self,Int.toNat_natCast,Nat.mul_one,AV.cells,hp,hwr]
      rw [W_scrub]
      simp only [hcs,scrub,tset]
      exact ih (k + 1) h2 (by omega) hv2 (hkp.trans hkp2)
theorem overEdges_3 {w : PWd} {h h1 : H} (hw : ∀ b o,w.imm b = some o → b < h.next) {f : Bool} {es : List Eg} {v : AV} (hr : RepV w (slE f true es) v) (hm : es.length < big) (hi : Ov3 w h h1) {Q : AV → H → Prop} (hq : ∀ h2,Ov3 w h h2 → Kp w h1 h2 → Q (.tuple []) h2) :
    C (lim tab) 51 [v] h1 Q := by
  have hcs : cS 13 [0,2] = [1,3,4,5,6,7,8,9,10,11,12] := rfl
  rw [C_fn T.h51]
  simp only [af51,W_skip,W_ret,W_regionD,WD_nil,WD_none,KPutD_eq,chkOk_nil,true_and,AO.effect,W_exit,W_region,W_seq,W_block,W_cond,PCondW_true,PCondW_false,PCondW_dec,PGuardW_tt,PGuardW_ff,PGuardW_tf,PGuardW_ft,PGuardW_tuple,PGuardW_dec_t,PGuardW_dec_f,pickV_true,pickV_false,pickV_dec,KSeq_eq,KBlock_eq,WL_eq,WO_nil,WO_none,WO_some,KPut_eq,KCall_eq,KRes_eq,KFalse,WS_call,WS_move,WS_pick,WS_alloc,WS_box,WS_build,WS_buildSlice,WS_load,WS_loadAgg,WS_store,WS_nilCheck,WS_bin,WS_eqB,WS_isNil,WS_eqCells,WS_un,WS_convInt,WS_mkFunc,WS_makeMap,WS_makeSlice,WS_slice,WS_fieldAddr,WS_field,WS_fieldN,WS_indexAddr,WS_indexAddrA,WS_index,WS_extract,WS_len,WS_append,WS_max,PPtr_ptr,PInt_int,PBool_bool,PSome_some,PAgg_agg,PTuple_tuple,PSlice_slice,PSlice_nil,PLen_nil,PLen_slice,PCall_func,put,tset,tget,ev,bnd,scrub,padTo,aresAll,ares,packRes,abin_add,abin_sub,abin_mul,abin_eql,abin_neq,abin_lss,abin_leq,abin_gtr,abin_geq,aun_not,maxV_two,List.length_cons,List.length_nil,List.replicate,List.cons_append,List.nil_append,List.append_nil,List.map_cons,List.map_nil,Nat.reduceAdd,Nat.reduceSub,ite_true,ite_false,if_true,if_false,Bool.false_eq_true,reduceIte,decide_true,decide_false,Bool.not_true,Bool.not_false,beq_self_eq_true,List.length_map,ne_eq,not_true_eq_false,not_false_eq_true]
  rw [W_scrub]
  simp only [hcs,scrub,tset]
  rcases ov_slN hr with ⟨rfl,hx⟩ | ⟨fl,b,off,ver,bcs,rfl,e1,e2,e3,e4⟩
  · rw [W_round]
    have hlt : ¬ (0 : Int) < 0 := by omega
    simp only [W_skip,W_ret,W_regionD,WD_nil,WD_none,KPutD_eq,chkOk_nil,true_and,AO.effect,W_exit,W_region,W_seq,W_block,W_cond,PCondW_true,PCondW_false,PCondW_dec,PGuardW_tt,PGuardW_ff,PGuardW_tf,PGuardW_ft,PGuardW_tuple,PGuardW_dec_t,PGuardW_dec_f,pickV_true,pickV_false,pickV_dec,KSeq_eq,KBlock_eq,WL_eq,WO_nil,WO_none,WO_some,KPut_eq,KCall_eq,KRes_eq,KFalse,WS_call,WS_move,WS_pick,WS_alloc,WS_box,WS_build,WS_buildSlice,WS_load,WS_loadAgg,WS_store,WS_nilCheck,WS_bin,WS_eqB,WS_isNil,WS_eqCells,WS_un,WS_convInt,WS_mkFunc,WS_makeMap,WS_makeSlice,WS_slice,WS_fieldAddr,WS_field,WS_fieldN,WS_indexAddr,WS_indexAddrA,WS_index,WS_extract,WS_len,WS_append,WS_max,PPtr_ptr,PInt_int,PBool_bool,PSome_some,PAgg_agg,PTuple_tuple,PSlice_slice,PSlice_nil,PLen_nil,PLen_slice,PCall_func,put,tset,tget,ev,bnd,scrub,padTo,aresAll,ares,packRes,abin_add,abin_sub,abin_mul,abin_eql,abin_neq,abin_lss,abin_leq,abin_gtr,abin_geq,aun_not,maxV_two,List.length_cons,List.length_nil,List.replicate,List.cons_append,List.nil_append,List.append_nil,List.map_cons,List.map_nil,Nat.reduceAdd,Nat.reduceSub,ite_true,ite_false,if_true,if_false,Bool.false_eq_true,reduceIte,decide_true,decide_false,Bool.not_true,Bool.not_false,beq_self_eq_true,List.length_map,ne_eq,not_true_eq_false,not_false_eq_true,hlt]
    exact hq h1 hi (.refl w h1)
  · refine (?_ : ∀ (m k : Nat) (h' : H),k + m = es.length → Ov3 w h h' → Kp w h1 h' → W (lim tab) (.loop ?sc ?x) [.slice fl 4 b off es.length,.junk,i64 k,.junk,.junk,.junk,.junk,.junk,.junk,.junk,.junk,.junk,.junk] h' ?q1 ?q2 ?q3) es.length 0 h1 (by simp) hi (.refl w h1)
    intro m
    induction m with
    | zero =>
      intro k h' hk hv hkp
      rw [W_round]
      have hlt : ¬ (k : Int) < es.length := by omega
      simp only [W_skip,W_ret,W_regionD,WD_nil,WD_none,KPutD_eq,chkOk_nil,true_and,AO.effect,W_exit,W_region,W_seq,W_block,W_cond,PCondW_true,PCondW_false,PCondW_dec,PGuardW_tt,PGuardW_ff,PGuardW_tf,PGuardW_ft,PGuardW_tuple,PGuardW_dec_t,PGuardW_dec_f,pickV_true,pickV_false,pickV_dec,KSeq_eq,KBlock_eq,WL_eq,WO_nil,WO_none,WO_some,KPut_eq,KCall_eq,KRes_eq,KFalse,WS_call,WS_move,WS_pick,WS_alloc,WS_box,WS_build,WS_buildSlice,WS_load,WS_loadAgg,WS_store,WS_nilCheck,WS_bin,WS_eqB,WS_isNil,WS_eqCells,WS_un,WS_convInt,WS_mkFunc,WS_makeMap,WS_makeSlice,WS_slice,WS_fieldAddr,WS_field,WS_fieldN,WS_indexAddr,WS_indexAddrA,WS_index,WS_extract,WS_len,WS_append,WS_max,PPtr_ptr,PInt_int,PBool_bool,PSome_some,PAgg_agg,PTuple_tuple,PSlice_slice,PSlice_nil,PLen_nil,PLen_slice,PCall_func,put,tset,tget,ev,bnd,scrub,padTo,aresAll,ares,packRes,abin_add,abin_sub,abin_mul,abin_eql,abin_neq,abin_lss,abin_leq,abin_gtr,abin_geq,aun_not,maxV_two,List.length_cons,List.length_nil,List.replicate,List.cons_append,List.nil_append,List.append_nil,List.map_cons,List.map_nil,Nat.reduceAdd,Nat.reduceSub,ite_true,ite_false,if_true,if_false,Bool.false_eq_true,reduceIte,decide_true,decide_false,Bool.not_true,Bool.not_false,beq_self_eq_true,List.length_map,ne_eq,not_true_eq_false,not_false_eq_true,hlt]
      exact hq h' hv hkp
    | succ m ih =>
      intro k h' hk hv hkp
      rw [W_round]
      have hlt : (k : Int) < es.length := by omega
      have h0 : (0 : Int) ≤ k := by omega
      have hwr := wrap_succ (k := k) (by omega)
      have hcl : (egL es).length = es.length * 4 := egL_len es
      obtain ⟨e,ge⟩ := some_of (xs := es) (k := k) (by omega)
      have h4 := psub_egL ge
      have hint : ∀ i,i < 4 → ∃ z x,bcs[off + k * 4 + i]? = some z ∧ [AV.int .i64 (-7),.int .i64 0,.int .u8 0,.int .u8 0][i]? = some x ∧ ShA z x := fun i hi => by
        obtain ⟨y,z,hy,hz,hrz⟩ := e4 (k * 4 + i) (by rw [hcl]; omega)
        have : (egC e)[i]? = some y := by
          rw [← h4]; unfold psub
          rw [List.getElem?_take,if_pos hi,List.getElem?_drop]; exact hy
        have hz' : bcs[off + k * 4 + i]? = some z := by rw [Nat.add_assoc]; exact hz
        have hi4 : i = 0 ∨ i = 1 ∨ i = 2 ∨ i = 3 := by omega
        rcases hi4 with rfl | rfl | rfl | rfl <;> (simp only [egC,List.getElem?_cons_zero,List.getElem?_cons_succ,Option.some.injEq] at this; subst this; exact ⟨_,_,hz',rfl,.inr (.inl ⟨_,_,_,rep_int hrz,rfl⟩)⟩)
      obtain ⟨h2,hp,hv2,hkp2⟩ := ov3_putN hw hv e1 e2 (p := off + k * 4) (xs := [.int .i64 (-7),.int .i64 0,.int .u8 0,.int .u8 0]) (by have := e3; rw [hcl] at this; simp; omega) rfl (fun i hi => hint i (by simpa using hi))
      have hfa : ∀ a : List AV,fillA a [AV.int .i64 0,AV.int .i64 0,AV.int .u8 0,AV.int .u8 0] [(0,1,AR.const (AV.int .i64 (-7)))] = some [.int .i64 (-7),.int .i64 0,.int .u8 0,.int .u8 0] := fun a => rfl
      simp only [W_skip,W_ret,W_regionD,WD_nil,WD_none,KPutD_eq,chkOk_nil,true_and,AO.effect,W_exit,W_region,W_seq,W_block,W_cond,PCondW_true,PCondW_false,PCondW_dec,PGuardW_tt,PGuardW_ff,PGuardW_tf,PGuardW_ft,PGuardW_tuple,PGuardW_dec_t,PGuardW_dec_f,pickV_true,pickV_false,pickV_dec,KSeq_eq,KBlock_eq,WL_eq,WO_nil,WO_none,WO_some,KPut_eq,KCall_eq,KRes_eq,KFalse,WS_call,WS_move,WS_pick,WS_alloc,WS_box,WS_build,WS_buildSlice,WS_load,WS_loadAgg,WS_store,WS_nilCheck,WS_bin,WS_eqB,WS_isNil,WS_eqCells,WS_un,WS_convInt,WS_mkFunc,WS_makeMap,WS_makeSlice,WS_slice,WS_fieldAddr,WS_field,WS_fieldN,WS_indexAddr,WS_indexAddrA,WS_index,WS_extract,WS_len,WS_append,WS_max,PPtr_ptr,PInt_int,PBool_bool,PSome_some,PAgg_agg,PTuple_tuple,PSlice_slice,PSlice_nil,PLen_nil,PLen_slice,PCall_func,put,tset,tget,ev,bnd,scrub,padTo,aresAll,ares,packRes,abin_add,abin_sub,abin_mul,abin_eql,abin_neq,abin_lss,abin_leq,abin_gtr,abin_geq,aun_not,maxV_two,List.length_cons,List.length_nil,List.replicate,List.cons_append,List.nil_append,List.append_nil,List.map_cons,List.map_nil,Nat.reduceAdd,Nat.reduceSub,ite_true,ite_false,if_true,if_false,Bool.false_eq_true,reduceIte,decide_true,decide_false,Bool.not_true,Bool.not_false,beq_self_eq_true,List.length_map,ne_eq,not_true_eq_false,not_false_eq_true,pidx_slN,hlt,h0,true_and,and_self,Int.toNat_natCast,Nat.mul_one,AV.cells,hfa,hp,hwr]
      rw [W_scrub]
      simp only [hcs,scrub,tset]
      exact ih (k + 1) h2 (by omega) hv2 (hkp.trans hkp2)
theorem overNFA_3 {w : PWd} {h h1 : H} (hw : ∀ b o,w.imm b = some o → b < h.next) {f1 f2 f3 : Bool} {N : NF} (B : BnN N) {cs' : List AV} (hc : RepL w (nfC f1 true f2 true f3 true N) cs') (hv : Ov3 w h h1) {Q : AV → H → Prop} (hq : ∀ h2,Ov3 w h h2 → Kp w h1 h2 → Q (.tuple []) h2) :
    C (lim tab) 26 [.agg cs'] h1 Q := by
  match cs',hc with
  | [v1,v2,v3,v4,v5],hc =>
  have r1 := hc.hd
  have r2 := hc.tl.hd
  have r3 := hc.tl.tl.hd
  have r4 := hc.tl.tl.tl.hd
  have r5 := hc.tl.tl.tl.tl.hd
  have o1 : v1.one = true := rep_one r1 rfl
  have o2 : v2.one = true := rep_one r2 rfl
  have o3 : v3.one = true := rep_one r3 rfl
  have o4 : v4.one = true := rep_one r4 rfl
  have o5 : v5.one = true := rep_one r5 rfl
  have hone : [v1,v2,v3,v4,v5].all AV.one = true := by simp [o1,o2,o3,o4,o5]
  rw [C_fn T.h26]
  have w1 := hv.alloc hw (.cells 0 true [v1,v2,v3,v4,v5])
  have hnone : w.imm h1.next = none := by
    cases hc : w.imm h1.next with
    | none => rfl
    | some o => have := hw _ _ hc; have := hv.next; omega
  have hbox : ∀ {h' : H},Kp w (h1.alloc (.cells 0 true [v1,v2,v3,v4,v5])) h' → ∀ i,getCell h' h1.next i = [v1,v2,v3,v4,v5][i]? := by
    intro h' hk i
    unfold getCell
    rw [hk.keep h1.next (by simp) (.inr hnone),H.get_alloc_new]
  have b1 := hbox (.refl w _)
  simp only [af26,W_skip,W_ret,W_regionD,WD_nil,WD_none,KPutD_eq,chkOk_nil,true_and,AO.effect,W_exit,W_region,W_seq,W_block,W_cond,PCondW_true,PCondW_false,PCondW_dec,PGuardW_tt,PGuardW_ff,PGuardW_tf,PGuardW_ft,PGuardW_tuple,PGuardW_dec_t,PGuardW_dec_f,pickV_true,pickV_false,pickV_dec,KSeq_eq,KBlock_eq,WL_eq,WO_nil,WO_none,WO_some,KPut_eq,KCall_eq,KRes_eq,KFalse,WS_call,WS_move,WS_pick,WS_alloc,WS_box,WS_build,WS_buildSlice,WS_load,WS_loadAgg,WS_store,WS_nilCheck,WS_bin,WS_eqB,WS_isNil,WS_eqCells,WS_un,WS_convInt,WS_mkFunc,WS_makeMap,WS_makeSlice,WS_slice,WS_fieldAddr,WS_field,WS_fieldN,WS_indexAddr,WS_indexAddrA,WS_index,WS_extract,WS_len,WS_append,WS_max,PPtr_ptr,PInt_int,PBool_bool,PSome_some,PAgg_agg,PTuple_tuple,PSlice_slice,PSlice_nil,PLen_nil,PLen_slice,PCall_func,put,tset,tget,ev,bnd,scrub,padTo,aresAll,ares,packRes,abin_add,abin_sub,abin_mul,abin_eql,abin_neq,abin_lss,abin_leq,abin_gtr,abin_geq,aun_not,maxV_two,List.length_cons,List.length_nil,List.replicate,List.cons_append,List.nil_append,List.append_nil,List.map_cons,List.map_nil,Nat.reduceAdd,Nat.reduceSub,ite_true,ite_false,if_true,if_false,Bool.false_eq_true,reduceIte,decide_true,decide_false,Bool.not_true,Bool.not_false,beq_self_eq_true,List.length_map,ne_eq,not_true_eq_false,not_false_eq_true,AV.cells,hone,b1,List.getElem?_cons_zero,List.getElem?_cons_succ]
  refine overInts_3 T hw r3 B.s w1 fun h2 v2' k2 => ?_
  have b2 := hbox k2
  simp only [W_skip,W_ret,W_regionD,WD_nil,WD_none,KPutD_eq,chkOk_nil,true_and,AO.effect,W_exit,W_region,W_seq,W_block,W_cond,PCondW_true,PCondW_false,PCondW_dec,PGuardW_tt,PGuardW_ff,PGuardW_tf,PGuardW_ft,PGuardW_tuple,PGuardW_dec_t,PGuardW_dec_f,pickV_true,pickV_false,pickV_dec,KSeq_eq,KBlock_eq,WL_eq,WO_nil,WO_none,WO_some,KPut_eq,KCall_eq,KRes_eq,KFalse,WS_call,WS_move,WS_pick,WS_alloc,WS_box,WS_build,WS_buildSlice,WS_load,WS_loadAgg,WS_store,WS_nilCheck,WS_bin,WS_eqB,WS_isNil,WS_eqCells,WS_un,WS_convInt,WS_mkFunc,WS_makeMap,WS_makeSlice,WS_slice,WS_fieldAddr,WS_field,WS_fieldN,WS_indexAddr,WS_indexAddrA,WS_index,WS_extract,WS_len,WS_append,WS_max,PPtr_ptr,PInt_int,PBool_bool,PSome_some,PAgg_agg,PTuple_tuple,PSlice_slice,PSlice_nil,PLen_nil,PLen_slice,PCall_func,put,tset,tget,ev,bnd,scrub,padTo,aresAll,ares,packRes,abin_add,abin_sub,abin_mul,abin_eql,abin_neq,abin_lss,abin_leq,abin_gtr,abin_geq,aun_not,maxV_two,List.length_cons,List.length_nil,List.replicate,List.cons_append,List.nil_append,List.append_nil,List.map_cons,List.map_nil,Nat.reduceAdd,Nat.reduceSub,ite_true,ite_false,if_true,if_false,Bool.false_eq_true,reduceIte,decide_true,decide_false,Bool.not_true,Bool.not_false,beq_self_eq_true,List.length_map,ne_eq,not_true_eq_false,not_false_eq_true,b2,List.getElem?_cons_zero,List.getElem?_cons_succ]
  refine overInts_3 T hw r4 B.f v2' fun h3 v3' k3 => ?_
  have b3 := hbox (k2.trans k3)
  simp only [W_skip,W_ret,W_regionD,WD_nil,WD_none,KPutD_eq,chkOk_nil,true_and,AO.effect,W_exit,W_region,W_seq,W_block,W_cond,PCondW_true,PCondW_false,PCondW_dec,PGuardW_tt,PGuardW_ff,PGuardW_tf,PGuardW_ft,PGuardW_tuple,PGuardW_dec_t,PGuardW_dec_f,pickV_true,pickV_false,pickV_dec,KSeq_eq,KBlock_eq,WL_eq,WO_nil,WO_none,WO_some,KPut_eq,KCall_eq,KRes_eq,KFalse,WS_call,WS_move,WS_pick,WS_alloc,WS_box,WS_build,WS_buildSlice,WS_load,WS_loadAgg,WS_store,WS_nilCheck,WS_bin,WS_eqB,WS_isNil,WS_eqCells,WS_un,WS_convInt,WS_mkFunc,WS_makeMap,WS_makeSlice,WS_slice,WS_fieldAddr,WS_field,WS_fieldN,WS_indexAddr,WS_indexAddrA,WS_index,WS_extract,WS_len,WS_append,WS_max,PPtr_ptr,PInt_int,PBool_bool,PSome_some,PAgg_agg,PTuple_tuple,PSlice_slice,PSlice_nil,PLen_nil,PLen_slice,PCall_func,put,tset,tget,ev,bnd,scrub,padTo,aresAll,ares,packRes,abin_add,abin_sub,abin_mul,abin_eql,abin_neq,abin_lss,abin_leq,abin_gtr,abin_geq,aun_not,maxV_two,List.length_cons,List.length_nil,List.replicate,List.cons_append,List.nil_append,List.append_nil,List.map_cons,List.map_nil,Nat.reduceAdd,Nat.reduceSub,ite_true,ite_false,if_true,if_false,Bool.false_eq_true,reduceIte,decide_true,decide_false,Bool.not_true,Bool.not_false,beq_self_eq_true,List.length_map,ne_eq,not_true_eq_false,not_false_eq_true,b3,List.getElem?_cons_zero,List.getElem?_cons_succ]
  refine overEdges_3 T hw r5 B.e v3' fun h4 v4' k4 => ?_
  simp only [W_skip,W_ret,W_regionD,WD_nil,WD_none,KPutD_eq,chkOk_nil,true_and,AO.effect,W_exit,W_region,W_seq,W_block,W_cond,PCondW_true,PCondW_false,PCondW_dec,PGuardW_tt,PGuardW_ff,PGuardW_tf,PGuardW_ft,PGuardW_tuple,PGuardW_dec_t,PGuardW_dec_f,pickV_true,pickV_false,pickV_dec,KSeq_eq,KBlock_eq,WL_eq,WO_nil,WO_none,WO_some,KPut_eq,KCall_eq,KRes_eq,KFalse,WS_call,WS_move,WS_pick,WS_alloc,WS_box,WS_build,WS_buildSlice,WS_load,WS_loadAgg,WS_store,WS_nilCheck,WS_bin,WS_eqB,WS_isNil,WS_eqCells,WS_un,WS_convInt,WS_mkFunc,WS_makeMap,WS_makeSlice,WS_slice,WS_fieldAddr,WS_field,WS_fieldN,WS_indexAddr,WS_indexAddrA,WS_index,WS_extract,WS_len,WS_append,WS_max,PPtr_ptr,PInt_int,PBool_bool,PSome_some,PAgg_agg,PTuple_tuple,PSlice_slice,PSlice_nil,PLen_nil,PLen_slice,PCall_func,put,tset,tget,ev,bnd,scrub,padTo,aresAll,ares,packRes,abin_add,abin_sub,abin_mul,abin_eql,abin_neq,abin_lss,abin_leq,abin_gtr,abin_geq,aun_not,maxV_two,List.length_cons,List.length_nil,List.replicate,List.cons_append,List.nil_append,List.append_nil,List.map_cons,List.map_nil,Nat.reduceAdd,Nat.reduceSub,ite_true,ite_false,if_true,if_false,Bool.false_eq_true,reduceIte,decide_true,decide_false,Bool.not_true,Bool.not_false,beq_self_eq_true,List.length_map,ne_eq,not_true_eq_false,not_false_eq_true]
  exact hq _ v4' ((Kp.alloc w h1 _).trans ((k2.trans k3).trans k4))
theorem overBools_3 {w : PWd} {h h1 : H} (hw : ∀ b o,w.imm b = some o → b < h.next) {f : Bool} {xs : List Bool} {v : AV} (hr : RepV w (slB f true xs) v) (hm : xs.length < big) (hi : Ov3 w h h1) {Q : AV → H → Prop} (hq : ∀ h2,Ov3 w h h2 → Kp w h1 h2 → Q (.tuple []) h2) :
    C (lim tab) 24 [v] h1 Q := by
  have hcs : cS 17 [0,2] = [1,3,4,5,6,7,8,9,10,11,12,13,14,15,16] := rfl
  rw [C_fn T.h24]
  simp only [af24,W_skip,W_ret,W_regionD,WD_nil,WD_none,KPutD_eq,chkOk_nil,true_and,AO.effect,W_exit,W_region,W_seq,W_block,W_cond,PCondW_true,PCondW_false,PCondW_dec,PGuardW_tt,PGuardW_ff,PGuardW_tf,PGuardW_ft,PGuardW_tuple,PGuardW_dec_t,PGuardW_dec_f,pickV_true,pickV_false,pickV_dec,KSeq_eq,KBlock_eq,WL_eq,WO_nil,WO_none,WO_some,KPut_eq,KCall_eq,KRes_eq,KFalse,WS_call,WS_move,WS_pick,WS_alloc,WS_box,WS_build,WS_buildSlice,WS_load,WS_loadAgg,WS_store,WS_nilCheck,WS_bin,WS_eqB,WS_isNil,WS_eqCells,WS_un,WS_convInt,WS_mkFunc,WS_makeMap,WS_makeSlice,WS_slice,WS_fieldAddr,WS_field,WS_fieldN,WS_indexAddr,WS_indexAddrA,WS_index,WS_extract,WS_len,WS_append,WS_max,PPtr_ptr,PInt_int,PBool_bool,PSome_some,PAgg_agg,PTuple_tuple,PSlice_slice,PSlice_nil,PLen_nil,PLen_slice,PCall_func,put,tset,tget,ev,bnd,scrub,padTo,aresAll,ares,packRes,abin_add,abin_sub,abin_mul,abin_eql,abin_neq,abin_lss,abin_leq,abin_gtr,abin_geq,aun_not,maxV_two,List.length_cons,List.length_nil,List.replicate,List.cons_append,List.nil_append,List.append_nil,List.map_cons,List.map_nil,Nat.reduceAdd,Nat.reduceSub,ite_true,ite_false,if_true,if_false,Bool.false_eq_true,reduceIte,decide_true,decide_false,Bool.not_true,Bool.not_false,beq_self_eq_true,List.length_map,ne_eq,not_true_eq_false,not_false_eq_true]
  rw [W_scrub]
  simp only [hcs,scrub,tset]
  rcases ov_sl hr with ⟨rfl,hx⟩ | ⟨fl,b,off,ver,bcs,rfl,e1,e2,e3,e4⟩
  · rw [W_round]
    have hlt : ¬ (0 : Int) < 0 := by omega
    simp only [W_skip,W_ret,W_regionD,WD_nil,WD_none,KPutD_eq,chkOk_nil,true_and,AO.effect,W_exit,W_region,W_seq,W_block,W_cond,PCondW_true,PCondW_false,PCondW_dec,PGuardW_tt,PGuardW_ff,PGuardW_tf,PGuardW_ft,PGuardW_tuple,PGuardW_dec_t,PGuardW_dec_f,pickV_true,pickV_false,pickV_dec,KSeq_eq,KBlock_eq,WL_eq,WO_nil,WO_none,WO_some,KPut_eq,KCall_eq,KRes_eq,KFalse,WS_call,WS_move,WS_pick,WS_alloc,WS_box,WS_build,WS_buildSlice,WS_load,WS_loadAgg,WS_store,WS_nilCheck,WS_bin,WS_eqB,WS_isNil,WS_eqCells,WS_un,WS_convInt,WS_mkFunc,WS_makeMap,WS_makeSlice,WS_slice,WS_fieldAddr,WS_field,WS_fieldN,WS_indexAddr,WS_indexAddrA,WS_index,WS_extract,WS_len,WS_append,WS_max,PPtr_ptr,PInt_int,PBool_bool,PSome_some,PAgg_agg,PTuple_tuple,PSlice_slice,PSlice_nil,PLen_nil,PLen_slice,PCall_func,put,tset,tget,ev,bnd,scrub,padTo,aresAll,ares,packRes,abin_add,abin_sub,abin_mul,abin_eql,abin_neq,abin_lss,abin_leq,abin_gtr,abin_geq,aun_not,maxV_two,List.length_cons,List.length_nil,List.replicate,List.cons_append,List.nil_append,List.append_nil,List.map_cons,List.map_nil,Nat.reduceAdd,Nat.reduceSub,ite_true,ite_false,if_true,if_false,Bool.false_eq_true,reduceIte,decide_true,decide_false,Bool.not_true,Bool.not_false,beq_self_eq_true,List.length_map,ne_eq,not_true_eq_false,not_false_eq_true,hlt]
    exact hq h1 hi (.refl w h1)
  · refine (?_ : ∀ (m k : Nat) (h' : H),k + m = xs.length → Ov3 w h h' → Kp w h1 h' → W (lim tab) (.loop ?sc ?x) [.slice fl 1 b off xs.length,.junk,i64 k,.junk,.junk,.junk,.junk,.junk,.junk,.junk,.junk,.junk,.junk,.junk,.junk,.junk,.junk] h' ?q1 ?q2 ?q3) xs.length 0 h1 (by simp) hi (.refl w h1)
    intro m
    induction m with
    | zero =>
      intro k h' hk hv hkp
      rw [W_round]
      have hlt : ¬ (k : Int) < xs.length := by omega
      simp only [W_skip,W_ret,W_regionD,WD_nil,WD_none,KPutD_eq,chkOk_nil,true_and,AO.effect,W_exit,W_region,W_seq,W_block,W_cond,PCondW_true,PCondW_false,PCondW_dec,PGuardW_tt,PGuardW_ff,PGuardW_tf,PGuardW_ft,PGuardW_tuple,PGuardW_dec_t,PGuardW_dec_f,pickV_true,pickV_false,pickV_dec,KSeq_eq,KBlock_eq,WL_eq,WO_nil,WO_none,WO_some,KPut_eq,KCall_eq,KRes_eq,KFalse,WS_call,WS_move,WS_pick,WS_alloc,WS_box,WS_build,WS_buildSlice,WS_load,WS_loadAgg,WS_store,WS_nilCheck,WS_bin,WS_eqB,WS_isNil,WS_eqCells,WS_un,WS_convInt,WS_mkFunc,WS_makeMap,WS_makeSlice,WS_slice,WS_fieldAddr,WS_field,WS_fieldN,WS_indexAddr,WS_indexAddrA,WS_index,WS_extract,WS_len,WS_append,WS_max,PPtr_ptr,PInt_int,PBool_bool,PSome_some,PAgg_agg,PTuple_tuple,PSlice_slice,PSlice_nil,PLen_nil,PLen_slice,PCall_func,put,tset,tget,ev,bnd,scrub,padTo,aresAll,ares,packRes,abin_add,abin_sub,abin_mul,abin_eql,abin_neq,abin_lss,abin_leq,abin_gtr,abin_geq,aun_not,maxV_two,List.length_cons,List.length_nil,List.replicate,List.cons_append,List.nil_append,List.append_nil,List.map_cons,List.map_nil,Nat.reduceAdd,Nat.reduceSub,ite_true,ite_false,if_true,if_false,Bool.false_eq_true,reduceIte,decide_true,decide_false,Bool.not_true,Bool.not_false,beq_self_eq_true,List.length_map,ne_eq,not_true_eq_false,not_false_eq_true,hlt]
      exact hq h' hv hkp
    | succ m ih =>
      intro k h' hk hv hkp
      rw [W_round]
      have hlt : (k : Int) < xs.length := by omega
      have h0 : (0 : Int) ≤ k := by omega
      have hwr := wrap_succ (k := k) (by omega)
      obtain ⟨y,z,hy,hz,hrz⟩ := e4 k (by simp; omega)
      have hzb : ∃ bb,z = .bool bb := by
        rw [List.getElem?_map] at hy
        obtain ⟨x,hx⟩ := some_of (xs := xs) (k := k) (by omega)
        rw [hx] at hy
        cases hy
        exact ⟨x,rep_bool hrz⟩
      obtain ⟨bb,rfl⟩ := hzb
      obtain ⟨v2,b2,q1,q2,q3⟩ := hv.cells b ver bcs e1 e2
      obtain ⟨z',g1,g2⟩ := q3 _ _ hz
      have hz' : ∃ b',z' = .bool b' := by
        rcases g2 with rfl | ⟨k,n,_,h,_⟩ | ⟨b,b',_,rfl⟩
        · exact ⟨bb,rfl⟩
        · cases h
        · exact ⟨b',rfl⟩
      obtain ⟨b',rfl⟩ := hz'
      have hgc : getCell h' b (off + k) = some (.bool b') := by unfold getCell; rw [q1]; exact g1
      obtain ⟨h2,hp,hv2,hkp2⟩ := ov3_putN hw hv e1 e2 (p := off + k) (xs := [.bool !b']) (getSome_lt hz) rfl (fun i hi => by
        have : i = 0 := by simpa using hi
        subst this
        exact ⟨_,_,hz,rfl,.inr (.inr ⟨_,_,rfl,rfl⟩)⟩)
      simp only [W_skip,W_ret,W_regionD,WD_nil,WD_none,KPutD_eq,chkOk_nil,true_and,AO.effect,W_exit,W_region,W_seq,W_block,W_cond,PCondW_true,PCondW_false,PCondW_dec,PGuardW_tt,PGuardW_ff,PGuardW_tf,PGuardW_ft,PGuardW_tuple,PGuardW_dec_t,PGuardW_dec_f,pickV_true,pickV_false,pickV_dec,KSeq_eq,KBlock_eq,WL_eq,WO_nil,WO_none,WO_some,KPut_eq,KCall_eq,KRes_eq,KFalse,WS_call,WS_move,WS_pick,WS_alloc,WS_box,WS_build,WS_buildSlice,WS_load,WS_loadAgg,WS_store,WS_nilCheck,WS_bin,WS_eqB,WS_isNil,WS_eqCells,WS_un,WS_convInt,WS_mkFunc,WS_makeMap,WS_makeSlice,WS_slice,WS_fieldAddr,WS_field,WS_fieldN,WS_indexAddr,WS_indexAddrA,WS_index,WS_extract,WS_len,WS_append,WS_max,PPtr_ptr,PInt_int,PBool_bool,PSome_some,PAgg_agg,PTuple_tuple,PSlice_slice,PSlice_nil,PLen_nil,PLen_slice,PCall_func,put,tset,tget,ev,bnd,scrub,padTo,aresAll,ares,packRes,abin_add,abin_sub,abin_mul,abin_eql,abin_neq,abin_lss,abin_leq,abin_gtr,abin_geq,aun_not,maxV_two,List.length_cons,List.length_nil,List.replicate,List.cons_append,List.nil_append,List.append_nil,List.map_cons,List.map_nil,Nat.reduceAdd,Nat.reduceSub,ite_true,ite_false,if_true,if_false,Bool.false_eq_true,reduceIte,decide_true,decide_false,Bool.not_true,Bool.not_false,beq_self_eq_true,List.length_map,ne_eq,not_true_eq_false,not_false_eq_true,pidx_slice,hlt,h0,true_and,and_self,Int.toNat_natCast,Nat.mul_one,AV.cells,hgc,hp,hwr]
      rw [W_scrub]
      simp only [hcs,scrub,tset]
      exact ih (k + 1) h2 (by omega) hv2 (hkp.trans hkp2)
end
end Go.Am.Ar
set_option linter.unusedVariables false
set_option linter.unusedSimpArgs false
set_option maxRecDepth 10000
namespace Go.Am.Ar
open Go.Am.PV renaming junk → Z
theorem tget_el : ∀ (a : List AV) (i : Nat) (h : i < a.length),tget a i = a[i]
  | [],i,h => absurd h (by simp)
  | v :: a,0,h => rfl
  | v :: a,i + 1,h => by
    show tget a i = _
    rw [tget_el a i (by simpa using h)]; rfl
theorem lit_of {n : Nat} {a : List AV} (h : a.length = n) : a = (List.range n).map fun i => tget a i := by
  subst h
  refine List.ext_getElem (by simp) fun i h1 h2 => ?_
  simp only [List.getElem_map,List.getElem_range]
  exact (tget_el a i h1).symm
section
variable {tab : FuncId → Option AF}
theorem TopX_mode {c : AC} {a b : List PV} {M : Mem} {Qn Qr : List PV → Mem → Prop} {Qe : Nat → List PV → Mem → Prop}
    (h : ∀ (w : PWd) (h : H) (a' : List AV),(∀ b o,w.imm b = some o → b < h.next) → PSt w h M → RepL w a a' → W (lim tab) c a' h (fun a2 h2 => RepL w b a2 ∧ Ov3 w h h2) (fun _ _ => False) (fun _ _ _ => False))
    (hq : Qn (jnkL b) (M.map (PObj.mapC jnkL))) : TopX tab c a M Qn Qr Qe := by
  intro w hh a' s ha
  refine W_mono (h w hh a' (fun b o hb => s.immLt hb) s ha) (fun a2 h2 ⟨r,o⟩ => ?_) (fun _ _ q => q.elim) (fun _ _ _ q => q.elim)
  obtain ⟨w2,s2,rl⟩ := s.ov2 o.two
  exact ⟨w2,_,_,s2,rl _ _ r,hq⟩
variable (T : HasA tab)
include T
set_option maxHeartbeats 2000000 in
theorem over13 {M : Mem} {id ver : Nat} {e e1 e2 : Int} {k : Nat} {v5 v6 : PV} {rs : List (List Bool)} {l : List Int} {Q : NF} {Qn Qr : List PV → Mem → Prop} {Qe : Nat → List PV → Mem → Prop} (hrs : rs.length < big) (hrow : ∀ r ∈ rs,r.length < big) (hl : l.length < big) (BQ : BnN Q) (hM : M[id]? = some (.cells 0 ver (nfC false true false true false true Q)))
    (hq : Qn (jnkL [Z,.ptr 0 0 0,Z,.ptr 1 0 0,p64 e,v5,v6,p64 e1,.ptr 2 0 0,p64 e2,p64 k,Z,Z,Z,Z,Z,Z,Z,Z,Z,Z,Z,Z,Z,Z,Z,Z,Z,Z,Z,Z,Z,Z,Z,Z,Z,Z,Z,Z,Z,Z,Z,Z,Z,Z,Z,Z,Z,Z,Z,Z,Z,Z,Z,Z,Z,Z,Z,Z,Z,Z,Z,Z,Z,Z,Z,Z,Z,Z,Z,Z,Z,Z,Z,Z,Z,Z,Z,Z,Z,Z,Z,Z,Z,Z,Z,Z,Z,Z,Z,Z,Z,Z,Z,Z,Z,Z,Z,Z,Z,Z,Z,Z,Z,Z,Z,Z,Z,Z,Z,Z,Z]) (M.map (PObj.mapC jnkL))) :
    TopX tab (.seq (.seq (.region [⟨some 17,.move (.const (.int .i64 0)),none,[]⟩]) (.block 2 (.loop (cS 112 [1,3,4,5,6,7,8,9,10,11,13,15,17]) (.seq (.seq (.region [⟨some 96,.move (.tmp 17),none,[]⟩,⟨some 97,.move (.tmp 11),none,[]⟩,⟨some 98,.len (.tmp 97),none,[]⟩,⟨some 99,.bin .lss (.tmp 96) (.tmp 98),none,[]⟩]) (.cond (.tmp 99) .skip (.exit 2))) (.seq (.block 3 (.region [⟨some 102,.move (.tmp 11),none,[]⟩,⟨some 103,.move (.tmp 17),none,[]⟩,⟨some 104,.indexAddr 1 (.tmp 102) (.tmp 103),none,[]⟩,⟨some 105,.load (.tmp 104),none,[]⟩,⟨some 106,.call (.const (.func (.func 24) [] [])) [.tmp 105],none,[]⟩])) (.region [⟨some 100,.move (.tmp 17),none,[]⟩,⟨some 101,.bin .add (.tmp 100) (.const (.int .i64 1)),none,[]⟩,⟨some 17,.move (.tmp 101),none,[]⟩])))))) (.seq (.region [⟨some 107,.move (.tmp 13),none,[]⟩,⟨some 108,.call (.const (.func (.func 25) [] [])) [.tmp 107],none,[]⟩]) (.region [⟨some 109,.loadAgg 5 (.tmp 15),none,[]⟩,⟨some 110,.call (.const (.func (.func 26) [] [])) [.tmp 109],none,[]⟩]))) [Z,.ptr 0 0 0,Z,.ptr 1 0 0,p64 e,v5,v6,p64 e1,.ptr 2 0 0,p64 e2,p64 k,slBr false true false true rs,Z,slI false true .i64 l,Z,.ptr id 0 0,Z,Z,Z,Z,Z,Z,Z,Z,Z,Z,Z,Z,Z,Z,Z,Z,Z,Z,Z,Z,Z,Z,Z,Z,Z,Z,Z,Z,Z,Z,Z,Z,Z,Z,Z,Z,Z,Z,Z,Z,Z,Z,Z,Z,Z,Z,Z,Z,Z,Z,Z,Z,Z,Z,Z,Z,Z,Z,Z,Z,Z,Z,Z,Z,Z,Z,Z,Z,Z,Z,Z,Z,Z,Z,Z,Z,Z,Z,Z,Z,Z,Z,Z,Z,Z,Z,Z,Z,Z,Z,Z,Z,Z,Z,Z,Z] M Qn Qr Qe := by
  refine TopX_mode (b := [Z,.ptr 0 0 0,Z,.ptr 1 0 0,p64 e,v5,v6,p64 e1,.ptr 2 0 0,p64 e2,p64 k,Z,Z,Z,Z,Z,Z,Z,Z,Z,Z,Z,Z,Z,Z,Z,Z,Z,Z,Z,Z,Z,Z,Z,Z,Z,Z,Z,Z,Z,Z,Z,Z,Z,Z,Z,Z,Z,Z,Z,Z,Z,Z,Z,Z,Z,Z,Z,Z,Z,Z,Z,Z,Z,Z,Z,Z,Z,Z,Z,Z,Z,Z,Z,Z,Z,Z,Z,Z,Z,Z,Z,Z,Z,Z,Z,Z,Z,Z,Z,Z,Z,Z,Z,Z,Z,Z,Z,Z,Z,Z,Z,Z,Z,Z,Z,Z,Z,Z,Z,Z,Z]) (fun w h a' hw s ha => ?_) hq
  obtain ⟨f,rfl⟩ : ∃ f : Nat → AV,a' = [f 0,f 1,f 2,f 3,f 4,f 5,f 6,f 7,f 8,f 9,f 10,f 11,f 12,f 13,f 14,f 15,f 16,f 17,f 18,f 19,f 20,f 21,f 22,f 23,f 24,f 25,f 26,f 27,f 28,f 29,f 30,f 31,f 32,f 33,f 34,f 35,f 36,f 37,f 38,f 39,f 40,f 41,f 42,f 43,f 44,f 45,f 46,f 47,f 48,f 49,f 50,f 51,f 52,f 53,f 54,f 55,f 56,f 57,f 58,f 59,f 60,f 61,f 62,f 63,f 64,f 65,f 66,f 67,f 68,f 69,f 70,f 71,f 72,f 73,f 74,f 75,f 76,f 77,f 78,f 79,f 80,f 81,f 82,f 83,f 84,f 85,f 86,f 87,f 88,f 89,f 90,f 91,f 92,f 93,f 94,f 95,f 96,f 97,f 98,f 99,f 100,f 101,f 102,f 103,f 104,f 105,f 106,f 107,f 108,f 109,f 110,f 111] := ⟨tget a',lit_of ha.len.symm⟩
  have hcs : cS 112 [1,3,4,5,6,7,8,9,10,11,13,15,17] = [0,2,12,14,16,18,19,20,21,22,23,24,25,26,27,28,29,30,31,32,33,34,35,36,37,38,39,40,41,42,43,44,45,46,47,48,49,50,51,52,53,54,55,56,57,58,59,60,61,62,63,64,65,66,67,68,69,70,71,72,73,74,75,76,77,78,79,80,81,82,83,84,85,86,87,88,89,90,91,92,93,94,95,96,97,98,99,100,101,102,103,104,105,106,107,108,109,110,111] := rfl
  have r11 : RepV w (slBr false true false true rs) (f 11) := ha.tget 11
  have r13 : RepV w (slI false true .i64 l) (f 13) := ha.tget 13
  have p15 : RepV w (.ptr id 0 0) (f 15) := ha.tget 15
  obtain ⟨e0,bb,bcs15,h15,_,_,_,g5,r15,live⟩ := s.ptrAt hM p15
  have hb5 : (nfC false true false true false true Q).length = bcs15.length := r15.len
  have hb5' : bcs15.length = 5 := hb5.symm
  have q1 : RepV w (.ptr 0 0 0) (f 1) := ha.tget 1
  have q3 : RepV w (.ptr 1 0 0) (f 3) := ha.tget 3
  have q4 : RepV w (p64 e) (f 4) := ha.tget 4
  have q5 : RepV w v5 (f 5) := ha.tget 5
  have q6 : RepV w v6 (f 6) := ha.tget 6
  have q7 : RepV w (p64 e1) (f 7) := ha.tget 7
  have q8 : RepV w (.ptr 2 0 0) (f 8) := ha.tget 8
  have q9 : RepV w (p64 e2) (f 9) := ha.tget 9
  have q10 : RepV w (p64 k) (f 10) := ha.tget 10
  simp only [W_skip,W_ret,W_regionD,WD_nil,WD_none,KPutD_eq,chkOk_nil,true_and,AO.effect,W_exit,W_region,W_seq,W_block,W_cond,PCondW_true,PCondW_false,PCondW_dec,PGuardW_tt,PGuardW_ff,PGuardW_tf,PGuardW_ft,PGuardW_tuple,PGuardW_dec_t,PGuardW_dec_f,pickV_true,pickV_false,pickV_dec,KSeq_eq,KBlock_eq,WL_eq,WO_nil,WO_none,WO_some,KPut_eq,KCall_eq,KRes_eq,KFalse,WS_call,WS_move,WS_pick,WS_alloc,WS_box,WS_build,WS_buildSlice,WS_load,WS_loadAgg,WS_store,WS_nilCheck,WS_bin,WS_eqB,WS_isNil,WS_eqCells,WS_un,WS_convInt,WS_mkFunc,WS_makeMap,WS_makeSlice,WS_slice,WS_fieldAddr,WS_field,WS_fieldN,WS_indexAddr,WS_indexAddrA,WS_index,WS_extract,WS_len,WS_append,WS_max,PPtr_ptr,PInt_int,PBool_bool,PSome_some,PAgg_agg,PTuple_tuple,PSlice_slice,PSlice_nil,PLen_nil,PLen_slice,PCall_func,put,tset,tget,ev,bnd,scrub,padTo,aresAll,ares,packRes,abin_add,abin_sub,abin_mul,abin_eql,abin_neq,abin_lss,abin_leq,abin_gtr,abin_geq,aun_not,maxV_two,List.length_cons,List.length_nil,List.replicate,List.cons_append,List.nil_append,List.append_nil,List.map_cons,List.map_nil,Nat.reduceAdd,Nat.reduceSub,ite_true,ite_false,if_true,if_false,Bool.false_eq_true,reduceIte,decide_true,decide_false,Bool.not_true,Bool.not_false,beq_self_eq_true,List.length_map,ne_eq,not_true_eq_false,not_false_eq_true]
  rw [W_scrub]
  simp only [hcs,scrub,tset]
  rcases ov_sl r11 with ⟨hx,hz⟩ | ⟨fl,b,off,ver',bcs,hx,e1',e2',e3,e4⟩
  · rw [hx,W_round]
    have hlt : ¬ (0 : Int) < 0 := by omega
    have hv : Ov3 w h h := .refl s.imm
    simp only [W_skip,W_ret,W_regionD,WD_nil,WD_none,KPutD_eq,chkOk_nil,true_and,AO.effect,W_exit,W_region,W_seq,W_block,W_cond,PCondW_true,PCondW_false,PCondW_dec,PGuardW_tt,PGuardW_ff,PGuardW_tf,PGuardW_ft,PGuardW_tuple,PGuardW_dec_t,PGuardW_dec_f,pickV_true,pickV_false,pickV_dec,KSeq_eq,KBlock_eq,WL_eq,WO_nil,WO_none,WO_some,KPut_eq,KCall_eq,KRes_eq,KFalse,WS_call,WS_move,WS_pick,WS_alloc,WS_box,WS_build,WS_buildSlice,WS_load,WS_loadAgg,WS_store,WS_nilCheck,WS_bin,WS_eqB,WS_isNil,WS_eqCells,WS_un,WS_convInt,WS_mkFunc,WS_makeMap,WS_makeSlice,WS_slice,WS_fieldAddr,WS_field,WS_fieldN,WS_indexAddr,WS_indexAddrA,WS_index,WS_extract,WS_len,WS_append,WS_max,PPtr_ptr,PInt_int,PBool_bool,PSome_some,PAgg_agg,PTuple_tuple,PSlice_slice,PSlice_nil,PLen_nil,PLen_slice,PCall_func,put,tset,tget,ev,bnd,scrub,padTo,aresAll,ares,packRes,abin_add,abin_sub,abin_mul,abin_eql,abin_neq,abin_lss,abin_leq,abin_gtr,abin_geq,aun_not,maxV_two,List.length_cons,List.length_nil,List.replicate,List.cons_append,List.nil_append,List.append_nil,List.map_cons,List.map_nil,Nat.reduceAdd,Nat.reduceSub,ite_true,ite_false,if_true,if_false,Bool.false_eq_true,reduceIte,decide_true,decide_false,Bool.not_true,Bool.not_false,beq_self_eq_true,List.length_map,ne_eq,not_true_eq_false,not_false_eq_true,hlt]
    refine overInts_3 T hw r13 hl hv fun h2 hv2 k2 => ?_
    have hgc : getCells h2 bb 0 5 = some bcs15 := by
      unfold getCells
      rw [hv2.keep bb (live.next s) (.inr (s.sep _ bb live).1),g5]
      simp only
      rw [if_pos (by rw [hb5']; decide)]
      simp only [List.drop_zero]
      rw [List.take_of_length_le (by omega)]
    simp only [W_skip,W_ret,W_regionD,WD_nil,WD_none,KPutD_eq,chkOk_nil,true_and,AO.effect,W_exit,W_region,W_seq,W_block,W_cond,PCondW_true,PCondW_false,PCondW_dec,PGuardW_tt,PGuardW_ff,PGuardW_tf,PGuardW_ft,PGuardW_tuple,PGuardW_dec_t,PGuardW_dec_f,pickV_true,pickV_false,pickV_dec,KSeq_eq,KBlock_eq,WL_eq,WO_nil,WO_none,WO_some,KPut_eq,KCall_eq,KRes_eq,KFalse,WS_call,WS_move,WS_pick,WS_alloc,WS_box,WS_build,WS_buildSlice,WS_load,WS_loadAgg,WS_store,WS_nilCheck,WS_bin,WS_eqB,WS_isNil,WS_eqCells,WS_un,WS_convInt,WS_mkFunc,WS_makeMap,WS_makeSlice,WS_slice,WS_fieldAddr,WS_field,WS_fieldN,WS_indexAddr,WS_indexAddrA,WS_index,WS_extract,WS_len,WS_append,WS_max,PPtr_ptr,PInt_int,PBool_bool,PSome_some,PAgg_agg,PTuple_tuple,PSlice_slice,PSlice_nil,PLen_nil,PLen_slice,PCall_func,put,tset,tget,ev,bnd,scrub,padTo,aresAll,ares,packRes,abin_add,abin_sub,abin_mul,abin_eql,abin_neq,abin_lss,abin_leq,abin_gtr,abin_geq,aun_not,maxV_two,List.length_cons,List.length_nil,List.replicate,List.cons_append,List.nil_append,List.append_nil,List.map_cons,List.map_nil,Nat.reduceAdd,Nat.reduceSub,ite_true,ite_false,if_true,if_false,Bool.false_eq_true,reduceIte,decide_true,decide_false,Bool.not_true,Bool.not_false,beq_self_eq_true,List.length_map,ne_eq,not_true_eq_false,not_false_eq_true,h15,hgc]
    refine overNFA_3 T hw BQ r15 hv2 fun h3 hv3 k3 => ?_
    simp only [W_skip,W_ret,W_regionD,WD_nil,WD_none,KPutD_eq,chkOk_nil,true_and,AO.effect,W_exit,W_region,W_seq,W_block,W_cond,PCondW_true,PCondW_false,PCondW_dec,PGuardW_tt,PGuardW_ff,PGuardW_tf,PGuardW_ft,PGuardW_tuple,PGuardW_dec_t,PGuardW_dec_f,pickV_true,pickV_false,pickV_dec,KSeq_eq,KBlock_eq,WL_eq,WO_nil,WO_none,WO_some,KPut_eq,KCall_eq,KRes_eq,KFalse,WS_call,WS_move,WS_pick,WS_alloc,WS_box,WS_build,WS_buildSlice,WS_load,WS_loadAgg,WS_store,WS_nilCheck,WS_bin,WS_eqB,WS_isNil,WS_eqCells,WS_un,WS_convInt,WS_mkFunc,WS_makeMap,WS_makeSlice,WS_slice,WS_fieldAddr,WS_field,WS_fieldN,WS_indexAddr,WS_indexAddrA,WS_index,WS_extract,WS_len,WS_append,WS_max,PPtr_ptr,PInt_int,PBool_bool,PSome_some,PAgg_agg,PTuple_tuple,PSlice_slice,PSlice_nil,PLen_nil,PLen_slice,PCall_func,put,tset,tget,ev,bnd,scrub,padTo,aresAll,ares,packRes,abin_add,abin_sub,abin_mul,abin_eql,abin_neq,abin_lss,abin_leq,abin_gtr,abin_geq,aun_not,maxV_two,List.length_cons,List.length_nil,List.replicate,List.cons_append,List.nil_append,List.append_nil,List.map_cons,List.map_nil,Nat.reduceAdd,Nat.reduceSub,ite_true,ite_false,if_true,if_false,Bool.false_eq_true,reduceIte,decide_true,decide_false,Bool.not_true,Bool.not_false,beq_self_eq_true,List.length_map,ne_eq,not_true_eq_false,not_false_eq_true]
    refine ⟨?_,hv3⟩
    repeat' first | exact RepL.nil _ | refine RepL.cons ?_ ?_
    all_goals first | exact .junk _ | assumption
  · rw [hx]
    refine (?_ : ∀ (m k : Nat) (h' : H),k + m = rs.length → Ov3 w h h' → W (lim tab) (.loop ?sc ?x) [.junk,f 1,.junk,f 3,f 4,f 5,f 6,f 7,f 8,f 9,f 10,.slice fl 1 b off rs.length,.junk,f 13,.junk,f 15,.junk,i64 k,.junk,.junk,.junk,.junk,.junk,.junk,.junk,.junk,.junk,.junk,.junk,.junk,.junk,.junk,.junk,.junk,.junk,.junk,.junk,.junk,.junk,.junk,.junk,.junk,.junk,.junk,.junk,.junk,.junk,.junk,.junk,.junk,.junk,.junk,.junk,.junk,.junk,.junk,.junk,.junk,.junk,.junk,.junk,.junk,.junk,.junk,.junk,.junk,.junk,.junk,.junk,.junk,.junk,.junk,.junk,.junk,.junk,.junk,.junk,.junk,.junk,.junk,.junk,.junk,.junk,.junk,.junk,.junk,.junk,.junk,.junk,.junk,.junk,.junk,.junk,.junk,.junk,.junk,.junk,.junk,.junk,.junk,.junk,.junk,.junk,.junk,.junk,.junk,.junk,.junk,.junk,.junk,.junk,.junk] h' ?q1 ?q2 ?q3) rs.length 0 h (by simp) (.refl s.imm)
    intro m
    induction m with
    | zero =>
      intro k h' hk hv
      rw [W_round]
      have hlt : ¬ (k : Int) < rs.length := by omega
      simp only [W_skip,W_ret,W_regionD,WD_nil,WD_none,KPutD_eq,chkOk_nil,true_and,AO.effect,W_exit,W_region,W_seq,W_block,W_cond,PCondW_true,PCondW_false,PCondW_dec,PGuardW_tt,PGuardW_ff,PGuardW_tf,PGuardW_ft,PGuardW_tuple,PGuardW_dec_t,PGuardW_dec_f,pickV_true,pickV_false,pickV_dec,KSeq_eq,KBlock_eq,WL_eq,WO_nil,WO_none,WO_some,KPut_eq,KCall_eq,KRes_eq,KFalse,WS_call,WS_move,WS_pick,WS_alloc,WS_box,WS_build,WS_buildSlice,WS_load,WS_loadAgg,WS_store,WS_nilCheck,WS_bin,WS_eqB,WS_isNil,WS_eqCells,WS_un,WS_convInt,WS_mkFunc,WS_makeMap,WS_makeSlice,WS_slice,WS_fieldAddr,WS_field,WS_fieldN,WS_indexAddr,WS_indexAddrA,WS_index,WS_extract,WS_len,WS_append,WS_max,PPtr_ptr,PInt_int,PBool_bool,PSome_some,PAgg_agg,PTuple_tuple,PSlice_slice,PSlice_nil,PLen_nil,PLen_slice,PCall_func,put,tset,tget,ev,bnd,scrub,padTo,aresAll,ares,packRes,abin_add,abin_sub,abin_mul,abin_eql,abin_neq,abin_lss,abin_leq,abin_gtr,abin_geq,aun_not,maxV_two,List.length_cons,List.length_nil,List.replicate,List.cons_append,List.nil_append,List.append_nil,List.map_cons,List.map_nil,Nat.reduceAdd,Nat.reduceSub,ite_true,ite_false,if_true,if_false,Bool.false_eq_true,reduceIte,decide_true,decide_false,Bool.not_true,Bool.not_false,beq_self_eq_true,List.length_map,ne_eq,not_true_eq_false,not_false_eq_true,hlt]
      refine overInts_3 T hw r13 hl hv fun h2 hv2 k2 => ?_
      have hgc : getCells h2 bb 0 5 = some bcs15 := by
        unfold getCells
        rw [hv2.keep bb (live.next s) (.inr (s.sep _ bb live).1),g5]
        simp only
        rw [if_pos (by rw [hb5']; decide)]
        simp only [List.drop_zero]
        rw [List.take_of_length_le (by omega)]
      simp only [W_skip,W_ret,W_regionD,WD_nil,WD_none,KPutD_eq,chkOk_nil,true_and,AO.effect,W_exit,W_region,W_seq,W_block,W_cond,PCondW_true,PCondW_false,PCondW_dec,PGuardW_tt,PGuardW_ff,PGuardW_tf,PGuardW_ft,PGuardW_tuple,PGuardW_dec_t,PGuardW_dec_f,pickV_true,pickV_false,pickV_dec,KSeq_eq,KBlock_eq,WL_eq,WO_nil,WO_none,WO_some,KPut_eq,KCall_eq,KRes_eq,KFalse,WS_call,WS_move,WS_pick,WS_alloc,WS_box,WS_build,WS_buildSlice,WS_load,WS_loadAgg,WS_store,WS_nilCheck,WS_bin,WS_eqB,WS_isNil,WS_eqCells,WS_un,WS_convInt,WS_mkFunc,WS_makeMap,WS_makeSlice,WS_slice,WS_fieldAddr,WS_field,WS_fieldN,WS_indexAddr,WS_indexAddrA,WS_index,WS_extract,WS_len,WS_append,WS_max,PPtr_ptr,PInt_int,PBool_bool,PSome_some,PAgg_agg,PTuple_tuple,PSlice_slice,PSlice_nil,PLen_nil,PLen_slice,PCall_func,put,tset,tget,ev,bnd,scrub,padTo,aresAll,ares,packRes,abin_add,abin_sub,abin_mul,abin_eql,abin_neq,abin_lss,abin_leq,abin_gtr,abin_geq,aun_not,maxV_two,List.length_cons,List.length_nil,List.replicate,List.cons_append,List.nil_append,List.append_nil,List.map_cons,List.map_nil,Nat.reduceAdd,Nat.reduceSub,ite_true,ite_false,if_true,if_false,Bool.false_eq_true,reduceIte,decide_true,decide_false,Bool.not_true,Bool.not_false,beq_self_eq_true,List.length_map,ne_eq,not_true_eq_false,not_false_eq_true,h15,hgc]
      refine overNFA_3 T hw BQ r15 hv2 fun h3 hv3 k3 => ?_
      simp only [W_skip,W_ret,W_regionD,WD_nil,WD_none,KPutD_eq,chkOk_nil,true_and,AO.effect,W_exit,W_region,W_seq,W_block,W_cond,PCondW_true,PCondW_false,PCondW_dec,PGuardW_tt,PGuardW_ff,PGuardW_tf,PGuardW_ft,PGuardW_tuple,PGuardW_dec_t,PGuardW_dec_f,pickV_true,pickV_false,pickV_dec,KSeq_eq,KBlock_eq,WL_eq,WO_nil,WO_none,WO_some,KPut_eq,KCall_eq,KRes_eq,KFalse,WS_call,WS_move,WS_pick,WS_alloc,WS_box,WS_build,WS_buildSlice,WS_load,WS_loadAgg,WS_store,WS_nilCheck,WS_bin,WS_eqB,WS_isNil,WS_eqCells,WS_un,WS_convInt,WS_mkFunc,WS_makeMap,WS_makeSlice,WS_slice,WS_fieldAddr,WS_field,WS_fieldN,WS_indexAddr,WS_indexAddrA,WS_index,WS_extract,WS_len,WS_append,WS_max,PPtr_ptr,PInt_int,PBool_bool,PSome_some,PAgg_agg,PTuple_tuple,PSlice_slice,PSlice_nil,PLen_nil,PLen_slice,PCall_func,put,tset,tget,ev,bnd,scrub,padTo,aresAll,ares,packRes,abin_add,abin_sub,abin_mul,abin_eql,abin_neq,abin_lss,abin_leq,abin_gtr,abin_geq,aun_not,maxV_two,List.length_cons,List.length_nil,List.replicate,List.cons_append,List.nil_append,List.append_nil,List.map_cons,List.map_nil,Nat.reduceAdd,Nat.reduceSub,ite_true,ite_false,if_true,if_false,Bool.false_eq_true,reduceIte,decide_true,decide_false,Bool.not_true,Bool.not_false,beq_self_eq_true,List.length_map,ne_eq,not_true_eq_false,not_false_eq_true]
      refine ⟨?_,hv3⟩
      repeat' first | exact RepL.nil _ | refine RepL.cons ?_ ?_
      all_goals first | exact .junk _ | assumption
    | succ m ih =>
      intro k h' hk hv
      rw [W_round]
      have hlt : (k : Int) < rs.length := by omega
      have h0 : (0 : Int) ≤ k := by omega
      have hwr := wrap_succ (k := k) (by omega)
      obtain ⟨y,z,hy,hz,hrz⟩ := e4 k (by simp; omega)
      obtain ⟨row,hrw⟩ := some_of (xs := rs) (k := k) (by omega)
      rw [List.getElem?_map,hrw] at hy
      cases hy
      obtain ⟨v2,b2,o1,o2,o3⟩ := hv.cells b ver' bcs e1' e2'
      obtain ⟨z',g1,g2⟩ := o3 _ _ hz
      have hz' : z' = z := by
        have hs := rep_slq hrz rfl
        rcases g2 with h | ⟨k,n,_,h,_⟩ | ⟨b,b',h,_⟩
        · exact h
        · exact absurd h (hs.1 k n)
        · exact absurd h (hs.2 b)
      subst hz'
      have hgc : getCell h' b (off + k) = some z' := by unfold getCell; rw [o1]; exact g1
      simp only [W_skip,W_ret,W_regionD,WD_nil,WD_none,KPutD_eq,chkOk_nil,true_and,AO.effect,W_exit,W_region,W_seq,W_block,W_cond,PCondW_true,PCondW_false,PCondW_dec,PGuardW_tt,PGuardW_ff,PGuardW_tf,PGuardW_ft,PGuardW_tuple,PGuardW_dec_t,PGuardW_dec_f,pickV_true,pickV_false,pickV_dec,KSeq_eq,KBlock_eq,WL_eq,WO_nil,WO_none,WO_some,KPut_eq,KCall_eq,KRes_eq,KFalse,WS_call,WS_move,WS_pick,WS_alloc,WS_box,WS_build,WS_buildSlice,WS_load,WS_loadAgg,WS_store,WS_nilCheck,WS_bin,WS_eqB,WS_isNil,WS_eqCells,WS_un,WS_convInt,WS_mkFunc,WS_makeMap,WS_makeSlice,WS_slice,WS_fieldAddr,WS_field,WS_fieldN,WS_indexAddr,WS_indexAddrA,WS_index,WS_extract,WS_len,WS_append,WS_max,PPtr_ptr,PInt_int,PBool_bool,PSome_some,PAgg_agg,PTuple_tuple,PSlice_slice,PSlice_nil,PLen_nil,PLen_slice,PCall_func,put,tset,tget,ev,bnd,scrub,padTo,aresAll,ares,packRes,abin_add,abin_sub,abin_mul,abin_eql,abin_neq,abin_lss,abin_leq,abin_gtr,abin_geq,aun_not,maxV_two,List.length_cons,List.length_nil,List.replicate,List.cons_append,List.nil_append,List.append_nil,List.map_cons,List.map_nil,Nat.reduceAdd,Nat.reduceSub,ite_true,ite_false,if_true,if_false,Bool.false_eq_true,reduceIte,decide_true,decide_false,Bool.not_true,Bool.not_false,beq_self_eq_true,List.length_map,ne_eq,not_true_eq_false,not_false_eq_true,pidx_slice,hlt,h0,true_and,and_self,Int.toNat_natCast,Nat.mul_one,hgc]
      refine overBools_3 T hw hrz (hrow row (List.mem_of_getElem? hrw)) hv fun h2 hv2 k2 => ?_
      simp only [W_skip,W_ret,W_regionD,WD_nil,WD_none,KPutD_eq,chkOk_nil,true_and,AO.effect,W_exit,W_region,W_seq,W_block,W_cond,PCondW_true,PCondW_false,PCondW_dec,PGuardW_tt,PGuardW_ff,PGuardW_tf,PGuardW_ft,PGuardW_tuple,PGuardW_dec_t,PGuardW_dec_f,pickV_true,pickV_false,pickV_dec,KSeq_eq,KBlock_eq,WL_eq,WO_nil,WO_none,WO_some,KPut_eq,KCall_eq,KRes_eq,KFalse,WS_call,WS_move,WS_pick,WS_alloc,WS_box,WS_build,WS_buildSlice,WS_load,WS_loadAgg,WS_store,WS_nilCheck,WS_bin,WS_eqB,WS_isNil,WS_eqCells,WS_un,WS_convInt,WS_mkFunc,WS_makeMap,WS_makeSlice,WS_slice,WS_fieldAddr,WS_field,WS_fieldN,WS_indexAddr,WS_indexAddrA,WS_index,WS_extract,WS_len,WS_append,WS_max,PPtr_ptr,PInt_int,PBool_bool,PSome_some,PAgg_agg,PTuple_tuple,PSlice_slice,PSlice_nil,PLen_nil,PLen_slice,PCall_func,put,tset,tget,ev,bnd,scrub,padTo,aresAll,ares,packRes,abin_add,abin_sub,abin_mul,abin_eql,abin_neq,abin_lss,abin_leq,abin_gtr,abin_geq,aun_not,maxV_two,List.length_cons,List.length_nil,List.replicate,List.cons_append,List.nil_append,List.append_nil,List.map_cons,List.map_nil,Nat.reduceAdd,Nat.reduceSub,ite_true,ite_false,if_true,if_false,Bool.false_eq_true,reduceIte,decide_true,decide_false,Bool.not_true,Bool.not_false,beq_self_eq_true,List.length_map,ne_eq,not_true_eq_false,not_false_eq_true,hwr]
      rw [W_scrub]
      simp only [hcs,scrub,tset]
      exact ih (k + 1) h2 (by omega) hv2
end
end Go.Am.Ar

