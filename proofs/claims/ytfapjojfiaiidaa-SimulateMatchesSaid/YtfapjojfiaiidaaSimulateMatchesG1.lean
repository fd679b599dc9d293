/- Contract: which automata are too long for the laws of layer 13, and what goes with it. -/
import Derived.Test.YtfapjojfiaiidaaSimulateMatchesG0
import Derived.Test.YtfapjojfiaiidaaPmC
set_option linter.unusedVariables false
set_option linter.unusedSimpArgs false
set_option maxRecDepth 10000
namespace Go.Am.Ar
open Go.Am.PV renaming junk → Z
open Go.Am renaming pchk → P1,pold → P2,PKNo → P3,ppack → P4,PObj.under → P5,pput → P6,ptset → P7,ptget → P8,pev → P9,ofAV → P10,ofAV1 → P11,ppad → P12,pfill → P13,prepl → P14,AO.effect → P15
open List renaming replicate → L1
open Nat renaming reduceAdd → N1,reduceSub → N2,reduceMul → N3,reduceLT → N4,reduceLeDiff → N5,reduceEqDiff → N6,reduceBEq → N7
open Int renaming reduceToNat → I1,reduceLT → I2,reduceLE → I3,reduceEq → I4,reduceAdd → I5,reduceSub → I6,reduceNeg → I7
abbrev nfF (N : NF) : List PV := nfC false false false false false false N
def nfL (l : List NF) : List PV := l.flatMap nfF
theorem nfL_len (l : List NF) : (nfL l).length = l.length * 5 := by
  unfold nfL
  induction l with
  | nil => rfl
  | cons x l ih => rw [List.flatMap_cons,List.length_append,ih]; simp; omega
theorem nfL_und (m : Nat) (l : List NF) : underL m (nfL l) = true := by
  unfold nfL
  induction l with
  | nil => exact underL_nil _
  | cons x l ih => rw [List.flatMap_cons,underL_append,ih]; simp only [underL_cons,underL_nil,under_int,under_slI,under_slE,Bool.and_self]
theorem psub_nfL {l : List NF} {k : Nat} {x : NF} (h : l[k]? = some x) : psub (nfL l) (k * 5) 5 = nfF x := by
  obtain ⟨hk,e⟩ := List.getElem?_eq_some_iff.1 h
  have h1 : nfL l = nfL (l.take k) ++ (nfF x ++ nfL (l.drop (k + 1))) := by
    conv => lhs; rw [← List.take_append_drop k l,List.drop_eq_getElem_cons hk,e]
    simp [nfL]
  have h2 : (nfL (l.take k)).length = k * 5 := by rw [nfL_len]; simp; omega
  unfold psub
  rw [h1, ← h2,List.drop_left]; rfl
theorem nf_le {l : List NF} {k : Nat} {x : NF} (h : l[k]? = some x) : k * 5 + 5 ≤ (nfL l).length := by
  have := getSome_lt h
  rw [nfL_len]; omega
theorem nfL_at {l : List NF} {k i : Nat} {x : NF} (h : l[k]? = some x) (hi : i < 5) : (nfL l)[k * 5 + i]? = (nfF x)[i]? := by
  have := congrArg (fun (l : List PV) => l[i]?) (psub_nfL h)
  simpa [psub,List.getElem?_take,List.getElem?_drop,hi] using this
section
variable {tab : FuncId → Option AF} (T : HasA tab)
include T
theorem long13_p {M : Mem} {K : PV → Mem → Prop} {l : List NF} (hl : l.length < 10) (A : ∀ N ∈ l,NumN N) (hk : K (.bool (l.any longN)) M) :
    SemC tab 11 [.sl true true 5 l.length (nfL l)] M K := by
  refine SemC_pure T.h11 (by simp only [PP,P1,P2,P3,P4,P5,P6,P7,P8,P9,P10,P11,P12,P13,P14,L1,P15,N1,N2,N3,N4,N5,N6,N7,I1,I2,I3,I4,I5,I6,I7,reduceIte,reduceCtorEq,PV.under,nfL_und]) ?_
  simp only [af11,PP,P1,P2,P3,P4,P5,P6,P7,P8,P9,P10,P11,P12,P13,P14,L1,P15,N1,N2,N3,N4,N5,N6,N7,I1,I2,I3,I4,I5,I6,I7,reduceIte,reduceCtorEq]
  refine loop1 (fun (k : Nat) => k ≤ l.length ∧ (l.take k).any longN = false) (fun k => [.sl true true 5 l.length (nfL l),Z,Z,p64 k,Z,Z,Z,Z,Z,Z,Z,Z,Z,Z,Z,Z,Z,Z,Z,Z,Z,Z,Z,Z,Z,Z,Z,Z,Z,Z,Z,Z,Z,Z,Z,Z,Z,Z,Z,Z,Z]) (fun _ => []) (fun k => l.length - k) 0 ⟨by omega,by simp⟩ (by simp only [PWeak_nil,PWeak_junk,PWeak_same,Int.cast_ofNat_Int,List.length_append,List.length_cons,List.length_nil,Nat.zero_add]) rfl ?_
  intro k ⟨hle,hd⟩ ih
  refine SemW_go (by kernel_rfl) ?_
  simp only [PP,P1,P2,P3,P4,P5,P6,P7,P8,P9,P10,P11,P12,P13,P14,L1,P15,N1,N2,N3,N4,N5,N6,N7,I1,I2,I3,I4,I5,I6,I7,reduceIte,reduceCtorEq]
  refine QIf.intro (fun c => ?_) (fun c => ?_)
  rotate_left
  · have hkl : k = l.length := by omega
    subst hkl
    rw [List.take_of_length_le (Nat.le_refl _)] at hd
    rw [hd] at hk
    simp only [PP,P1,P2,P3,P4,P5,P6,P7,P8,P9,P10,P11,P12,P13,P14,L1,P15,N1,N2,N3,N4,N5,N6,N7,I1,I2,I3,I4,I5,I6,I7,reduceIte,reduceCtorEq,c]
    exact hk
  have hk' : k < l.length := by omega
  obtain ⟨N,gN⟩ := some_of hk'
  have AN := A N (List.mem_of_getElem? gN)
  have h5 := psub_nfL gN
  have hl5 := nf_le gN
  have h1 := nfL_at (i := 1) gN (by decide)
  have h4 := nfL_at (i := 4) gN (by decide)
  simp only [List.getElem?_cons_succ,List.getElem?_cons_zero] at h1 h4
  have k0 : (0 : Int) ≤ k := by omega
  have kl : (k : Int) < l.length := by omega
  have hwk := wrap_succ (k := k) (by show _ < 1000000000000; omega)
  have htk : (l.take (k + 1)).any longN = longN N := by
    rw [List.take_add_one,gN,List.any_append,hd]; simp
  have yes : longN N = true → K (.bool true) M := fun h => by
    have : l.any longN = true := List.any_eq_true.2 ⟨N,List.mem_of_getElem? gN,h⟩
    rw [this] at hk; exact hk
  simp only [PP,P1,P2,P3,P4,P5,P6,P7,P8,P9,P10,P11,P12,P13,P14,L1,P15,N1,N2,N3,N4,N5,N6,N7,I1,I2,I3,I4,I5,I6,I7,reduceIte,reduceCtorEq,c,k0,h5,hl5]
  refine long6_p T ?_
  cases h6 : long6 N with
  | true =>
    simp only [PP,P1,P2,P3,P4,P5,P6,P7,P8,P9,P10,P11,P12,P13,P14,L1,P15,N1,N2,N3,N4,N5,N6,N7,I1,I2,I3,I4,I5,I6,I7,reduceIte,reduceCtorEq]
    exact yes (by simp [longN,h6])
  | false =>
    simp only [PP,P1,P2,P3,P4,P5,P6,P7,P8,P9,P10,P11,P12,P13,P14,L1,P15,N1,N2,N3,N4,N5,N6,N7,I1,I2,I3,I4,I5,I6,I7,reduceIte,reduceCtorEq,k0,kl,h5,hl5]
    refine checkR_p T (long6_bn AN h6) ?_
    simp only [PP,P1,P2,P3,P4,P5,P6,P7,P8,P9,P10,P11,P12,P13,P14,L1,P15,N1,N2,N3,N4,N5,N6,N7,I1,I2,I3,I4,I5,I6,I7,reduceIte,reduceCtorEq]
    refine QIf.intro (fun d => ?_) (fun d => ?_)
    · simp only [PP,P1,P2,P3,P4,P5,P6,P7,P8,P9,P10,P11,P12,P13,P14,L1,P15,N1,N2,N3,N4,N5,N6,N7,I1,I2,I3,I4,I5,I6,I7,reduceIte,reduceCtorEq,d,k0,kl,h1]
      refine QIf.intro (fun d1 => ?_) (fun d1 => ?_)
      · simp only [PP,P1,P2,P3,P4,P5,P6,P7,P8,P9,P10,P11,P12,P13,P14,L1,P15,N1,N2,N3,N4,N5,N6,N7,I1,I2,I3,I4,I5,I6,I7,reduceIte,reduceCtorEq,d1]
        refine yes ?_
        simp only [longN,Bool.or_eq_true,Bool.and_eq_true,decide_eq_true_eq]; exact .inr ⟨d,.inl d1⟩
      · simp only [PP,P1,P2,P3,P4,P5,P6,P7,P8,P9,P10,P11,P12,P13,P14,L1,P15,N1,N2,N3,N4,N5,N6,N7,I1,I2,I3,I4,I5,I6,I7,reduceIte,reduceCtorEq,d1,k0,kl,h4]
        refine QIf.intro (fun d2 => ?_) (fun d2 => ?_)
        · simp only [PP,P1,P2,P3,P4,P5,P6,P7,P8,P9,P10,P11,P12,P13,P14,L1,P15,N1,N2,N3,N4,N5,N6,N7,I1,I2,I3,I4,I5,I6,I7,reduceIte,reduceCtorEq,d2]
          refine yes ?_
          simp only [longN,Bool.or_eq_true,Bool.and_eq_true,decide_eq_true_eq]; exact .inr ⟨d,.inr (by omega)⟩
        · simp only [PP,P1,P2,P3,P4,P5,P6,P7,P8,P9,P10,P11,P12,P13,P14,L1,P15,N1,N2,N3,N4,N5,N6,N7,I1,I2,I3,I4,I5,I6,I7,reduceIte,reduceCtorEq,d2,hwk]
          refine SemW_weak (ih (k + 1) ⟨by omega, ?_⟩ (by omega)) (by simp only [PWeak_nil,PWeak_junk,PWeak_same,Int.cast_ofNat_Int,List.length_append,List.length_cons,List.length_nil,Nat.zero_add])
          rw [htk]
          simp only [longN,Bool.or_eq_false_iff,Bool.and_eq_false_iff,decide_eq_false_iff_not]
          exact ⟨h6,.inr ⟨d1,by omega⟩⟩
    · simp only [PP,P1,P2,P3,P4,P5,P6,P7,P8,P9,P10,P11,P12,P13,P14,L1,P15,N1,N2,N3,N4,N5,N6,N7,I1,I2,I3,I4,I5,I6,I7,reduceIte,reduceCtorEq,d,hwk]
      refine SemW_weak (ih (k + 1) ⟨by omega, ?_⟩ (by omega)) (by simp only [PWeak_nil,PWeak_junk,PWeak_same,Int.cast_ofNat_Int,List.length_append,List.length_cons,List.length_nil,Nat.zero_add])
      rw [htk]
      simp only [longN,Bool.or_eq_false_iff,Bool.and_eq_false_iff,decide_eq_false_iff_not]
      exact ⟨h6,.inl d⟩
theorem longOne_p {M : Mem} {K : PV → Mem → Prop} {N : NF} (A : NumN N) (hk : K (.bool (longN N)) M) :
    SemC tab 11 [.sl true true 5 1 (nfF N)] M K :=
  long13_p T (l := [N]) (by simp) (fun x hx => by rw [List.mem_singleton] at hx; subst hx; exact A) (by simpa using hk)
end
end Go.Am.Ar
set_option linter.unusedVariables false
set_option linter.unusedSimpArgs false
set_option maxRecDepth 10000
namespace Go.Am.Ar
open Go.Am.PV renaming junk → Z
open Go.Am renaming pchk → P1,pold → P2,PKNo → P3,ppack → P4,PObj.under → P5,pput → P6,ptset → P7,ptget → P8,pev → P9,ofAV → P10,ofAV1 → P11,ppad → P12,pfill → P13,prepl → P14,AO.effect → P15
open List renaming replicate → L1
open Nat renaming reduceAdd → N1,reduceSub → N2,reduceMul → N3,reduceLT → N4,reduceLeDiff → N5,reduceEqDiff → N6,reduceBEq → N7
open Int renaming reduceToNat → I1,reduceLT → I2,reduceLE → I3,reduceEq → I4,reduceAdd → I5,reduceSub → I6,reduceNeg → I7
def hasB (ps ng : Int) (x : Nat) : Bool := decide (bAnd x ps = ps) && decide (bAnd x ng = 0)
def lettersM (v ps ng : Int) : List Nat := (List.range (2 ^ v.toNat)).filter (hasB ps ng)
def mvE (v p : Int) (e : Eg) : List (Nat × Int) := if e.fr = p then (lettersM v e.ps e.ng).map fun x => (x,e.to) else []
def mvL (v p : Int) (es : List Eg) : List (Nat × Int) := es.flatMap (mvE v p)
structure NOk (N : NF) : Prop where
  v0 : 0 ≤ N.vs
  v6 : N.vs ≤ 6
  n0 : 0 ≤ N.n
  n64 : N.n ≤ 64
  e512 : N.es.length ≤ 512
  st : posM N.n (-1) N.st = true
  fi : posM N.n (-1) N.fi = true
  ed : ∀ e ∈ N.es,0 ≤ e.fr ∧ e.fr < N.n ∧ 0 ≤ e.to ∧ e.to < N.n ∧ cubeM N.vs e.ps e.ng = 0
theorem edgesM_zero {v n : Int} : ∀ {l : List Eg},edgesM v n l = 0 → ∀ e ∈ l,0 ≤ e.fr ∧ e.fr < n ∧ 0 ≤ e.to ∧ e.to < n ∧ cubeM v e.ps e.ng = 0
  | [],_,e,h => by cases h
  | x :: l,h,e,he => by
    by_cases c : x.fr < 0 ∨ n ≤ x.fr ∨ x.to < 0 ∨ n ≤ x.to
    · rw [edgesM_bad c] at h; cases h
    · rw [edgesM_go c] at h
      by_cases d : cubeM v x.ps x.ng = 0
      · rw [if_pos d] at h
        rcases List.mem_cons.1 he with rfl | he
        · exact ⟨by omega,by omega,by omega,by omega,d⟩
        · exact edgesM_zero h e he
      · rw [if_neg d] at h; exact absurd h d
theorem nok_of {N : NF} (h : checkN N = 0) : NOk N := by
  unfold checkN at h
  split at h
  · cases h
  · split at h
    · cases h
    · split at h
      · cases h
      · split at h
        · rename_i q1 q2 q3 q4
          exact ⟨by omega,by omega,by omega,by omega,by omega,q4.1,q4.2,edgesM_zero h⟩
        · cases h
theorem pow_le64 {v : Int} (h6 : v ≤ 6) : 2 ^ v.toNat ≤ 64 := by
  have : v.toNat = 0 ∨ v.toNat = 1 ∨ v.toNat = 2 ∨ v.toNat = 3 ∨ v.toNat = 4 ∨ v.toNat = 5 ∨ v.toNat = 6 := by omega
  rcases this with h | h | h | h | h | h | h <;> rw [h] <;> decide
theorem lettersM_len (v ps ng : Int) (h6 : v ≤ 6) : (lettersM v ps ng).length ≤ 64 := by
  refine Nat.le_trans (List.length_filter_le _ _) ?_
  rw [List.length_range]; exact pow_le64 h6
theorem lettersM_lt {v ps ng : Int} (h6 : v ≤ 6) {x : Nat} (h : x ∈ lettersM v ps ng) : x < 64 := by
  have := List.mem_range.1 (List.mem_filter.1 h).1
  have := pow_le64 h6
  omega
theorem QCall_yl {tab : FuncId → Option AF} (id : Nat) (first args : List PV) (M : Mem) (K : PV → Mem → Prop) : QCall tab (.yld id first) args M K = ((∃ ver r,M[id]? = some (.loop ver r)) ∧ SemY tab id (first ++ args) M K) := rfl
section
variable {tab : FuncId → Option AF} (T : HasA tab)
include T
theorem has_p {M : Mem} {K : PV → Mem → Prop} {ps ng : Int} {x : Nat} (hp : 0 ≤ ps ∧ ps ≤ 255) (hn : 0 ≤ ng ∧ ng ≤ 255) (hx : x < 256) (hk : K (.bool (hasB ps ng x)) M) :
    SemC tab 118 [.agg [p8 ps,p8 ng],p8 x] M K := by
  refine SemC_pure T.h118 (by simp only [PP,P1,P2,P3,P4,P5,P6,P7,P8,P9,P10,P11,P12,P13,P14,L1,P15,N1,N2,N3,N4,N5,N6,N7,I1,I2,I3,I4,I5,I6,I7,reduceIte,reduceCtorEq]) ?_
  have h1 := pbin_and8 (x := x) (y := ps) (by omega) hp
  have h2 := pbin_and8 (x := x) (y := ng) (by omega) hn
  simp only [af118,PP,P1,P2,P3,P4,P5,P6,P7,P8,P9,P10,P11,P12,P13,P14,L1,P15,N1,N2,N3,N4,N5,N6,N7,I1,I2,I3,I4,I5,I6,I7,reduceIte,reduceCtorEq,h1,h2]
  refine QIf.intro (fun c1 => ?_) (fun c1 => ?_)
  · simp only [PP,P1,P2,P3,P4,P5,P6,P7,P8,P9,P10,P11,P12,P13,P14,L1,P15,N1,N2,N3,N4,N5,N6,N7,I1,I2,I3,I4,I5,I6,I7,reduceIte,reduceCtorEq,c1,h2,hasB] at hk ⊢
    exact hk
  · simp only [PP,P1,P2,P3,P4,P5,P6,P7,P8,P9,P10,P11,P12,P13,P14,L1,P15,N1,N2,N3,N4,N5,N6,N7,I1,I2,I3,I4,I5,I6,I7,reduceIte,reduceCtorEq,c1,hasB] at hk ⊢
    exact hk
theorem cubeLetters_p {M : Mem} {K : PV → Mem → Prop} {v ps ng : Int} (hp : 0 ≤ ps ∧ ps ≤ 255) (hn : 0 ≤ ng ∧ ng ≤ 255) (h0 : 0 ≤ v) (h6 : v ≤ 6) (hc : cubeM v ps ng = 0)
    (hk : K (.tuple [slI false true .u8 ((lettersM v ps ng).map fun (x : Nat) => (x : Int)),p64 0]) M) :
    SemC tab 103 [.agg [p8 ps,p8 ng],p64 v] M K := by
  refine SemC_pure T.h103 (by simp only [PP,P1,P2,P3,P4,P5,P6,P7,P8,P9,P10,P11,P12,P13,P14,L1,P15,N1,N2,N3,N4,N5,N6,N7,I1,I2,I3,I4,I5,I6,I7,reduceIte,reduceCtorEq]) ?_
  have hsh := pshl (v := v) (by omega) (by omega)
  have hp64 := pow_le64 h6
  obtain ⟨B,hB⟩ : ∃ B : Nat,2 ^ v.toNat = B := ⟨_,rfl⟩
  have hBi : (2 : Int) ^ v.toNat = (B : Int) := by rw [← hB]; simp
  rw [hBi] at hsh
  simp only [af103,PP,P1,P2,P3,P4,P5,P6,P7,P8,P9,P10,P11,P12,P13,P14,L1,P15,N1,N2,N3,N4,N5,N6,N7,I1,I2,I3,I4,I5,I6,I7,reduceIte,reduceCtorEq]
  refine cube_p T hp hn ?_
  simp only [PP,P1,P2,P3,P4,P5,P6,P7,P8,P9,P10,P11,P12,P13,P14,L1,P15,N1,N2,N3,N4,N5,N6,N7,I1,I2,I3,I4,I5,I6,I7,reduceIte,reduceCtorEq,hc,hsh]
  refine SemW_re (GStep.nil 4 1 rfl rfl rfl) ?_
  simp only [ptset,List.cons_append,List.nil_append,List.length_cons,List.length_nil,Nat.reduceAdd]
  refine loop4 (fun (k g vv : Nat) (acc : List Nat) => k ≤ B ∧ acc = (List.range k).filter (hasB ps ng)) (fun k g vv acc => [Z,Z,.ptr 0 0 0,Z,.ref 1 g 1 0 acc.length,Z,Z,Z,Z,Z,Z,Z,Z,Z,Z,p64 B,p64 k,Z,Z,Z,Z,Z,Z,Z,Z,Z,Z,Z,Z,Z]) (fun k g vv acc => [.cells 0 0 [p8 ps,p8 ng],.cells g vv (acc.map fun (x : Nat) => p8 x)]) (fun k _ _ _ => B - k) 0 0 0 [] ⟨by omega,rfl⟩ (by simp only [PWeak_nil,PWeak_junk,PWeak_same,Int.cast_ofNat_Int,List.length_append,List.length_cons,List.length_nil,Nat.zero_add]) rfl ?_
  intro k g vv acc ⟨hle,hacc⟩ ih
  refine SemW_go (by kernel_rfl) ?_
  simp only [PP,P1,P2,P3,P4,P5,P6,P7,P8,P9,P10,P11,P12,P13,P14,L1,P15,N1,N2,N3,N4,N5,N6,N7,I1,I2,I3,I4,I5,I6,I7,reduceIte,reduceCtorEq]
  refine QIf.intro (fun c => ?_) (fun c => ?_)
  · have hkB : k < B := by omega
    have hw := wrap_succ (k := k) (by show _ < 1000000000000; omega)
    have w8 : IntKind.u8.wrap (k : Int) = k := wrap8 (by omega)
    simp only [PP,P1,P2,P3,P4,P5,P6,P7,P8,P9,P10,P11,P12,P13,P14,L1,P15,N1,N2,N3,N4,N5,N6,N7,I1,I2,I3,I4,I5,I6,I7,reduceIte,reduceCtorEq,c,w8]
    refine has_p T hp hn (by omega) ?_
    have hr : (List.range (k + 1)).filter (hasB ps ng) = acc ++ if hasB ps ng k = true then [k] else [] := by
      rw [List.range_succ,List.filter_append, ← hacc]
      congr 1
      by_cases q : hasB ps ng k = true <;> simp [q]
    have hal : acc.length ≤ k := by
      rw [hacc]
      exact Nat.le_trans (List.length_filter_le _ _) (by simp)
    cases q : hasB ps ng k with
    | true =>
      rw [q] at hr
      have b8 : acc.length + 1 ≤ 140737488355328 := by omega
      have b1 : acc.length + 1 ≤ 9223372036854775807 := by omega
      have hps : psub (acc.map fun (x : Nat) => p8 x) 0 acc.length = acc.map fun (x : Nat) => p8 x := psub_all _ _ (by simp)
      simp only [PP,P1,P2,P3,P4,P5,P6,P7,P8,P9,P10,P11,P12,P13,P14,L1,P15,N1,N2,N3,N4,N5,N6,N7,I1,I2,I3,I4,I5,I6,I7,reduceIte,reduceCtorEq,w8,b8,b1,hps,hw]
      refine SemW_to (ih (k + 1) (g + 1) 0 (acc ++ [k]) ⟨by omega,by rw [hr]; rfl⟩ (by omega)) (by simp only [PWeak_nil,PWeak_junk,PWeak_same,Int.cast_ofNat_Int,List.length_append,List.length_cons,List.length_nil,Nat.zero_add]) (by simp)
    | false =>
      rw [q] at hr
      simp only [PP,P1,P2,P3,P4,P5,P6,P7,P8,P9,P10,P11,P12,P13,P14,L1,P15,N1,N2,N3,N4,N5,N6,N7,I1,I2,I3,I4,I5,I6,I7,reduceIte,reduceCtorEq,hw]
      refine SemW_to (ih (k + 1) g vv acc ⟨by omega,by rw [hr]; simp⟩ (by omega)) (by simp only [PWeak_nil,PWeak_junk,PWeak_same,Int.cast_ofNat_Int,List.length_append,List.length_cons,List.length_nil,Nat.zero_add]) rfl
  · have hkB : k = B := by omega
    subst hkB
    have hfr : frzO (some (.cells g vv (acc.map fun (x : Nat) => p8 x))) g 1 0 acc.length = some (slI false true .u8 (acc.map fun (x : Nat) => (x : Int))) := by
      rw [frzO_cells (by simp) (underL_map _ (fun (x : Nat) => p8 x) (fun x => by simp [PV.under]) _),Nat.mul_one,psub_all _ _ (by simp)]
      simp [slI]
    have e : lettersM v ps ng = acc := by unfold lettersM; rw [hB,hacc]
    rw [e] at hk
    simp only [PP,P1,P2,P3,P4,P5,P6,P7,P8,P9,P10,P11,P12,P13,P14,L1,P15,N1,N2,N3,N4,N5,N6,N7,I1,I2,I3,I4,I5,I6,I7,reduceIte,reduceCtorEq,c,hfr]
    exact hk
theorem moves_p {M : Mem} {K : PV → Mem → Prop} {f1 o1 f2 o2 f3 o3 : Bool} {N : NF} {p : Int} (hk : K (.func (.func 102) [] [.cp (nfC f1 o1 f2 o2 f3 o3 N) 0,.cp [p64 p] 0]) M) :
    SemC tab 82 [.agg (nfC f1 o1 f2 o2 f3 o3 N),p64 p] M K := by
  refine SemC_pureS T.h82 (by simp only [PP,P1,P2,P3,P4,P5,P6,P7,P8,P9,P10,P11,P12,P13,P14,L1,P15,N1,N2,N3,N4,N5,N6,N7,I1,I2,I3,I4,I5,I6,I7,reduceIte,reduceCtorEq,under_slE]) ?_
  simp only [af82]
  refine SemW_seq (SemW_of ?_)
  simp only [PP,P1,P2,P3,P4,P5,P6,P7,P8,P9,P10,P11,P12,P13,P14,L1,P15,N1,N2,N3,N4,N5,N6,N7,I1,I2,I3,I4,I5,I6,I7,reduceIte,reduceCtorEq]
  refine SemW_re (GStep.freezeP (b := [Z,Z,.cp (nfC f1 o1 f2 o2 f3 o3 N) 0,.ptr 1 0 0,Z,Z]) 0 (Nat.zero_le _) rfl (by simp only [PFrzP_nil,PFrzP_junk,PFrzP_same,PFrzP_ptr]) rfl) ?_
  refine SemW_re (GStep.freezeP (b := [Z,Z,.cp (nfC f1 o1 f2 o2 f3 o3 N) 0,.cp [p64 p] 0,Z,Z]) 1 (Nat.zero_le _) rfl (by simp only [PFrzP_nil,PFrzP_junk,PFrzP_same,PFrzP_ptr]) rfl) ?_
  refine SemW_of ?_
  have e : ∀ N' : Mem,pfrz 0 N' (.func (.func 102) [] [.cp (nfC f1 o1 f2 o2 f3 o3 N) 0,.cp [p64 p] 0]) = some (.func (.func 102) [] [.cp (nfC f1 o1 f2 o2 f3 o3 N) 0,.cp [p64 p] 0]) := fun N' => pfrz1_func' (M := N') (by simp only [PP,P1,P2,P3,P4,P5,P6,P7,P8,P9,P10,P11,P12,P13,P14,L1,P15,N1,N2,N3,N4,N5,N6,N7,I1,I2,I3,I4,I5,I6,I7,reduceIte,reduceCtorEq,PV.under,egL_und])
  simp only [PP,P1,P2,P3,P4,P5,P6,P7,P8,P9,P10,P11,P12,P13,P14,L1,P15,N1,N2,N3,N4,N5,N6,N7,I1,I2,I3,I4,I5,I6,I7,reduceIte,reduceCtorEq,e]
  exact hk
set_option maxHeartbeats 1000000 in
theorem movesY_p {M : Mem} {K : PV → Mem → Prop} {L base : Nat} {f1 o1 f2 o2 f3 o3 : Bool} {N : NF} {p : Int} (C : NOk N) (B : BnN N) (J : Nat → Mem → Prop) (E : Mem → Prop) (h0 : J 0 M) (hg : ∀ k G o,J k G → J k (G ++ [o])) (hb : ∀ k G,J k G → base ≤ G.length)
    (hl : ∀ k G,J k G → ∃ ver r,G[L]? = some (.loop ver r))
    (hy : ∀ k G x u,J k G → (mvL N.vs p N.es)[k]? = some (x,u) → ∀ K' : PV → Mem → Prop,(∀ G',J (k + 1) G' → (∀ i o,base ≤ i → G[i]? = some o → G'[i]? = some o) → K' (.bool true) G') → (∀ G',E G' → K' (.bool false) G') → SemY tab L [p8 x,p64 u] G K')
    (hk : ∀ G,J (mvL N.vs p N.es).length G → K (.tuple []) G) (he : ∀ G,E G → K (.tuple []) G) :
    SemC tab 102 [.yld L [],.cp (nfC f1 o1 f2 o2 f3 o3 N) 0,.cp [p64 p] 0] M K := by
  have v0 := C.v0
  have v6 := C.v6
  have e512 := C.e512
  refine SemC_fn T.h102 ?_
  simp only [af102,PP,P1,P2,P3,P4,P5,P6,P7,P8,P9,P10,P11,P12,P13,P14,L1,P15,N1,N2,N3,N4,N5,N6,N7,I1,I2,I3,I4,I5,I6,I7,reduceIte,reduceCtorEq]
  refine loop2 (fun (i : Nat) (G : Mem) => i ≤ N.es.length ∧ J (mvL N.vs p (N.es.take i)).length G) (fun i G => [.yld L [],.cp (nfC f1 o1 f2 o2 f3 o3 N) 0,.cp [p64 p] 0,Z,Z,Z,Z,Z,Z,Z,Z,slE f3 o3 N.es,p64 N.es.length,p64 i,Z,Z,Z,Z,Z,Z,Z,Z,Z,Z,Z,Z,Z,Z,Z,Z,Z,Z,Z,Z,Z,Z,Z,Z,Z,Z,Z,Z,Z,Z,Z,Z]) (fun _ G => G) (fun i _ => N.es.length - i) 0 M ⟨by omega,h0⟩ (by simp only [PWeak_nil,PWeak_junk,PWeak_same,Int.cast_ofNat_Int,List.length_append,List.length_cons,List.length_nil,Nat.zero_add]) rfl ?_
  intro i G ⟨hle,hJ⟩ ih
  refine SemW_go (by kernel_rfl) ?_
  simp only [PP,P1,P2,P3,P4,P5,P6,P7,P8,P9,P10,P11,P12,P13,P14,L1,P15,N1,N2,N3,N4,N5,N6,N7,I1,I2,I3,I4,I5,I6,I7,reduceIte,reduceCtorEq]
  refine QIf.intro (fun c => ?_) (fun c => ?_)
  rotate_left
  · have hi : i = N.es.length := by omega
    subst hi
    rw [List.take_of_length_le (Nat.le_refl _)] at hJ
    simp only [PP,P1,P2,P3,P4,P5,P6,P7,P8,P9,P10,P11,P12,P13,P14,L1,P15,N1,N2,N3,N4,N5,N6,N7,I1,I2,I3,I4,I5,I6,I7,reduceIte,reduceCtorEq,c]
    exact hk G hJ
  have hi' : i < N.es.length := by omega
  obtain ⟨e,ge⟩ := some_of hi'
  have hw := wrap_succ (k := i) (by show _ < 1000000000000; omega)
  have i0 : (0 : Int) ≤ i := by omega
  have h4 := psub_egL ge
  have hl4 : i * 4 + 4 ≤ (egL N.es).length := by rw [egL_len]; exact eg_le ge
  obtain ⟨b1,b2⟩ := B.b e (List.mem_of_getElem? ge)
  obtain ⟨_,_,_,_,hcm⟩ := C.ed e (List.mem_of_getElem? ge)
  have htk : mvL N.vs p (N.es.take (i + 1)) = mvL N.vs p (N.es.take i) ++ mvE N.vs p e := by
    unfold mvL; rw [List.take_add_one,ge,List.flatMap_append]; simp
  simp only [PP,P1,P2,P3,P4,P5,P6,P7,P8,P9,P10,P11,P12,P13,P14,L1,P15,N1,N2,N3,N4,N5,N6,N7,I1,I2,I3,I4,I5,I6,I7,reduceIte,reduceCtorEq,c,i0,h4,hl4,List.append_assoc,gk,gk0,sk,sk0]
  refine QIf.intro (fun d => ?_) (fun d => ?_)
  rotate_left
  · have hm : mvE N.vs p e = [] := by unfold mvE; rw [if_neg d]
    simp only [PP,P1,P2,P3,P4,P5,P6,P7,P8,P9,P10,P11,P12,P13,P14,L1,P15,N1,N2,N3,N4,N5,N6,N7,I1,I2,I3,I4,I5,I6,I7,reduceIte,reduceCtorEq,d,hw]
    refine SemW_to (ih (i + 1) (G ++ [.cells 0 1 (egC e)]) ⟨by omega, ?_⟩ (by omega)) (by simp only [PWeak_nil,PWeak_junk,PWeak_same,Int.cast_ofNat_Int,List.length_append,List.length_cons,List.length_nil,Nat.zero_add]) rfl
    rw [htk,hm,List.append_nil]; exact hg _ _ _ hJ
  have hm : mvE N.vs p e = (lettersM N.vs e.ps e.ng).map fun x => (x,e.to) := by unfold mvE; rw [if_pos d]
  simp only [PP,P1,P2,P3,P4,P5,P6,P7,P8,P9,P10,P11,P12,P13,P14,L1,P15,N1,N2,N3,N4,N5,N6,N7,I1,I2,I3,I4,I5,I6,I7,reduceIte,reduceCtorEq,d,List.append_assoc,gk,gk0,sk,sk0]
  refine cubeLetters_p T b1 b2 v0 v6 hcm ?_
  obtain ⟨ls,hls⟩ : ∃ ls,lettersM N.vs e.ps e.ng = ls := ⟨_,rfl⟩
  have hll := lettersM_len N.vs e.ps e.ng v6
  rw [hls] at hll hm ⊢
  simp only [PP,P1,P2,P3,P4,P5,P6,P7,P8,P9,P10,P11,P12,P13,P14,L1,P15,N1,N2,N3,N4,N5,N6,N7,I1,I2,I3,I4,I5,I6,I7,reduceIte,reduceCtorEq]
  refine loop2 (fun (j : Nat) (G' : Mem) => j ≤ ls.length ∧ J ((mvL N.vs p (N.es.take i)).length + j) G' ∧ G'[G.length]? = some (.cells 0 1 (egC e))) (fun j G' => [.yld L [],.cp (nfC f1 o1 f2 o2 f3 o3 N) 0,.cp [p64 p] 0,Z,Z,.ptr G.length 0 0,Z,Z,Z,Z,Z,slE f3 o3 N.es,p64 N.es.length,p64 i,Z,Z,Z,Z,Z,Z,Z,Z,Z,Z,Z,Z,Z,Z,Z,Z,Z,Z,slI false true .u8 (ls.map fun (x : Nat) => (x : Int)),p64 ls.length,p64 j,Z,Z,Z,Z,Z,Z,Z,Z,Z,Z,Z]) (fun _ G' => G') (fun j _ => ls.length - j) 0 (G ++ [.cells 0 1 (egC e)]) ⟨by omega,hg _ _ _ hJ,by rw [gk0]; rfl⟩ (by simp only [PWeak_nil,PWeak_junk,PWeak_same,Int.cast_ofNat_Int,List.length_append,List.length_cons,List.length_nil,Nat.zero_add]) (by simp only [egC,d]) ?_
  intro j G' ⟨hj,hJ',hG'⟩ ih2
  refine SemW_go (by kernel_rfl) ?_
  simp only [PP,P1,P2,P3,P4,P5,P6,P7,P8,P9,P10,P11,P12,P13,P14,L1,P15,N1,N2,N3,N4,N5,N6,N7,I1,I2,I3,I4,I5,I6,I7,reduceIte,reduceCtorEq]
  refine QIf.intro (fun c2 => ?_) (fun c2 => ?_)
  · have hj' : j < ls.length := by omega
    obtain ⟨x,gx⟩ := some_of hj'
    have gx2 : (ls.map fun (x : Nat) => (x : Int))[j]? = some (x : Int) := by rw [List.getElem?_map,gx]; rfl
    have hwj := wrap_succ (k := j) (by show _ < 1000000000000; omega)
    have j0 : (0 : Int) ≤ j := by omega
    simp only [PP,P1,P2,P3,P4,P5,P6,P7,P8,P9,P10,P11,P12,P13,P14,L1,P15,N1,N2,N3,N4,N5,N6,N7,I1,I2,I3,I4,I5,I6,I7,reduceIte,reduceCtorEq,c2,gx2,j0,hG',QCall_yl]
    refine ⟨hl _ _ hJ', ?_⟩
    have hat : (mvL N.vs p N.es)[(mvL N.vs p (N.es.take i)).length + j]? = some (x,e.to) := by
      have : mvL N.vs p N.es = mvL N.vs p (N.es.take (i + 1)) ++ mvL N.vs p (N.es.drop (i + 1)) := by
        unfold mvL; rw [← List.flatMap_append,List.take_append_drop]
      rw [this,htk,hm,List.append_assoc,List.getElem?_append_right (by omega),Nat.add_sub_cancel_left,List.getElem?_append_left (by simp; omega),List.getElem?_map,gx]; rfl
    refine hy _ _ x e.to hJ' hat _ (fun G2 hJ2 hkeep => ?_) (fun G2 hE => ?_)
    · simp only [PP,P1,P2,P3,P4,P5,P6,P7,P8,P9,P10,P11,P12,P13,P14,L1,P15,N1,N2,N3,N4,N5,N6,N7,I1,I2,I3,I4,I5,I6,I7,reduceIte,reduceCtorEq,hwj]
      exact SemW_weak (ih2 (j + 1) G2 ⟨by omega,hJ2,hkeep _ _ (hb _ _ hJ) hG'⟩ (by omega)) (by simp only [PWeak_nil,PWeak_junk,PWeak_same,Int.cast_ofNat_Int,List.length_append,List.length_cons,List.length_nil,Nat.zero_add])
    · simp only [PP,P1,P2,P3,P4,P5,P6,P7,P8,P9,P10,P11,P12,P13,P14,L1,P15,N1,N2,N3,N4,N5,N6,N7,I1,I2,I3,I4,I5,I6,I7,reduceIte,reduceCtorEq]
      exact he G2 hE
  · have hjl : j = ls.length := by omega
    subst hjl
    simp only [PP,P1,P2,P3,P4,P5,P6,P7,P8,P9,P10,P11,P12,P13,P14,L1,P15,N1,N2,N3,N4,N5,N6,N7,I1,I2,I3,I4,I5,I6,I7,reduceIte,reduceCtorEq,c2,hw]
    refine SemW_to (ih (i + 1) G' ⟨by omega, ?_⟩ (by omega)) (by simp only [PWeak_nil,PWeak_junk,PWeak_same,Int.cast_ofNat_Int,List.length_append,List.length_cons,List.length_nil,Nat.zero_add]) rfl
    rw [htk,hm,List.length_append,List.length_map]; exact hJ'
end
end Go.Am.Ar
set_option linter.unusedVariables false
set_option linter.unusedSimpArgs false
set_option maxRecDepth 10000
namespace Go.Am.Ar
open Go.Am.PV renaming junk → Z
open Go.Am renaming pchk → P1,pold → P2,PKNo → P3,ppack → P4,PObj.under → P5,pput → P6,ptset → P7,ptget → P8,pev → P9,ofAV → P10,ofAV1 → P11,ppad → P12,pfill → P13,prepl → P14,AO.effect → P15
open List renaming replicate → L1
open Nat renaming reduceAdd → N1,reduceSub → N2,reduceMul → N3,reduceLT → N4,reduceLeDiff → N5,reduceEqDiff → N6,reduceBEq → N7
open Int renaming reduceToNat → I1,reduceLT → I2,reduceLE → I3,reduceEq → I4,reduceAdd → I5,reduceSub → I6,reduceNeg → I7
abbrev p64u (b : BitVec 64) : PV := .int .u64 ((b.toNat : Nat) : Int)
abbrev slW (f o : Bool) (a : Wd) : PV := .sl f o 1 a.length ((wI a).map (PV.int .u64))
theorem wI_get {a : Wd} {i : Nat} (h : i < a.length) : (wI a)[i]? = some (((wAt a i).toNat : Nat) : Int) := by
  rw [List.getElem?_map,List.getElem?_eq_getElem h,wAt_some (List.getElem?_eq_getElem h)]; rfl
theorem pquo64 {x y : Int} (h : y ≠ 0) : pbin .quo (.int .i64 x) (.int .i64 y) = some (.int .i64 (IntKind.i64.wrap (x.tdiv y))) := by
  simp [pbin,toAV0,abin,ofAV1,h,isShift,binInt]
theorem pmin2 {k : IntKind} {x y : Int} : pminV (.int k x) [.int k y] = some (.int k (min x y)) := by
  simp [pminV,toAV0,toAVs,foldO,amin2,ofAV1]
  split <;> omega
theorem wrap_pred {j : Nat} (h : j < 4000000000000) : IntKind.i64.wrap (((j + 1 : Nat) : Int) - 1) = (j : Int) := by
  rw [wrap64 (by omega) (by omega)]; omega
theorem frzW {g ver m : Nat} {W : Wd} (h : m ≤ W.length) : frzO (some (.cells g ver ((wI W).map (PV.int .u64)))) g 1 0 m = some (slW false true (W.take m)) := by
  rw [frzO_cells (by simp; omega) (underL_ints _ _ _)]
  have h1 : psub ((wI W).map (PV.int .u64)) 0 (m * 1) = (wI (W.take m)).map (PV.int .u64) := by simp [psub,List.map_take]
  have h2 : (W.take m).length = m := by rw [List.length_take]; omega
  rw [h1]
  unfold slW
  rw [h2]
theorem rep_set {α : Type} (z x : α) : ∀ n : Nat,(z :: List.replicate n z).set n x = List.replicate n z ++ [x]
  | 0 => rfl
  | n + 1 => by
    rw [List.set_cons_succ,List.replicate_succ,rep_set z x n]; rfl
section
variable {tab : FuncId → Option AF} (T : HasA tab)
include T
theorem bsAt_p {M : Mem} {K : PV → Mem → Prop} {f o : Bool} {a : Wd} {i : Nat} (hk : K (p64u (wAt a i)) M) :
    SemC tab 121 [slW f o a,p64 i] M K := by
  refine SemC_pure T.h121 (by simp only [PP,P1,P2,P3,P4,P5,P6,P7,P8,P9,P10,P11,P12,P13,P14,L1,P15,N1,N2,N3,N4,N5,N6,N7,I1,I2,I3,I4,I5,I6,I7,reduceIte,reduceCtorEq]) ?_
  simp only [af121,PP,P1,P2,P3,P4,P5,P6,P7,P8,P9,P10,P11,P12,P13,P14,L1,P15,N1,N2,N3,N4,N5,N6,N7,I1,I2,I3,I4,I5,I6,I7,reduceIte,reduceCtorEq]
  refine QIf.intro (fun c => ?_) (fun c => ?_)
  · have hi : i < a.length := by omega
    have i0 : (0 : Int) ≤ i := by omega
    have g := wI_get hi
    rw [List.getElem?_map] at g
    simp only [PP,P1,P2,P3,P4,P5,P6,P7,P8,P9,P10,P11,P12,P13,P14,L1,P15,N1,N2,N3,N4,N5,N6,N7,I1,I2,I3,I4,I5,I6,I7,reduceIte,reduceCtorEq,c,g,i0]
    exact hk
  · rw [wAt_ge (by omega)] at hk
    simp only [PP,P1,P2,P3,P4,P5,P6,P7,P8,P9,P10,P11,P12,P13,P14,L1,P15,N1,N2,N3,N4,N5,N6,N7,I1,I2,I3,I4,I5,I6,I7,reduceIte,reduceCtorEq,c]
    exact hk
theorem clipW_p {M : Mem} {K : PV → Mem → Prop} {id g off n ver : Nat} {cs : List PV} (hM : M[id]? = some (.cells g ver cs)) (hk : K (.ref id g 1 off n) M) :
    SemC tab 122 [.ref id g 1 off n] M K := by
  refine SemC_fn T.h122 ?_
  have e : ((n : Int) - 0).toNat = n := by omega
  have n0 : (0 : Int) ≤ n := by omega
  simp only [af122,PP,P1,P2,P3,P4,P5,P6,P7,P8,P9,P10,P11,P12,P13,P14,L1,P15,N1,N2,N3,N4,N5,N6,N7,I1,I2,I3,I4,I5,I6,I7,reduceIte,reduceCtorEq,hM,e,n0,Int.le_refl]
  exact hk
theorem combine_p {M : Mem} {K : PV → Mem → Prop} {f1 o1 f2 o2 : Bool} {a b : Wd} {g : FuncId} (op : BitVec 64 → BitVec 64 → BitVec 64) (ha : a.length < big) (hb : b.length < big)
    (hop : ∀ (M : Mem) (K : PV → Mem → Prop) (x y : BitVec 64),K (p64u (op x y)) M → SemC tab g [p64u x,p64u y] M K) (hk : K (slW false true (cmb op a b)) M) :
    SemC tab 107 [slW f1 o1 a,slW f2 o2 b,.func (.func g) [] []] M K := by
  refine SemC_pure T.h107 (by simp only [PP,P1,P2,P3,P4,P5,P6,P7,P8,P9,P10,P11,P12,P13,P14,L1,P15,N1,N2,N3,N4,N5,N6,N7,I1,I2,I3,I4,I5,I6,I7,reduceIte,reduceCtorEq]) ?_
  simp only [af107,PP,P1,P2,P3,P4,P5,P6,P7,P8,P9,P10,P11,P12,P13,P14,L1,P15,N1,N2,N3,N4,N5,N6,N7,I1,I2,I3,I4,I5,I6,I7,reduceIte,reduceCtorEq]
  have hn : min (max (a.length : Int) b.length) 64 = ((min (max a.length b.length) 64 : Nat) : Int) := by omega
  have hk' : K (slW false true (trim (cmbL op a b (min (max a.length b.length) 64)))) M := hk
  generalize hnn : min (max a.length b.length) 64 = n at hn hk'
  have hn64 : n ≤ 64 := by omega
  simp only [PP,P1,P2,P3,P4,P5,P6,P7,P8,P9,P10,P11,P12,P13,P14,L1,P15,N1,N2,N3,N4,N5,N6,N7,I1,I2,I3,I4,I5,I6,I7,reduceIte,reduceCtorEq,pmin2,hn]
  refine SemW_re (GStep.nil 8 1 rfl rfl rfl) ?_
  simp only [ptset,List.cons_append,List.nil_append,List.length_cons,List.length_nil,Nat.reduceAdd]
  refine loop2 (fun (i g2 : Nat) => i ≤ n)
    (fun i g2 => [slW f1 o1 a,slW f2 o2 b,.func (.func g) [] [],Z,Z,Z,Z,.func (.func 121) [] [],.ref 0 g2 1 0 i,Z,Z,Z,Z,Z,Z,p64 n,p64 i,Z,Z,Z,Z,Z,Z,Z,Z,Z,Z,Z,Z,Z,Z,Z,Z,Z,Z,Z,Z,Z,Z,Z,Z,Z,Z,Z,Z,Z,Z,Z,Z,Z,Z,Z])
    (fun i g2 => [.cells g2 0 ((wI (cmbL op a b i)).map (PV.int .u64))])
    (fun i _ => n - i) 0 0 (by omega) (by simp only [PWeak_nil,PWeak_junk,PWeak_same,Int.cast_ofNat_Int,List.length_append,List.length_cons,List.length_nil,Nat.zero_add]) rfl ?_
  intro i g2 hi ih
  refine SemW_go (by kernel_rfl) ?_
  simp only [PP,P1,P2,P3,P4,P5,P6,P7,P8,P9,P10,P11,P12,P13,P14,L1,P15,N1,N2,N3,N4,N5,N6,N7,I1,I2,I3,I4,I5,I6,I7,reduceIte,reduceCtorEq]
  refine QIf.intro (fun c => ?_) (fun c => ?_)
  · have hin : i < n := by omega
    have hw := wrap_succ (k := i) (by show _ < 1000000000000; omega)
    have b1 : (i + 1) * 8 ≤ 140737488355328 := by omega
    have b2 : i ≤ 9223372036854775806 := by omega
    have b3 : i ≤ (cmbL op a b i).length := by rw [cmbL_len]; omega
    have hps : psub (List.map (PV.int .u64) (wI (cmbL op a b i))) 0 i = List.map (PV.int .u64) (wI (cmbL op a b i)) := psub_all _ _ (by rw [List.length_map,List.length_map,cmbL_len])
    simp only [PP,P1,P2,P3,P4,P5,P6,P7,P8,P9,P10,P11,P12,P13,P14,L1,P15,N1,N2,N3,N4,N5,N6,N7,I1,I2,I3,I4,I5,I6,I7,reduceIte,reduceCtorEq,c]
    refine bsAt_p T ?_
    simp only [PP,P1,P2,P3,P4,P5,P6,P7,P8,P9,P10,P11,P12,P13,P14,L1,P15,N1,N2,N3,N4,N5,N6,N7,I1,I2,I3,I4,I5,I6,I7,reduceIte,reduceCtorEq]
    refine bsAt_p T ?_
    simp only [PP,P1,P2,P3,P4,P5,P6,P7,P8,P9,P10,P11,P12,P13,P14,L1,P15,N1,N2,N3,N4,N5,N6,N7,I1,I2,I3,I4,I5,I6,I7,reduceIte,reduceCtorEq]
    refine hop _ _ _ _ ?_
    simp only [PP,P1,P2,P3,P4,P5,P6,P7,P8,P9,P10,P11,P12,P13,P14,L1,P15,N1,N2,N3,N4,N5,N6,N7,I1,I2,I3,I4,I5,I6,I7,reduceIte,reduceCtorEq,b1,b2,b3,hps,hw]
    exact SemW_to (ih (i + 1) (g2 + 1) (by omega) (by omega)) (by simp only [PWeak_nil,PWeak_junk,PWeak_same,Int.cast_ofNat_Int,List.length_append,List.length_cons,List.length_nil,Nat.zero_add]) (by rw [cmbL_succ]; simp)
  · have hin : i = n := by omega
    subst hin
    simp only [PP,P1,P2,P3,P4,P5,P6,P7,P8,P9,P10,P11,P12,P13,P14,L1,P15,N1,N2,N3,N4,N5,N6,N7,I1,I2,I3,I4,I5,I6,I7,reduceIte,reduceCtorEq,c]
    have hwl := cmbL_len op a b i
    generalize cmbL op a b i = W at hk' hwl ⊢
    refine loop1 (fun (m : Nat) => m ≤ i ∧ trimN W m = trimN W W.length)
      (fun m => [Z,Z,Z,Z,Z,Z,Z,Z,.ref 0 g2 1 0 m,Z,Z,Z,Z,Z,Z,Z,Z,Z,Z,Z,Z,Z,Z,Z,Z,Z,Z,Z,Z,Z,Z,Z,Z,Z,Z,Z,Z,Z,Z,Z,Z,Z,Z,Z,Z,Z,Z,Z,Z,Z,Z,Z]) (fun m => [.cells g2 0 ((wI W).map (PV.int .u64))]) (fun m => m) i ⟨by omega,by rw [hwl]⟩ (by simp only [PWeak_nil,PWeak_junk,PWeak_same,Int.cast_ofNat_Int,List.length_append,List.length_cons,List.length_nil,Nat.zero_add]) rfl ?_
    intro m ⟨hm,htr⟩ ih2
    have hfin : trimN W m = m → K (slW false true (W.take m)) M := fun e => by
      have hk2 : K (slW false true (W.take (trimN W W.length))) M := hk'
      rw [← htr,e] at hk2; exact hk2
    refine SemW_go (by kernel_rfl) ?_
    simp only [PP,P1,P2,P3,P4,P5,P6,P7,P8,P9,P10,P11,P12,P13,P14,L1,P15,N1,N2,N3,N4,N5,N6,N7,I1,I2,I3,I4,I5,I6,I7,reduceIte,reduceCtorEq]
    refine QIf.intro (fun d => ?_) (fun d => ?_)
    · obtain ⟨j,rfl⟩ : ∃ j,m = j + 1 := ⟨m - 1,by omega⟩
      have hw := wrap_pred (j := j) (by omega)
      have j0 : (0 : Int) ≤ j := by omega
      have j1 : (j : Int) < ((j + 1 : Nat) : Int) := by omega
      have gj := wI_get (a := W) (i := j) (by omega)
      rw [List.getElem?_map] at gj
      have e2 : ((j : Int) - 0).toNat = j := by omega
      have j2 : (j : Int) ≤ ((j + 1 : Nat) : Int) := by omega
      simp only [PP,P1,P2,P3,P4,P5,P6,P7,P8,P9,P10,P11,P12,P13,P14,L1,P15,N1,N2,N3,N4,N5,N6,N7,I1,I2,I3,I4,I5,I6,I7,reduceIte,reduceCtorEq,hw,j0,j1,gj,d]
      have et : trimN W (j + 1) = if wAt W j = 0#64 then trimN W j else j + 1 := rfl
      rw [et] at htr hfin
      refine QIf.intro (fun e => ?_) (fun e => ?_)
      · have hz : wAt W j = 0#64 := BitVec.eq_of_toNat_eq (by simpa using e)
        rw [if_pos hz] at htr
        simp only [PP,P1,P2,P3,P4,P5,P6,P7,P8,P9,P10,P11,P12,P13,P14,L1,P15,N1,N2,N3,N4,N5,N6,N7,I1,I2,I3,I4,I5,I6,I7,reduceIte,reduceCtorEq,e,hw,j0,j2,e2]
        exact SemW_weak (ih2 j ⟨by omega,htr⟩ (by omega)) (by simp only [PWeak_nil,PWeak_junk,PWeak_same,Int.cast_ofNat_Int,List.length_append,List.length_cons,List.length_nil,Nat.zero_add])
      · have hz : ¬ wAt W j = 0#64 := fun h => e (by rw [h]; rfl)
        rw [if_neg hz] at hfin
        have hk3 := hfin rfl
        simp only [PP,P1,P2,P3,P4,P5,P6,P7,P8,P9,P10,P11,P12,P13,P14,L1,P15,N1,N2,N3,N4,N5,N6,N7,I1,I2,I3,I4,I5,I6,I7,reduceIte,reduceCtorEq,e]
        refine clipW_p T rfl ?_
        simp only [PP,P1,P2,P3,P4,P5,P6,P7,P8,P9,P10,P11,P12,P13,P14,L1,P15,N1,N2,N3,N4,N5,N6,N7,I1,I2,I3,I4,I5,I6,I7,reduceIte,reduceCtorEq,frzW (W := W) (m := j + 1) (by omega)]
        exact hk3
    · have : m = 0 := by omega
      subst this
      have hk3 := hfin rfl
      simp only [PP,P1,P2,P3,P4,P5,P6,P7,P8,P9,P10,P11,P12,P13,P14,L1,P15,N1,N2,N3,N4,N5,N6,N7,I1,I2,I3,I4,I5,I6,I7,reduceIte,reduceCtorEq,d]
      refine clipW_p T rfl ?_
      simp only [PP,P1,P2,P3,P4,P5,P6,P7,P8,P9,P10,P11,P12,P13,P14,L1,P15,N1,N2,N3,N4,N5,N6,N7,I1,I2,I3,I4,I5,I6,I7,reduceIte,reduceCtorEq,frzW (W := W) (m := 0) (by omega)]
      exact hk3
theorem orW_p {M : Mem} {K : PV → Mem → Prop} {x y : BitVec 64} (hk : K (p64u (x ||| y)) M) : SemC tab 117 [p64u x,p64u y] M K := by
  refine SemC_pure T.h117 (by simp only [PP,P1,P2,P3,P4,P5,P6,P7,P8,P9,P10,P11,P12,P13,P14,L1,P15,N1,N2,N3,N4,N5,N6,N7,I1,I2,I3,I4,I5,I6,I7,reduceIte,reduceCtorEq]) ?_
  simp only [af117,PP,P1,P2,P3,P4,P5,P6,P7,P8,P9,P10,P11,P12,P13,P14,L1,P15,N1,N2,N3,N4,N5,N6,N7,I1,I2,I3,I4,I5,I6,I7,reduceIte,reduceCtorEq,pbin_or64]
  exact hk
theorem andW_p {M : Mem} {K : PV → Mem → Prop} {x y : BitVec 64} (hk : K (p64u (x &&& y)) M) : SemC tab 108 [p64u x,p64u y] M K := by
  refine SemC_pure T.h108 (by simp only [PP,P1,P2,P3,P4,P5,P6,P7,P8,P9,P10,P11,P12,P13,P14,L1,P15,N1,N2,N3,N4,N5,N6,N7,I1,I2,I3,I4,I5,I6,I7,reduceIte,reduceCtorEq]) ?_
  simp only [af108,PP,P1,P2,P3,P4,P5,P6,P7,P8,P9,P10,P11,P12,P13,P14,L1,P15,N1,N2,N3,N4,N5,N6,N7,I1,I2,I3,I4,I5,I6,I7,reduceIte,reduceCtorEq,pbin_and64]
  exact hk
theorem union_p {M : Mem} {K : PV → Mem → Prop} {f1 o1 f2 o2 : Bool} {a b : Wd} (ha : a.length < big) (hb : b.length < big) (hk : K (slW false true (cmb (fun x y => x ||| y) a b)) M) :
    SemC tab 100 [slW f1 o1 a,slW f2 o2 b] M K := by
  refine SemC_pure T.h100 (by simp only [PP,P1,P2,P3,P4,P5,P6,P7,P8,P9,P10,P11,P12,P13,P14,L1,P15,N1,N2,N3,N4,N5,N6,N7,I1,I2,I3,I4,I5,I6,I7,reduceIte,reduceCtorEq]) ?_
  simp only [af100,PP,P1,P2,P3,P4,P5,P6,P7,P8,P9,P10,P11,P12,P13,P14,L1,P15,N1,N2,N3,N4,N5,N6,N7,I1,I2,I3,I4,I5,I6,I7,reduceIte,reduceCtorEq]
  refine combine_p T (fun x y => x ||| y) ha hb (fun M K x y h => orW_p T h) ?_
  simp only [PP,P1,P2,P3,P4,P5,P6,P7,P8,P9,P10,P11,P12,P13,P14,L1,P15,N1,N2,N3,N4,N5,N6,N7,I1,I2,I3,I4,I5,I6,I7,reduceIte,reduceCtorEq]
  exact hk
theorem intersect_p {M : Mem} {K : PV → Mem → Prop} {f1 o1 f2 o2 : Bool} {a b : Wd} (ha : a.length < big) (hb : b.length < big) (hk : K (slW false true (cmb (fun x y => x &&& y) a b)) M) :
    SemC tab 85 [slW f1 o1 a,slW f2 o2 b] M K := by
  refine SemC_pure T.h85 (by simp only [PP,P1,P2,P3,P4,P5,P6,P7,P8,P9,P10,P11,P12,P13,P14,L1,P15,N1,N2,N3,N4,N5,N6,N7,I1,I2,I3,I4,I5,I6,I7,reduceIte,reduceCtorEq]) ?_
  simp only [af85,PP,P1,P2,P3,P4,P5,P6,P7,P8,P9,P10,P11,P12,P13,P14,L1,P15,N1,N2,N3,N4,N5,N6,N7,I1,I2,I3,I4,I5,I6,I7,reduceIte,reduceCtorEq]
  refine combine_p T (fun x y => x &&& y) ha hb (fun M K x y h => andW_p T h) ?_
  simp only [PP,P1,P2,P3,P4,P5,P6,P7,P8,P9,P10,P11,P12,P13,P14,L1,P15,N1,N2,N3,N4,N5,N6,N7,I1,I2,I3,I4,I5,I6,I7,reduceIte,reduceCtorEq]
  exact hk
theorem single_p {M : Mem} {K : PV → Mem → Prop} {k : Nat} (h : k < 4096) (hk : K (slW false true (sing k)) M) : SemC tab 101 [p64 k] M K := by
  refine SemC_pure T.h101 (by simp only [PP,P1,P2,P3,P4,P5,P6,P7,P8,P9,P10,P11,P12,P13,P14,L1,P15,N1,N2,N3,N4,N5,N6,N7,I1,I2,I3,I4,I5,I6,I7,reduceIte,reduceCtorEq]) ?_
  have k0 : ¬ (k : Int) < 0 := by omega
  have k1 : ¬ (4095 : Int) < k := by omega
  have h64 : (64 : Int) ≠ 0 := by omega
  have e1 : IntKind.i64.wrap ((k : Int).tdiv 64) = ((k / 64 : Nat) : Int) := by
    rw [Int.tdiv_eq_ediv_of_nonneg (by omega),wrap64 (by omega) (by omega)]; omega
  have e2 : (k : Int).tmod 64 = ((k % 64 : Nat) : Int) := by rw [Int.tmod_eq_emod_of_nonneg (by omega)]; omega
  have e3 := wrap_succ (k := k / 64) (by show _ < 1000000000000; omega)
  have b0 : (0 : Int) ≤ ((k / 64 + 1 : Nat) : Int) := by omega
  have b1 : ((k / 64 + 1 : Nat) : Int) * 8 ≤ 140737488355328 := by omega
  have b2 : ((k / 64 + 1 : Nat) : Int) ≤ 9223372036854775807 := by omega
  have b3 : (0 : Int) ≤ ((k / 64 : Nat) : Int) := by omega
  have b4 : ((k / 64 : Nat) : Int) < ((k / 64 + 1 : Nat) : Int) := by omega
  have b5 : k / 64 + 1 ≤ k / 64 + 1 := Nat.le_refl _
  have hsh := pbin_shl64 (k := k % 64) (Nat.mod_lt _ (by omega))
  simp only [af101,PP,P1,P2,P3,P4,P5,P6,P7,P8,P9,P10,P11,P12,P13,P14,L1,P15,N1,N2,N3,N4,N5,N6,N7,I1,I2,I3,I4,I5,I6,I7,reduceIte,reduceCtorEq,k0,k1,prem h64,pquo64 h64,e1,e2,e3,b0,b1,b2,b3,b4,hsh,Int.le_refl]
  have hc : List.replicate (k / 64) (PV.int .u64 0) ++ [PV.int .u64 (((BitVec.twoPow 64 (k % 64)).toNat : Nat) : Int)] = (wI (sing k)).map (PV.int .u64) := by
    simp [sing]
  have hl := sing_len k
  rw [rep_set,hc]
  have ht : (sing k).take (k / 64 + 1) = sing k := List.take_of_length_le (by omega)
  simp only [PP,P1,P2,P3,P4,P5,P6,P7,P8,P9,P10,P11,P12,P13,P14,L1,P15,N1,N2,N3,N4,N5,N6,N7,I1,I2,I3,I4,I5,I6,I7,reduceIte,reduceCtorEq,frzW (W := sing k) (m := k / 64 + 1) (by omega),ht]
  exact hk
theorem with_p {M : Mem} {K : PV → Mem → Prop} {f o : Bool} {a : Wd} {k : Nat} (ha : a.length < big) (h : k < 4096) (hk : K (slW false true (withK a k)) M) : SemC tab 80 [slW f o a,p64 k] M K := by
  refine SemC_pure T.h80 (by simp only [PP,P1,P2,P3,P4,P5,P6,P7,P8,P9,P10,P11,P12,P13,P14,L1,P15,N1,N2,N3,N4,N5,N6,N7,I1,I2,I3,I4,I5,I6,I7,reduceIte,reduceCtorEq]) ?_
  simp only [af80,PP,P1,P2,P3,P4,P5,P6,P7,P8,P9,P10,P11,P12,P13,P14,L1,P15,N1,N2,N3,N4,N5,N6,N7,I1,I2,I3,I4,I5,I6,I7,reduceIte,reduceCtorEq]
  refine single_p T h ?_
  simp only [PP,P1,P2,P3,P4,P5,P6,P7,P8,P9,P10,P11,P12,P13,P14,L1,P15,N1,N2,N3,N4,N5,N6,N7,I1,I2,I3,I4,I5,I6,I7,reduceIte,reduceCtorEq]
  refine union_p T ha (by rw [sing_len]; show _ < 1000000000000; omega) ?_
  simp only [PP,P1,P2,P3,P4,P5,P6,P7,P8,P9,P10,P11,P12,P13,P14,L1,P15,N1,N2,N3,N4,N5,N6,N7,I1,I2,I3,I4,I5,I6,I7,reduceIte,reduceCtorEq]
  exact hk
theorem of_p {M : Mem} {K : PV → Mem → Prop} {f o : Bool} {l : List Nat} {xs : List Int} (e : natI l = xs) (hb : l.length < big) (h : ∀ x ∈ l,x < 4096) (hk : K (slW false true (ofL l)) M) : SemC tab 60 [slI f o .i64 xs] M K := by
  subst e
  refine SemC_wk ?_
  refine SemC_pure T.h60 (by simp only [PP,P1,P2,P3,P4,P5,P6,P7,P8,P9,P10,P11,P12,P13,P14,L1,P15,N1,N2,N3,N4,N5,N6,N7,I1,I2,I3,I4,I5,I6,I7,reduceIte,reduceCtorEq]) ?_
  simp only [af60,PP,P1,P2,P3,P4,P5,P6,P7,P8,P9,P10,P11,P12,P13,P14,L1,P15,N1,N2,N3,N4,N5,N6,N7,I1,I2,I3,I4,I5,I6,I7,reduceIte,reduceCtorEq]
  refine SemW_re (GStep.wk 2 (slW false true []) (PvWk.nils _ _ _) rfl) ?_
  simp only [ptset]
  have hb' : l.length < 1000000000000 := hb
  refine loop2 (fun (k : Nat) (a : Wd) => k ≤ l.length ∧ a.length ≤ 64 ∧ (l.drop k).foldl withK a = ofL l)
    (fun k a => [Z,Z,slW false true a,Z,Z,slI f o .i64 (natI l),p64 l.length,p64 k,Z,Z,Z,Z,Z,Z,Z,Z]) (fun _ _ => []) (fun k _ => l.length - k) 0 [] ⟨by omega,by simp,rfl⟩ (by simp only [PWeak_nil,PWeak_junk,PWeak_same,Int.cast_ofNat_Int,List.length_append,List.length_cons,List.length_nil,Nat.zero_add]) rfl ?_
  intro k a ⟨hle,hal,hfo⟩ ih
  refine SemW_go (by kernel_rfl) ?_
  simp only [PP,P1,P2,P3,P4,P5,P6,P7,P8,P9,P10,P11,P12,P13,P14,L1,P15,N1,N2,N3,N4,N5,N6,N7,I1,I2,I3,I4,I5,I6,I7,reduceIte,reduceCtorEq]
  refine QIf.intro (fun c => ?_) (fun c => ?_)
  · have hk' : k < l.length := by omega
    obtain ⟨x,g⟩ := some_of hk'
    have hw := wrap_succ (k := k) (by show _ < 1000000000000; omega)
    have k0 : (0 : Int) ≤ k := by omega
    rw [drop_some g,List.foldl_cons] at hfo
    simp only [PP,P1,P2,P3,P4,P5,P6,P7,P8,P9,P10,P11,P12,P13,P14,L1,P15,N1,N2,N3,N4,N5,N6,N7,I1,I2,I3,I4,I5,I6,I7,reduceIte,reduceCtorEq,c,g,k0]
    refine with_p T (by show _ < 1000000000000; omega) (h x (List.mem_of_getElem? g)) ?_
    simp only [PP,P1,P2,P3,P4,P5,P6,P7,P8,P9,P10,P11,P12,P13,P14,L1,P15,N1,N2,N3,N4,N5,N6,N7,I1,I2,I3,I4,I5,I6,I7,reduceIte,reduceCtorEq,hw]
    exact SemW_weak (ih (k + 1) (withK a x) ⟨by omega,cmb_len _ _ _,hfo⟩ (by omega)) (by simp only [PWeak_nil,PWeak_junk,PWeak_same,Int.cast_ofNat_Int,List.length_append,List.length_cons,List.length_nil,Nat.zero_add])
  · rw [List.drop_eq_nil_of_le (by omega),List.foldl_nil] at hfo
    subst hfo
    simp only [PP,P1,P2,P3,P4,P5,P6,P7,P8,P9,P10,P11,P12,P13,P14,L1,P15,N1,N2,N3,N4,N5,N6,N7,I1,I2,I3,I4,I5,I6,I7,reduceIte,reduceCtorEq,c]
    exact ⟨_,PvWk.refl _,hk⟩
theorem intersects_p {M : Mem} {K : PV → Mem → Prop} {f1 o1 f2 o2 : Bool} {a b : Wd} (ha : a.length < big) (hb : b.length < big) (hk : K (.bool (decide (0 < (cmb (fun x y => x &&& y) a b).length))) M) :
    SemC tab 63 [slW f1 o1 a,slW f2 o2 b] M K := by
  refine SemC_pure T.h63 (by simp only [PP,P1,P2,P3,P4,P5,P6,P7,P8,P9,P10,P11,P12,P13,P14,L1,P15,N1,N2,N3,N4,N5,N6,N7,I1,I2,I3,I4,I5,I6,I7,reduceIte,reduceCtorEq]) ?_
  simp only [af63,PP,P1,P2,P3,P4,P5,P6,P7,P8,P9,P10,P11,P12,P13,P14,L1,P15,N1,N2,N3,N4,N5,N6,N7,I1,I2,I3,I4,I5,I6,I7,reduceIte,reduceCtorEq]
  refine intersect_p T ha hb ?_
  simp only [PP,P1,P2,P3,P4,P5,P6,P7,P8,P9,P10,P11,P12,P13,P14,L1,P15,N1,N2,N3,N4,N5,N6,N7,I1,I2,I3,I4,I5,I6,I7,reduceIte,reduceCtorEq,Int.natCast_pos]
  exact hk
end
end Go.Am.Ar
set_option linter.unusedVariables false
set_option linter.unusedSimpArgs false
set_option maxRecDepth 10000
namespace Go.Am.Ar
open Go.Am.PV renaming junk → Z
open Go.Am renaming pchk → P1,pold → P2,PKNo → P3,ppack → P4,PObj.under → P5,pput → P6,ptset → P7,ptget → P8,pev → P9,ofAV → P10,ofAV1 → P11,ppad → P12,pfill → P13,prepl → P14,AO.effect → P15
open List renaming replicate → L1
open Nat renaming reduceAdd → N1,reduceSub → N2,reduceMul → N3,reduceLT → N4,reduceLeDiff → N5,reduceEqDiff → N6,reduceBEq → N7
open Int renaming reduceToNat → I1,reduceLT → I2,reduceLE → I3,reduceEq → I4,reduceAdd → I5,reduceSub → I6,reduceNeg → I7
abbrev slBr (f o f2 o2 : Bool) (rs : List (List Bool)) : PV := .sl f o 1 rs.length (rs.map (slB f2 o2))
def rAt (rs : List (List Bool)) (u v : Int) : Bool := (rs.getD u.toNat []).getD v.toNat false
def OkP (N : NF) (r : Int → Int → Bool) (q : Int) (xu : Nat × Int) : Prop := ∃ yv,yv ∈ mvL N.vs q N.es ∧ xu.1 = yv.1 ∧ r xu.2 yv.2 = true
def HoldsP (N : NF) (r : Int → Int → Bool) (p q : Int) : Prop := (p ∈ N.fi → q ∈ N.fi) ∧ ∀ xu ∈ mvL N.vs p N.es,OkP N r q xu
theorem under_slBr (m : Nat) (f o f2 o2 : Bool) (sz n : Nat) (rs : List (List Bool)) : PV.under m (.sl f o sz n (rs.map (slB f2 o2))) = true := by
  simp only [PV.under]; exact underL_map _ (slB f2 o2) (fun x => under_slB _ _ _ _ _ _) _
theorem brs_und (m : Nat) (f o : Bool) (rs : List (List Bool)) : underL m (rs.map (slB f o)) = true := underL_map _ (slB f o) (fun x => under_slB _ _ _ _ _ _) _
theorem mvL_ok {N : NF} (C : NOk N) {p : Int} {x : Nat} {u : Int} (h : (x,u) ∈ mvL N.vs p N.es) : x < 64 ∧ 0 ≤ u ∧ u < N.n := by
  obtain ⟨e,he,h⟩ := List.mem_flatMap.1 h
  unfold mvE at h
  split at h
  · obtain ⟨y,hy,e2⟩ := List.mem_map.1 h
    cases e2
    obtain ⟨_,_,h1,h2,_⟩ := C.ed e he
    exact ⟨lettersM_lt C.v6 hy,h1,h2⟩
  · cases h
theorem and_sing {a : Wd} {k : Nat} (ha : a.length ≤ 64) (hk : k < 4096) : decide (0 < (cmb (fun x y => x &&& y) a (sing k)).length) = bit a k := by
  have hs : (sing k).length ≤ 64 := by rw [sing_len]; omega
  cases hb : bit a k with
  | true =>
    refine decide_eq_true (Nat.pos_of_ne_zero fun h => ?_)
    have := (cmb_nil a (sing k)).1 h k
    rw [bit_cmb_and ha hs,bit_sing,hb] at this
    simp at this
  | false =>
    refine decide_eq_false (fun h => ?_)
    have : (cmb (fun x y => x &&& y) a (sing k)).length = 0 := (cmb_nil a (sing k)).2 fun j => by
      rw [bit_cmb_and ha hs,bit_sing]
      by_cases e : j = k
      · subst e; rw [hb]; rfl
      · simp [e]
    omega
section
variable {tab : FuncId → Option AF} (T : HasA tab)
include T
theorem bsHas_p {M : Mem} {K : PV → Mem → Prop} {f o : Bool} {a : Wd} {k : Nat} (ha : a.length ≤ 64) (hk : k < 4096) (hq : K (.bool (bit a k)) M) :
    SemC tab 81 [slW f o a,p64 k] M K := by
  refine SemC_pure T.h81 (by simp only [PP,P1,P2,P3,P4,P5,P6,P7,P8,P9,P10,P11,P12,P13,P14,L1,P15,N1,N2,N3,N4,N5,N6,N7,I1,I2,I3,I4,I5,I6,I7,reduceIte,reduceCtorEq]) ?_
  simp only [af81,PP,P1,P2,P3,P4,P5,P6,P7,P8,P9,P10,P11,P12,P13,P14,L1,P15,N1,N2,N3,N4,N5,N6,N7,I1,I2,I3,I4,I5,I6,I7,reduceIte,reduceCtorEq]
  refine single_p T hk ?_
  simp only [PP,P1,P2,P3,P4,P5,P6,P7,P8,P9,P10,P11,P12,P13,P14,L1,P15,N1,N2,N3,N4,N5,N6,N7,I1,I2,I3,I4,I5,I6,I7,reduceIte,reduceCtorEq]
  refine intersects_p T (by show _ < 1000000000000; omega) (by show _ < 1000000000000; rw [sing_len]; omega) ?_
  simp only [PP,P1,P2,P3,P4,P5,P6,P7,P8,P9,P10,P11,P12,P13,P14,L1,P15,N1,N2,N3,N4,N5,N6,N7,I1,I2,I3,I4,I5,I6,I7,reduceIte,reduceCtorEq,and_sing ha hk]
  exact hq
set_option maxHeartbeats 1000000 in
theorem holds_p {M : Mem} {K : PV → Mem → Prop} {f1 o1 f2 o2 f3 o3 f4 o4 f5 o5 f6 o6 : Bool} {N : NF} {rs : List (List Bool)} {fa : Wd} {p q : Nat} (C : NOk N) (B : BnN N) (hfa : fa.length ≤ 64) (hbit : ∀ k,bit fa k = decide ((k : Int) ∈ N.fi))
    (hr : (rs.length : Int) = N.n) (hrow : ∀ r ∈ rs,(r.length : Int) = N.n) (hp : (p : Int) < N.n) (hq : (q : Int) < N.n) (hk : ∀ b,(b = true ↔ HoldsP N (rAt rs) p q) → K (.bool b) M) :
    SemC tab 61 [.agg (nfC f1 o1 f2 o2 f3 o3 N),slBr f4 o4 f5 o5 rs,slW f6 o6 fa,p64 p,p64 q] M K := by
  have n64 := C.n64
  refine SemC_pureS T.h61 (by simp only [PP,P1,P2,P3,P4,P5,P6,P7,P8,P9,P10,P11,P12,P13,P14,L1,P15,N1,N2,N3,N4,N5,N6,N7,I1,I2,I3,I4,I5,I6,I7,reduceIte,reduceCtorEq,under_slE,under_slBr,PV.under,egL_und,brs_und]) ?_
  simp only [af61]
  refine SemW_seq (SemW_of ?_)
  simp only [PP,P1,P2,P3,P4,P5,P6,P7,P8,P9,P10,P11,P12,P13,P14,L1,P15,N1,N2,N3,N4,N5,N6,N7,I1,I2,I3,I4,I5,I6,I7,reduceIte,reduceCtorEq]
  refine SemW_re (GStep.freezeP (b := [Z,Z,slW f6 o6 fa,p64 p,Z,.cp (nfC f1 o1 f2 o2 f3 o3 N) 0,.ptr 1 0 0,Z,Z,.ptr 2 0 0,.ptr 3 0 0,Z,Z,Z,Z,Z,Z,Z,Z,Z,Z,Z,Z,Z,Z,Z,Z,Z,Z,Z,Z,Z,Z,Z,Z,Z,Z,Z,Z,Z,Z,Z,Z,Z,Z,Z]) 0 (Nat.zero_le _) rfl (by simp only [PFrzP_nil,PFrzP_junk,PFrzP_same,PFrzP_ptr]) rfl) ?_
  refine SemW_re (GStep.freezeP (b := [Z,Z,slW f6 o6 fa,p64 p,Z,.cp (nfC f1 o1 f2 o2 f3 o3 N) 0,.cp [slBr f4 o4 f5 o5 rs] 0,Z,Z,.ptr 2 0 0,.ptr 3 0 0,Z,Z,Z,Z,Z,Z,Z,Z,Z,Z,Z,Z,Z,Z,Z,Z,Z,Z,Z,Z,Z,Z,Z,Z,Z,Z,Z,Z,Z,Z,Z,Z,Z,Z,Z]) 1 (Nat.zero_le _) rfl (by simp only [PFrzP_nil,PFrzP_junk,PFrzP_same,PFrzP_ptr]) rfl) ?_
  refine SemW_re (GStep.freezeP (b := [Z,Z,slW f6 o6 fa,p64 p,Z,.cp (nfC f1 o1 f2 o2 f3 o3 N) 0,.cp [slBr f4 o4 f5 o5 rs] 0,Z,Z,.cp [p64 q] 0,.ptr 3 0 0,Z,Z,Z,Z,Z,Z,Z,Z,Z,Z,Z,Z,Z,Z,Z,Z,Z,Z,Z,Z,Z,Z,Z,Z,Z,Z,Z,Z,Z,Z,Z,Z,Z,Z,Z]) 2 (Nat.zero_le _) rfl (by simp only [PFrzP_nil,PFrzP_junk,PFrzP_same,PFrzP_ptr]) rfl) ?_
  refine SemW_of ?_
  simp only [PP,P1,P2,P3,P4,P5,P6,P7,P8,P9,P10,P11,P12,P13,P14,L1,P15,N1,N2,N3,N4,N5,N6,N7,I1,I2,I3,I4,I5,I6,I7,reduceIte,reduceCtorEq]
  refine bsHas_p T hfa (by omega) ?_
  cases hb : bit fa p
  rotate_left
  simp only [PP,P1,P2,P3,P4,P5,P6,P7,P8,P9,P10,P11,P12,P13,P14,L1,P15,N1,N2,N3,N4,N5,N6,N7,I1,I2,I3,I4,I5,I6,I7,reduceIte,reduceCtorEq]
  refine bsHas_p T hfa (by omega) ?_
  cases hb2 : bit fa q
  · simp only [PP,P1,P2,P3,P4,P5,P6,P7,P8,P9,P10,P11,P12,P13,P14,L1,P15,N1,N2,N3,N4,N5,N6,N7,I1,I2,I3,I4,I5,I6,I7,reduceIte,reduceCtorEq]
    refine hk false ⟨(fun h => by cases h),fun h => ?_⟩
    rw [hbit,decide_eq_true_eq] at hb
    rw [hbit,decide_eq_false_iff_not] at hb2
    exact absurd (h.1 hb) hb2
  all_goals have hpq : (p : Int) ∈ N.fi → (q : Int) ∈ N.fi := (by first | exact (fun _ => by rwa [hbit,decide_eq_true_eq] at hb2) | exact (fun h => by rw [hbit,decide_eq_false_iff_not] at hb; exact absurd h hb))
  all_goals
    simp only [PP,P1,P2,P3,P4,P5,P6,P7,P8,P9,P10,P11,P12,P13,P14,L1,P15,N1,N2,N3,N4,N5,N6,N7,I1,I2,I3,I4,I5,I6,I7,reduceIte,reduceCtorEq]
    refine moves_p T ?_
    simp only [PP,P1,P2,P3,P4,P5,P6,P7,P8,P9,P10,P11,P12,P13,P14,L1,P15,N1,N2,N3,N4,N5,N6,N7,I1,I2,I3,I4,I5,I6,I7,reduceIte,reduceCtorEq]
    refine SemW_weak (b := [Z,Z,Z,Z,Z,.cp (nfC f1 o1 f2 o2 f3 o3 N) 0,.cp [slBr f4 o4 f5 o5 rs] 0,Z,Z,.cp [p64 q] 0,.ptr 3 0 0,Z,Z,Z,Z,Z,Z,Z,Z,Z,Z,Z,Z,Z,Z,Z,.func (.func 102) [] [.cp (nfC f1 o1 f2 o2 f3 o3 N) 0,.cp [p64 p] 0],Z,Z,Z,Z,Z,Z,Z,Z,Z,Z,Z,Z,Z,Z,Z,Z,Z,Z,Z]) ?_ (by simp only [PWeak_nil,PWeak_junk,PWeak_same,Int.cast_ofNat_Int,List.length_append,List.length_cons,List.length_nil,Nat.zero_add])
    refine SemW_rangeN rfl (fun lp q1 q2 q3 q4 q5 q6 => ?_)
    simp only [PP,P1,P2,P3,P4,P5,P6,P7,P8,P9,P10,P11,P12,P13,P14,L1,P15,N1,N2,N3,N4,N5,N6,N7,I1,I2,I3,I4,I5,I6,I7,reduceIte,reduceCtorEq]
    refine movesY_p T (L := 4) (base := 5) C B (fun k G => ∃ ver Gs,G = [.gone,.gone,.gone,.cells 0 0 [.bool false],.loop ver lp] ++ Gs ∧ ∀ j,j < k → ∀ xu,(mvL N.vs p N.es)[j]? = some xu → OkP N (rAt rs) q xu)
      (fun G => ∃ ver Gs,G = [.gone,.gone,.gone,.cells 0 1 [.bool false],.loop ver { lp with state := .done,pending := some .ret }] ++ Gs ∧ ¬ HoldsP N (rAt rs) p q) ⟨0,[],rfl,by omega⟩ ?_ ?_ ?_ ?_ ?_ ?_
    · rintro k G o ⟨ver,Gs,rfl,h⟩
      exact ⟨ver,Gs ++ [o],by simp only [List.append_assoc],h⟩
    · rintro k G ⟨ver,Gs,rfl,h⟩
      simp
    · rintro k G ⟨ver,Gs,rfl,h⟩
      exact ⟨ver,lp,rfl⟩
    · rintro k G x u ⟨ver,Gs,rfl,h⟩ hat K' hK1 hK2
      obtain ⟨hx,hu0,hun⟩ := mvL_ok C (List.mem_of_getElem? hat)
      refine SemY_run (ver := ver) (r := lp) rfl (by rw [q4]; rfl) ?_
      rw [q3,q4,q5]
      refine SemW_of ?_
      simp only [psetAll,PP,P1,P2,P3,P4,P5,P6,P7,P8,P9,P10,P11,P12,P13,P14,L1,P15,N1,N2,N3,N4,N5,N6,N7,I1,I2,I3,I4,I5,I6,I7,reduceIte,reduceCtorEq,List.append_assoc,gk,gk0,sk,sk0]
      refine ⟨ver,lp,rfl,q1, ?_⟩
      rw [q6]
      refine SemW_of ?_
      simp only [PP,P1,P2,P3,P4,P5,P6,P7,P8,P9,P10,P11,P12,P13,P14,L1,P15,N1,N2,N3,N4,N5,N6,N7,I1,I2,I3,I4,I5,I6,I7,reduceIte,reduceCtorEq,List.append_assoc,gk,gk0,sk,sk0]
      refine moves_p T ?_
      simp only [PP,P1,P2,P3,P4,P5,P6,P7,P8,P9,P10,P11,P12,P13,P14,L1,P15,N1,N2,N3,N4,N5,N6,N7,I1,I2,I3,I4,I5,I6,I7,reduceIte,reduceCtorEq,List.append_assoc,gk,gk0,sk,sk0]
      refine SemW_rangeN rfl (fun lp2 p1 p2 p3 p4 p5 p6 => ?_)
      simp only [PP,P1,P2,P3,P4,P5,P6,P7,P8,P9,P10,P11,P12,P13,P14,L1,P15,N1,N2,N3,N4,N5,N6,N7,I1,I2,I3,I4,I5,I6,I7,reduceIte,reduceCtorEq,List.append_assoc,gk,gk0,sk,sk0]
      have hlp : ∀ B,lp.body = B → (⟨.ready,none,lp.tmps,lp.params,lp.assign,B⟩ : PLoop) = lp := fun B hB => by cases lp; simp_all
      have hlp2 : ∀ B,lp2.body = B → (⟨.ready,none,lp2.tmps,lp2.params,lp2.assign,B⟩ : PLoop) = lp2 := fun B hB => by cases lp2; simp_all
      refine movesY_p T (base := Gs.length + 8) C B (fun k2 G => ∃ ver2 Gs2,G = (PObj.gone :: PObj.gone :: PObj.gone :: PObj.cells 0 0 [.bool false] :: .loop (ver + 1) { lp with state := .busy } :: (Gs ++ (.cells 0 1 [p8 x] :: .cells 0 1 [p64 u] :: .loop ver2 lp2 :: Gs2))) ∧ ∀ j,j < k2 → ∀ yv,(mvL N.vs q N.es)[j]? = some yv → ¬ (x = yv.1 ∧ rAt rs u yv.2 = true))
        (fun G => ∃ ver2 Gs2,G = (PObj.gone :: PObj.gone :: PObj.gone :: PObj.cells 0 0 [.bool false] :: .loop (ver + 1) { lp with state := .busy } :: (Gs ++ (.cells 0 1 [p8 x] :: .cells 0 1 [p64 u] :: .loop ver2 { lp2 with state := .done,pending := some (.exit 1) } :: Gs2))) ∧ OkP N (rAt rs) q (x,u)) ⟨0,[],by rw [q6],by omega⟩ ?_ ?_ ?_ ?_ ?_ ?_
      · rintro k2 G o ⟨ver2,Gs2,rfl,h2⟩
        exact ⟨ver2,Gs2 ++ [o],by simp only [List.append_assoc,List.cons_append],h2⟩
      · rintro k2 G ⟨ver2,Gs2,rfl,h2⟩
        simp only [List.length_cons,List.length_append]; try omega
      · rintro k2 G ⟨ver2,Gs2,rfl,h2⟩
        exact ⟨ver2,lp2,by simp only [List.getElem?_cons_succ,gk,List.getElem?_cons_zero]⟩
      · rintro k2 G y v ⟨ver2,Gs2,rfl,h2⟩ hat2 K2 hK3 hK4
        obtain ⟨hy,hv0,hvn⟩ := mvL_ok C (List.mem_of_getElem? hat2)
        refine SemY_run (ver := ver2) (r := lp2) (by simp only [List.getElem?_cons_succ,gk]; rfl) (by rw [p4]; rfl) ?_
        rw [p3,p4,p5]
        refine SemW_of ?_
        simp only [psetAll,PP,P1,P2,P3,P4,P5,P6,P7,P8,P9,P10,P11,P12,P13,P14,L1,P15,N1,N2,N3,N4,N5,N6,N7,I1,I2,I3,I4,I5,I6,I7,reduceIte,reduceCtorEq,List.append_assoc,gk,gk0,sk,sk0]
        refine ⟨ver2,lp2,by simp only [List.getElem?_cons_succ,gk,List.getElem?_cons_zero],p1, ?_⟩
        rw [p6]
        refine SemW_of ?_
        obtain ⟨row,grow⟩ := some_of (xs := rs) (k := u.toNat) (by omega)
        have hrl := hrow row (List.mem_of_getElem? grow)
        obtain ⟨b,gb⟩ := some_of (xs := row) (k := v.toNat) (by omega)
        have hrv : rAt rs u v = b := by simp [rAt,List.getD,grow,gb]
        have un : u < (rs.length : Int) := by omega
        have vn : v < (row.length : Int) := by omega
        simp only [PP,P1,P2,P3,P4,P5,P6,P7,P8,P9,P10,P11,P12,P13,P14,L1,P15,N1,N2,N3,N4,N5,N6,N7,I1,I2,I3,I4,I5,I6,I7,reduceIte,reduceCtorEq,List.append_assoc,gk,gk0,sk,sk0,hu0,hv0,un,vn,grow,gb]
        refine QIf.intro (fun c => ?_) (fun c => ?_)
        · simp only [PP,P1,P2,P3,P4,P5,P6,P7,P8,P9,P10,P11,P12,P13,P14,L1,P15,N1,N2,N3,N4,N5,N6,N7,I1,I2,I3,I4,I5,I6,I7,reduceIte,reduceCtorEq,List.append_assoc,gk,gk0,sk,sk0,c,hu0,hv0,un,vn,grow,gb]
          cases b with
          | true =>
            simp only [PP,P1,P2,P3,P4,P5,P6,P7,P8,P9,P10,P11,P12,P13,P14,L1,P15,N1,N2,N3,N4,N5,N6,N7,I1,I2,I3,I4,I5,I6,I7,reduceIte,reduceCtorEq,List.append_assoc,gk,gk0,sk,sk0]
            refine ⟨ver2 + 1,_,by simp only [List.getElem?_cons_succ,gk]; rfl, ?_⟩
            rw [if_neg (by intro h; cases h)]
            refine hK4 _ ⟨ver2 + 1 + 1,Gs2, ?_,(y,v),List.mem_of_getElem? hat2,by show x = y; omega,hrv⟩
            simp only [PP,P1,P2,P3,P4,P5,P6,P7,P8,P9,P10,P11,P12,P13,P14,L1,P15,N1,N2,N3,N4,N5,N6,N7,I1,I2,I3,I4,I5,I6,I7,reduceIte,reduceCtorEq,List.append_assoc,gk,gk0,sk,sk0,p6,c]
          | false =>
            simp only [PP,P1,P2,P3,P4,P5,P6,P7,P8,P9,P10,P11,P12,P13,P14,L1,P15,N1,N2,N3,N4,N5,N6,N7,I1,I2,I3,I4,I5,I6,I7,reduceIte,reduceCtorEq,List.append_assoc,gk,gk0,sk,sk0]
            refine ⟨ver2 + 1,_,by simp only [List.getElem?_cons_succ,gk]; rfl, ?_⟩
            rw [if_pos rfl]
            refine hK3 _ ⟨ver2 + 1 + 1,Gs2, ?_,fun j hj yv hyv => ?_⟩ fun i o hi hgi => ?_
            · simp only [PP,P1,P2,P3,P4,P5,P6,P7,P8,P9,P10,P11,P12,P13,P14,L1,P15,N1,N2,N3,N4,N5,N6,N7,I1,I2,I3,I4,I5,I6,I7,reduceIte,reduceCtorEq,List.append_assoc,gk,gk0,sk,sk0,hlp2 _ p6,hlp _ q6,c]
            · by_cases e : j = k2
              · subst e
                rw [hat2] at hyv; cases hyv
                exact fun z => by rw [hrv] at z; cases z.2
              · exact h2 j (by omega) yv hyv
            · obtain ⟨t,rfl⟩ : ∃ t,i = Gs.length + (t + 3) + 5 := ⟨i - (Gs.length + 8),by omega⟩
              simp only [List.set_cons_succ,sk,List.getElem?_cons_succ,gk] at hgi ⊢
              exact hgi
        · simp only [PP,P1,P2,P3,P4,P5,P6,P7,P8,P9,P10,P11,P12,P13,P14,L1,P15,N1,N2,N3,N4,N5,N6,N7,I1,I2,I3,I4,I5,I6,I7,reduceIte,reduceCtorEq,List.append_assoc,gk,gk0,sk,sk0,c]
          refine ⟨ver2 + 1,_,by simp only [List.getElem?_cons_succ,gk]; rfl, ?_⟩
          rw [if_pos rfl]
          refine hK3 _ ⟨ver2 + 1 + 1,Gs2, ?_,fun j hj yv hyv => ?_⟩ fun i o hi hgi => ?_
          · simp only [PP,P1,P2,P3,P4,P5,P6,P7,P8,P9,P10,P11,P12,P13,P14,L1,P15,N1,N2,N3,N4,N5,N6,N7,I1,I2,I3,I4,I5,I6,I7,reduceIte,reduceCtorEq,List.append_assoc,gk,gk0,sk,sk0,hlp2 _ p6,hlp _ q6]
          · by_cases e : j = k2
            · subst e
              rw [hat2] at hyv; cases hyv
              exact fun z => c (by have := z.1; omega)
            · exact h2 j (by omega) yv hyv
          · obtain ⟨t,rfl⟩ : ∃ t,i = Gs.length + (t + 3) + 5 := ⟨i - (Gs.length + 8),by omega⟩
            simp only [List.set_cons_succ,sk,List.getElem?_cons_succ,gk] at hgi ⊢
            exact hgi
      · rintro G ⟨ver2,Gs2,rfl,h2⟩
        refine ⟨ver2,lp2,by simp only [List.getElem?_cons_succ,gk]; rfl,by rw [p1]; exact (by intro h; cases h), ?_⟩
        rw [p2]
        simp only [PP,P1,P2,P3,P4,P5,P6,P7,P8,P9,P10,P11,P12,P13,P14,L1,P15,N1,N2,N3,N4,N5,N6,N7,I1,I2,I3,I4,I5,I6,I7,reduceIte,reduceCtorEq,List.append_assoc,gk,gk0,sk,sk0]
        refine ⟨ver + 1,_,rfl, ?_⟩
        rw [if_neg (by intro h; cases h)]
        refine hK2 _ ⟨ver + 1 + 1,(Gs ++ (.cells 0 1 [p8 x] :: .cells 0 1 [p64 u] :: .loop (ver2 + 1) { lp2 with state := .exhausted,pending := none } :: Gs2)), ?_,fun hH => ?_⟩
        rotate_left
        · obtain ⟨yv,hyv,e1,e2⟩ := hH.2 (x,u) (List.mem_of_getElem? hat)
          obtain ⟨j,hj⟩ := List.getElem?_of_mem hyv
          exact h2 j (getSome_lt hj) yv hj ⟨e1,e2⟩
        simp only [PP,P1,P2,P3,P4,P5,P6,P7,P8,P9,P10,P11,P12,P13,P14,L1,P15,N1,N2,N3,N4,N5,N6,N7,I1,I2,I3,I4,I5,I6,I7,reduceIte,reduceCtorEq,List.append_assoc,gk,gk0,sk,sk0]
      · rintro G ⟨ver2,Gs2,rfl,h2⟩
        refine ⟨ver2, { lp2 with state := .done,pending := some (.exit 1) },by simp only [List.getElem?_cons_succ,gk]; rfl,(by intro h; cases h), ?_⟩
        simp only [PP,P1,P2,P3,P4,P5,P6,P7,P8,P9,P10,P11,P12,P13,P14,L1,P15,N1,N2,N3,N4,N5,N6,N7,I1,I2,I3,I4,I5,I6,I7,reduceIte,reduceCtorEq,List.append_assoc,gk,gk0,sk,sk0]
        refine ⟨ver + 1,_,rfl, ?_⟩
        rw [if_pos rfl]
        refine hK1 _ ⟨ver + 1 + 1,(Gs ++ (.cells 0 1 [p8 x] :: .cells 0 1 [p64 u] :: .loop (ver2 + 1) { lp2 with state := .exhausted,pending := some (.exit 1) } :: Gs2)), ?_,fun j hj xu hxu => ?_⟩ fun i o hi hgi => ?_
        rotate_left
        · by_cases e : j = k
          · subst e
            rw [hat] at hxu; cases hxu
            exact h2
          · exact h j (by omega) xu hxu
        · obtain ⟨t,rfl⟩ : ∃ t,i = t + 5 := ⟨i - 5,by omega⟩
          simp only [List.cons_append,List.nil_append,List.set_cons_succ,List.set_cons_zero,List.getElem?_cons_succ] at hgi ⊢
          rw [List.getElem?_append_left (getSome_lt hgi)]; exact hgi
        simp only [PP,P1,P2,P3,P4,P5,P6,P7,P8,P9,P10,P11,P12,P13,P14,L1,P15,N1,N2,N3,N4,N5,N6,N7,I1,I2,I3,I4,I5,I6,I7,reduceIte,reduceCtorEq,List.append_assoc,gk,gk0,sk,sk0,hlp _ q6,hlp _ rfl]
    · rintro G ⟨ver,Gs,rfl,h⟩
      refine ⟨ver,lp,rfl,by rw [q1]; exact (by intro h; cases h), ?_⟩
      rw [q2]
      simp only [PP,P1,P2,P3,P4,P5,P6,P7,P8,P9,P10,P11,P12,P13,P14,L1,P15,N1,N2,N3,N4,N5,N6,N7,I1,I2,I3,I4,I5,I6,I7,reduceIte,reduceCtorEq,List.append_assoc,gk,gk0,sk,sk0]
      refine hk true ⟨fun _ => ⟨hpq,fun xu hxu => ?_⟩,fun _ => rfl⟩
      obtain ⟨j,hj⟩ := List.getElem?_of_mem hxu
      exact h j (getSome_lt hj) xu hj
    · rintro G ⟨ver,Gs,rfl,h⟩
      refine ⟨ver, { lp with state := .done,pending := some .ret },rfl,(by intro h; cases h), ?_⟩
      simp only [PP,P1,P2,P3,P4,P5,P6,P7,P8,P9,P10,P11,P12,P13,P14,L1,P15,N1,N2,N3,N4,N5,N6,N7,I1,I2,I3,I4,I5,I6,I7,reduceIte,reduceCtorEq,List.append_assoc,gk,gk0,sk,sk0]
      exact hk false ⟨(fun h => by cases h),fun h2 => absurd h2 h⟩
end
end Go.Am.Ar
set_option linter.unusedVariables false
set_option linter.unusedSimpArgs false
set_option maxRecDepth 10000
namespace Go.Am.Ar
open Go.Am.PV renaming junk → Z
open Go.Am renaming pchk → P1,pold → P2,PKNo → P3,ppack → P4,PObj.under → P5,pput → P6,ptset → P7,ptget → P8,pev → P9,ofAV → P10,ofAV1 → P11,ppad → P12,pfill → P13,prepl → P14,AO.effect → P15
open List renaming replicate → L1
open Nat renaming reduceAdd → N1,reduceSub → N2,reduceMul → N3,reduceLT → N4,reduceLeDiff → N5,reduceEqDiff → N6,reduceBEq → N7
open Int renaming reduceToNat → I1,reduceLT → I2,reduceLE → I3,reduceEq → I4,reduceAdd → I5,reduceSub → I6,reduceNeg → I7
def SimR (N : NF) (r : Int → Int → Bool) : Prop := ∀ p q : Nat,(p : Int) < N.n → (q : Int) < N.n → r p q = true → HoldsP N r p q
def DimOk (N : NF) (rs : List (List Bool)) : Prop := (rs.length : Int) = N.n ∧ ∀ r ∈ rs,(r.length : Int) = N.n
theorem posM_mem {n : Int} {l : List Int} (h : posM n (-1) l = true) : ∀ x ∈ l,0 ≤ x ∧ x < n := fun x hx => by
  have := (posM_rise h).2 x hx; omega
def faW (l : List Int) : Wd := ofL (l.map Int.toNat)
theorem natI_toNat {n : Int} {l : List Int} (h : ∀ x ∈ l,0 ≤ x ∧ x < n) : natI (l.map Int.toNat) = l := by
  show (l.map Int.toNat).map (fun (v : Nat) => (v : Int)) = l
  rw [List.map_map]
  conv => rhs; rw [← List.map_id l]
  exact List.map_congr_left fun x hx => by have := h x hx; show ((x.toNat : Nat) : Int) = x; omega
theorem fa_ok {N : NF} (C : NOk N) {l : List Int} (h : posM N.n (-1) l = true) : (∀ x ∈ l.map Int.toNat,x < 4096) ∧ (faW l).length ≤ 64 ∧ ∀ k : Nat,bit (faW l) k = decide ((k : Int) ∈ l) := by
  have hm := posM_mem h
  have n64 := C.n64
  have h1 : ∀ x ∈ l.map Int.toNat,x < 4096 := fun x hx => by
    obtain ⟨y,hy,rfl⟩ := List.mem_map.1 hx
    have := hm y hy; omega
  refine ⟨h1,ofL_len h1,fun k => ?_⟩
  rw [faW,bit_ofL h1,decide_eq_decide,List.mem_map]
  exact ⟨fun ⟨y,hy,e⟩ => by have := hm y hy; rw [show (k : Int) = y by omega]; exact hy,fun hk => ⟨k,hk,by simp⟩⟩
theorem posM_len {n : Int} {l : List Int} (h : posM n (-1) l = true) (hn : n ≤ 64) : l.length ≤ 64 := by
  obtain ⟨h1,h2⟩ := posM_rise h
  have key : ∀ (l : List Int) (a : Int),l.Pairwise (· < ·) → (∀ x ∈ l,a < x ∧ x < n) → (l.length : Int) ≤ max 0 (n - a - 1) := by
    intro l
    induction l with
    | nil => intro a _ _; simp; omega
    | cons x l ih =>
      intro a hp hx
      have h1 := List.pairwise_cons.1 hp
      have h2 := ih x h1.2 fun z hz => ⟨h1.1 z hz,(hx z (by simp [hz])).2⟩
      have h3 := hx x (by simp)
      rw [List.length_cons]; omega
  have := key l (-1) h1 h2
  omega
section
variable {tab : FuncId → Option AF} (T : HasA tab)
include T
theorem ofF_p {M : Mem} {K : PV → Mem → Prop} {f o : Bool} {N : NF} (C : NOk N) {l : List Int} (h : posM N.n (-1) l = true) (hk : K (slW false true (faW l)) M) : SemC tab 60 [slI f o .i64 l] M K := by
  obtain ⟨fa1,fa2,fa3⟩ := fa_ok C h
  have hfl : l.length ≤ 64 := posM_len h C.n64
  exact of_p T (l := l.map Int.toNat) (natI_toNat (posM_mem h)) (by show _ < 1000000000000; rw [List.length_map]; omega) fa1 hk
end
end Go.Am.Ar
set_option linter.unusedVariables false
set_option linter.unusedSimpArgs false
set_option maxRecDepth 10000
namespace Go.Am.Ar
open Go.Am.PV renaming junk → Z
open Go.Am renaming pchk → P1,pold → P2,PKNo → P3,ppack → P4,PObj.under → P5,pput → P6,ptset → P7,ptget → P8,pev → P9,ofAV → P10,ofAV1 → P11,ppad → P12,pfill → P13,prepl → P14,AO.effect → P15
open List renaming replicate → L1
open Nat renaming reduceAdd → N1,reduceSub → N2,reduceMul → N3,reduceLT → N4,reduceLeDiff → N5,reduceEqDiff → N6,reduceBEq → N7
open Int renaming reduceToNat → I1,reduceLT → I2,reduceLE → I3,reduceEq → I4,reduceAdd → I5,reduceSub → I6,reduceNeg → I7
def egP (s : List Int) (x : Nat) (u : Nat) (e : Eg) : Bool := decide (e.to = u) && (decide (e.fr ∈ s) && hasB e.ps e.ng x)
def anyE (s : List Int) (x : Nat) (es : List Eg) (u : Nat) : Bool := es.any (egP s x u)
def afM (N : NF) (s : List Int) (x : Nat) : List Nat := (List.range N.n.toNat).filter (anyE s x N.es)
theorem afM_mem {N : NF} (C : NOk N) {s : List Int} {x u : Nat} : u ∈ afM N s x ↔ ∃ e ∈ N.es,e.to = u ∧ e.fr ∈ s ∧ hasB e.ps e.ng x = true := by
  unfold afM anyE egP
  rw [List.mem_filter,List.any_eq_true]
  simp only [Bool.and_eq_true,decide_eq_true_eq,List.mem_range]
  constructor
  · rintro ⟨_,e,he,h1,h2,h3⟩; exact ⟨e,he,h1,h2,h3⟩
  · rintro ⟨e,he,h1,h2,h3⟩
    obtain ⟨_,_,h4,h5,_⟩ := C.ed e he
    exact ⟨by omega,e,he,h1,h2,h3⟩
theorem afM_len (N : NF) (s : List Int) (x : Nat) : (afM N s x).length ≤ N.n.toNat := by
  refine Nat.le_trans (List.length_filter_le _ _) ?_
  rw [List.length_range]; exact Nat.le_refl _
section
variable {tab : FuncId → Option AF} (T : HasA tab)
include T
theorem letter_p {M : Mem} {K : PV → Mem → Prop} {ps ng : Int} {x : Nat} (hp : 0 ≤ ps ∧ ps ≤ 255) (hn : 0 ≤ ng ∧ ng ≤ 255) (hx : x < 256) (hk : K (.bool (hasB ps ng x)) M) :
    SemC tab 87 [p8 x,p8 ps,p8 ng] M K := by
  refine SemC_pure T.h87 (by simp only [PP,P1,P2,P3,P4,P5,P6,P7,P8,P9,P10,P11,P12,P13,P14,L1,P15,N1,N2,N3,N4,N5,N6,N7,I1,I2,I3,I4,I5,I6,I7,reduceIte,reduceCtorEq]) ?_
  have h1 := pbin_and8 (x := x) (y := ps) (by omega) hp
  have h2 := pbin_and8 (x := x) (y := ng) (by omega) hn
  simp only [af87,PP,P1,P2,P3,P4,P5,P6,P7,P8,P9,P10,P11,P12,P13,P14,L1,P15,N1,N2,N3,N4,N5,N6,N7,I1,I2,I3,I4,I5,I6,I7,reduceIte,reduceCtorEq,h1,h2]
  refine QIf.intro (fun c1 => ?_) (fun c1 => ?_)
  · simp only [PP,P1,P2,P3,P4,P5,P6,P7,P8,P9,P10,P11,P12,P13,P14,L1,P15,N1,N2,N3,N4,N5,N6,N7,I1,I2,I3,I4,I5,I6,I7,reduceIte,reduceCtorEq,c1,h2,hasB] at hk ⊢
    exact hk
  · simp only [PP,P1,P2,P3,P4,P5,P6,P7,P8,P9,P10,P11,P12,P13,P14,L1,P15,N1,N2,N3,N4,N5,N6,N7,I1,I2,I3,I4,I5,I6,I7,reduceIte,reduceCtorEq,c1,hasB] at hk ⊢
    exact hk
set_option maxHeartbeats 1000000 in
theorem after_p {M : Mem} {K : PV → Mem → Prop} {f1 o1 f2 o2 f3 o3 f o : Bool} {N : NF} {s : List Int} {x : Nat} (C : NOk N) (B : BnN N) (hs : s.length < big) (hx : x < 256) (hk : K (slI false true .i64 (natI (afM N s x))) M) :
    SemC tab 73 [.agg (nfC f1 o1 f2 o2 f3 o3 N),slI f o .i64 s,p8 x] M K := by
  have n0 := C.n0
  have n64 := C.n64
  have e512 := C.e512
  obtain ⟨n,hn⟩ : ∃ n : Nat,N.n = n := ⟨N.n.toNat,by omega⟩
  refine SemC_pureS T.h73 (by simp only [PP,P1,P2,P3,P4,P5,P6,P7,P8,P9,P10,P11,P12,P13,P14,L1,P15,N1,N2,N3,N4,N5,N6,N7,I1,I2,I3,I4,I5,I6,I7,reduceIte,reduceCtorEq,under_slE,PV.under,egL_und]) ?_
  simp only [af73]
  refine SemW_seq (SemW_of ?_)
  simp only [PP,P1,P2,P3,P4,P5,P6,P7,P8,P9,P10,P11,P12,P13,P14,L1,P15,N1,N2,N3,N4,N5,N6,N7,I1,I2,I3,I4,I5,I6,I7,reduceIte,reduceCtorEq]
  refine SemW_re (GStep.freezeP (b := [Z,slI f o .i64 s,p8 x,.cp (nfC f1 o1 f2 o2 f3 o3 N) 0,Z,Z,Z,Z,Z,Z,Z,Z,Z,Z,Z,Z,Z,Z,Z,Z,Z,Z,Z,Z,Z,Z,Z,Z,Z,Z,Z,Z,Z,Z,Z,Z,Z,Z,Z,Z,Z,Z,Z,Z,Z,Z,Z,Z,Z,Z,Z,Z,Z,Z,Z,Z,Z,Z]) 0 (Nat.zero_le _) rfl (by simp only [PFrzP_nil,PFrzP_junk,PFrzP_same,PFrzP_ptr]) rfl) ?_
  refine SemW_of ?_
  simp only [PP,P1,P2,P3,P4,P5,P6,P7,P8,P9,P10,P11,P12,P13,P14,L1,P15,N1,N2,N3,N4,N5,N6,N7,I1,I2,I3,I4,I5,I6,I7,reduceIte,reduceCtorEq]
  refine SemW_re (GStep.nil 7 1 rfl rfl rfl) ?_
  simp only [ptset,List.set_cons_zero,List.cons_append,List.nil_append,List.length_cons,List.length_nil,Nat.reduceAdd]
  refine loop5 (fun (q g v : Nat) (G : Mem) (acc : List Nat) => q ≤ n ∧ acc = (List.range q).filter (anyE s x N.es)) (fun q g v G acc => [Z,slI f o .i64 s,p8 x,.cp (nfC f1 o1 f2 o2 f3 o3 N) 0,Z,Z,Z,.ref 1 g 1 0 acc.length,p64 q,Z,Z,Z,Z,Z,Z,Z,Z,Z,Z,Z,Z,Z,Z,Z,Z,Z,Z,Z,Z,Z,Z,Z,Z,Z,Z,Z,Z,Z,Z,Z,Z,Z,Z,Z,Z,Z,Z,Z,Z,Z,Z,Z,Z,Z,Z,Z,Z,Z]) (fun q g v G acc => .gone :: .cells g v ((natI acc).map (PV.int .i64)) :: G) (fun q _ _ _ _ => n - q) 0 0 0 [] [] ⟨by omega,rfl⟩ (by simp only [PWeak_nil,PWeak_junk,PWeak_same,Int.cast_ofNat_Int,List.length_append,List.length_cons,List.length_nil,Nat.zero_add]) rfl ?_
  intro q g v G pre ⟨hq,hpre⟩ ih
  refine SemW_go (by kernel_rfl) ?_
  simp only [PP,P1,P2,P3,P4,P5,P6,P7,P8,P9,P10,P11,P12,P13,P14,L1,P15,N1,N2,N3,N4,N5,N6,N7,I1,I2,I3,I4,I5,I6,I7,reduceIte,reduceCtorEq,hn]
  refine QIf.intro (fun c => ?_) (fun c => ?_)
  rotate_left
  · have hqn : q = n := by omega
    subst hqn
    have e : afM N s x = pre := by unfold afM; rw [hn,hpre]; rfl
    rw [e] at hk
    have hfr : frzO (some (.cells g v ((natI pre).map (PV.int .i64)))) g 1 0 pre.length = some (slI false true .i64 (natI pre)) := by
      rw [frzO_cells (by simp) (underL_ints _ _ _),Nat.mul_one,psub_all _ _ (by simp)]
      simp [slI]
    simp only [PP,P1,P2,P3,P4,P5,P6,P7,P8,P9,P10,P11,P12,P13,P14,L1,P15,N1,N2,N3,N4,N5,N6,N7,I1,I2,I3,I4,I5,I6,I7,reduceIte,reduceCtorEq,c,hfr]
    exact hk
  have hqn : q < n := by omega
  have hwq := wrap_succ (k := q) (by show _ < 1000000000000; omega)
  have hprel : pre.length ≤ q := by
    rw [hpre]
    exact Nat.le_trans (List.length_filter_le _ _) (by simp)
  have hnotin : q ∉ pre := by rw [hpre,List.mem_filter,List.mem_range]; omega
  simp only [PP,P1,P2,P3,P4,P5,P6,P7,P8,P9,P10,P11,P12,P13,P14,L1,P15,N1,N2,N3,N4,N5,N6,N7,I1,I2,I3,I4,I5,I6,I7,reduceIte,reduceCtorEq,c]
  refine loop5 (fun (i g v : Nat) (G : Mem) (acc : List Nat) => i ≤ N.es.length ∧ acc = pre ++ if (N.es.take i).any (egP s x q) = true then [q] else []) (fun i g v G acc => [Z,slI f o .i64 s,p8 x,.cp (nfC f1 o1 f2 o2 f3 o3 N) 0,Z,Z,Z,.ref 1 g 1 0 acc.length,p64 q,p64 i,Z,Z,Z,Z,Z,Z,Z,Z,Z,Z,Z,Z,Z,Z,Z,Z,Z,Z,Z,Z,Z,Z,Z,Z,Z,Z,Z,Z,Z,Z,Z,Z,Z,Z,Z,Z,Z,Z,Z,Z,Z,Z,Z,Z,Z,Z,Z,Z]) (fun i g v G acc => .gone :: .cells g v ((natI acc).map (PV.int .i64)) :: G) (fun i _ _ _ _ => N.es.length - i) 0 g v G pre ⟨by omega,by simp⟩ (by simp only [PWeak_nil,PWeak_junk,PWeak_same,Int.cast_ofNat_Int,List.length_append,List.length_cons,List.length_nil,Nat.zero_add]) rfl ?_
  intro i g v G acc ⟨hi,hacc⟩ ih2
  refine SemW_go (by kernel_rfl) ?_
  simp only [PP,P1,P2,P3,P4,P5,P6,P7,P8,P9,P10,P11,P12,P13,P14,L1,P15,N1,N2,N3,N4,N5,N6,N7,I1,I2,I3,I4,I5,I6,I7,reduceIte,reduceCtorEq]
  refine QIf.intro (fun d => ?_) (fun d => ?_)
  rotate_left
  · have hil : i = N.es.length := by omega
    subst hil
    rw [List.take_of_length_le (Nat.le_refl _)] at hacc
    have e : (List.range (q + 1)).filter (anyE s x N.es) = acc := by
      rw [List.range_succ,List.filter_append, ← hpre,hacc]
      congr 1
      cases h : anyE s x N.es q with
      | true =>
        have h' : N.es.any (egP s x q) = true := h
        simp [h,h']
      | false =>
        have h' : N.es.any (egP s x q) = false := h
        simp [h,h']
    simp only [PP,P1,P2,P3,P4,P5,P6,P7,P8,P9,P10,P11,P12,P13,P14,L1,P15,N1,N2,N3,N4,N5,N6,N7,I1,I2,I3,I4,I5,I6,I7,reduceIte,reduceCtorEq,d,hwq]
    exact SemW_weak (ih (q + 1) g v G acc ⟨hqn,e.symm⟩ (by omega)) (by simp only [PWeak_nil,PWeak_junk,PWeak_same,Int.cast_ofNat_Int,List.length_append,List.length_cons,List.length_nil,Nat.zero_add])
  have hi' : i < N.es.length := by omega
  obtain ⟨e,ge⟩ := some_of hi'
  have hwi := wrap_succ (k := i) (by show _ < 1000000000000; omega)
  have i0 : (0 : Int) ≤ i := by omega
  have inn : (i : Int) < N.es.length := by omega
  have h4 := psub_egL ge
  have hl4 : i * 4 + 4 ≤ (egL N.es).length := by rw [egL_len]; exact eg_le ge
  obtain ⟨b1,b2⟩ := B.b e (List.mem_of_getElem? ge)
  have htk : (N.es.take (i + 1)).any (egP s x q) = ((N.es.take i).any (egP s x q) || egP s x q e) := by
    rw [List.take_add_one,ge,List.any_append]; simp
  have skip : egP s x q e = false → acc = pre ++ if (N.es.take (i + 1)).any (egP s x q) = true then [q] else [] := fun h => by rw [htk,h,Bool.or_false]; exact hacc
  simp only [PP,P1,P2,P3,P4,P5,P6,P7,P8,P9,P10,P11,P12,P13,P14,L1,P15,N1,N2,N3,N4,N5,N6,N7,I1,I2,I3,I4,I5,I6,I7,reduceIte,reduceCtorEq,d,i0,inn,h4,hl4,List.append_assoc,gk,gk0,sk,sk0]
  have hal : acc.length ≤ q + 1 := by
    rw [hacc,List.length_append]
    have : (if (N.es.take i).any (egP s x q) = true then [q] else ([] : List Nat)).length ≤ 1 := by split <;> simp
    omega
  refine QIf.intro (fun d1 => ?_) (fun d1 => ?_)
  rotate_left
  · simp only [PP,P1,P2,P3,P4,P5,P6,P7,P8,P9,P10,P11,P12,P13,P14,L1,P15,N1,N2,N3,N4,N5,N6,N7,I1,I2,I3,I4,I5,I6,I7,reduceIte,reduceCtorEq,List.append_assoc,gk,gk0,sk,sk0,d1,hwi]
    exact SemW_weak (ih2 (i + 1) g v _ acc ⟨by omega,skip (by simp [egP,d1])⟩ (by omega)) (by simp only [PWeak_nil,PWeak_junk,PWeak_same,Int.cast_ofNat_Int,List.length_append,List.length_cons,List.length_nil,Nat.zero_add])
  simp only [PP,P1,P2,P3,P4,P5,P6,P7,P8,P9,P10,P11,P12,P13,P14,L1,P15,N1,N2,N3,N4,N5,N6,N7,I1,I2,I3,I4,I5,I6,I7,reduceIte,reduceCtorEq,List.append_assoc,gk,gk0,sk,sk0,d1]
  refine hasInt_p T hs ?_
  by_cases d2 : e.fr ∈ s
  rotate_left
  · simp only [PP,P1,P2,P3,P4,P5,P6,P7,P8,P9,P10,P11,P12,P13,P14,L1,P15,N1,N2,N3,N4,N5,N6,N7,I1,I2,I3,I4,I5,I6,I7,reduceIte,reduceCtorEq,List.append_assoc,gk,gk0,sk,sk0,d2,hwi]
    exact SemW_weak (ih2 (i + 1) g v _ acc ⟨by omega,skip (by simp [egP,d2])⟩ (by omega)) (by simp only [PWeak_nil,PWeak_junk,PWeak_same,Int.cast_ofNat_Int,List.length_append,List.length_cons,List.length_nil,Nat.zero_add])
  simp only [PP,P1,P2,P3,P4,P5,P6,P7,P8,P9,P10,P11,P12,P13,P14,L1,P15,N1,N2,N3,N4,N5,N6,N7,I1,I2,I3,I4,I5,I6,I7,reduceIte,reduceCtorEq,List.append_assoc,gk,gk0,sk,sk0,d2]
  refine letter_p T b1 b2 hx ?_
  cases d3 : hasB e.ps e.ng x with
  | false =>
    simp only [PP,P1,P2,P3,P4,P5,P6,P7,P8,P9,P10,P11,P12,P13,P14,L1,P15,N1,N2,N3,N4,N5,N6,N7,I1,I2,I3,I4,I5,I6,I7,reduceIte,reduceCtorEq,List.append_assoc,gk,gk0,sk,sk0,hwi]
    exact SemW_weak (ih2 (i + 1) g v _ acc ⟨by omega,skip (by simp [egP,d3])⟩ (by omega)) (by simp only [PWeak_nil,PWeak_junk,PWeak_same,Int.cast_ofNat_Int,List.length_append,List.length_cons,List.length_nil,Nat.zero_add])
  | true =>
    have htrue : egP s x q e = true := by simp [egP,d1,d2,d3]
    simp only [PP,P1,P2,P3,P4,P5,P6,P7,P8,P9,P10,P11,P12,P13,P14,L1,P15,N1,N2,N3,N4,N5,N6,N7,I1,I2,I3,I4,I5,I6,I7,reduceIte,reduceCtorEq,List.append_assoc,gk,gk0,sk,sk0]
    refine SemC_bor (.ints rfl (List.length_map _) (.same rfl .nil)) (hasInt_p T (by show _ < 1000000000000; rw [List.length_map]; omega) ⟨rfl, ?_⟩)
    have hmem : ((q : Int) ∈ natI acc) ↔ q ∈ acc := by
      rw [List.mem_map]
      exact ⟨fun ⟨y,hy,e⟩ => by rw [show q = y by omega]; exact hy,fun h => ⟨q,h,rfl⟩⟩
    by_cases d4 : q ∈ acc
    · have hany : (N.es.take i).any (egP s x q) = true := by
        refine Classical.byContradiction fun hno => ?_
        rw [hacc,if_neg hno,List.append_nil] at d4
        exact hnotin d4
      simp only [PP,P1,P2,P3,P4,P5,P6,P7,P8,P9,P10,P11,P12,P13,P14,L1,P15,N1,N2,N3,N4,N5,N6,N7,I1,I2,I3,I4,I5,I6,I7,reduceIte,reduceCtorEq,List.append_assoc,gk,gk0,sk,sk0,hmem,d4,hwi]
      exact SemW_weak (ih2 (i + 1) g v _ acc ⟨by omega,by rw [htk,hany,Bool.true_or,hacc,hany]⟩ (by omega)) (by simp only [PWeak_nil,PWeak_junk,PWeak_same,Int.cast_ofNat_Int,List.length_append,List.length_cons,List.length_nil,Nat.zero_add])
    · have hany : ¬ (N.es.take i).any (egP s x q) = true := fun h => d4 (by rw [hacc,if_pos h]; simp)
      rw [if_neg hany,List.append_nil] at hacc
      have b8 : (acc.length + 1) * 8 ≤ 140737488355328 := by omega
      have b1 : acc.length + 1 ≤ 9223372036854775807 := by omega
      have hps : psub ((natI acc).map (PV.int .i64)) 0 acc.length = (natI acc).map (PV.int .i64) := psub_all _ _ (by simp)
      simp only [PP,P1,P2,P3,P4,P5,P6,P7,P8,P9,P10,P11,P12,P13,P14,L1,P15,N1,N2,N3,N4,N5,N6,N7,I1,I2,I3,I4,I5,I6,I7,reduceIte,reduceCtorEq,List.append_assoc,gk,gk0,sk,sk0,hmem,d4,b8,b1,hps,hwi]
      refine SemW_to (ih2 (i + 1) (g + 1) 0 (G ++ [.cells 0 1 [p64 e.fr,p64 q,p8 e.ps,p8 e.ng]]) (acc ++ [q]) ⟨by omega, ?_⟩ (by omega)) (by simp only [PWeak_nil,PWeak_junk,PWeak_same,Int.cast_ofNat_Int,List.length_append,List.length_cons,List.length_nil,Nat.zero_add]) ?_
      · rw [htk,htrue,Bool.or_true,if_pos rfl,hacc]
      · simp only [List.map_append,List.map_cons,List.map_nil]
end
end Go.Am.Ar

