/- Contracts: slices.Sort of up to 13 numbers: its parts, and what goes with it. -/
import Derived.Test.YtgapkfaikhlipaaImproveMonotoneG1
import Derived.Test.YtgapkfaikhlipaaPmC
import Derived.Test.YtgapkfaikhlipaaImproveMonotoneG0
set_option linter.unusedVariables false
set_option linter.unusedSimpArgs false
set_option maxRecDepth 10000
namespace Go.Am.Ar
open Go.Am.PV renaming junk → Z
open Go.Am renaming pchk → P1,pold → P2,PKNo → P3,ppack → P4,PObj.under → P5,pput → P6,ptset → P7,ptget → P8,pev → P9,ofAV → P10,ofAV1 → P11,ppad → P12,pfill → P13,prepl → P14,AO.effect → P15
open List renaming replicate → L1
open Nat renaming reduceAdd → N1,reduceSub → N2,reduceMul → N3,reduceLT → N4,reduceLeDiff → N5,reduceEqDiff → N6,reduceBEq → N7
open Int renaming reduceToNat → I1,reduceLT → I2,reduceLE → I3,reduceEq → I4,reduceAdd → I5,reduceSub → I6,reduceNeg → I7
theorem swap_perm {l : List Int} {i j : Nat} {x y : Int} (h1 : l[i]? = some x) (h2 : l[j]? = some y) : ((l.set i y).set j x).Perm l := by
  obtain ⟨h3,rfl⟩ := List.getElem?_eq_some_iff.1 h1
  obtain ⟨h4,rfl⟩ := List.getElem?_eq_some_iff.1 h2
  exact List.set_set_perm h3 h4
theorem swap_get {l : List Int} {i j : Nat} {x y : Int} (h1 : l[i]? = some x) (h2 : l[j]? = some y) (k : Nat) : ((l.set i y).set j x)[k]? = if k = j then some x else if k = i then some y else l[k]? := by
  have h3 := getSome_lt h1
  have h4 := getSome_lt h2
  rw [List.getElem?_set,List.length_set]
  by_cases e : j = k
  · subst e; rw [if_pos rfl,if_pos h4,if_pos rfl]
  · rw [if_neg e,if_neg (fun q => e q.symm),List.getElem?_set]
    by_cases e2 : i = k
    · subst e2; rw [if_pos rfl,if_pos h3,if_pos rfl]
    · rw [if_neg e2,if_neg (fun q => e2 q.symm)]
def cat3 (p x q : List Int) : List Int := p ++ (x ++ q)
section
variable {tab : FuncId → Option AF} (T : HasA tab)
include T
set_option maxHeartbeats 1000000 in
theorem isortR_p {K : PV → Mem → Prop} {g v n : Nat} {p s q : List Int} {ea eb : Int} (hn : p.length + s.length + q.length = n) (hb : n < 1000000000000) (ha : ea = p.length) (hbb : eb = ((p.length + s.length : Nat) : Int)) (hk : ∀ (v' : Nat) (s' : List Int),s'.Perm s → s'.Pairwise (· ≤ ·) → K (.tuple []) [.cells g v' ((cat3 p s' q).map p64)]) :
    SemC tab 97 [.ref 0 g 1 0 n,p64 ea,p64 eb] [.cells g v ((cat3 p s q).map p64)] K := by
  subst ha hbb
  refine SemC_fn T.h97 ?_
  have w1 : IntKind.i64.wrap ((p.length : Int) + 1) = ((p.length + 1 : Nat) : Int) := wrap_succ (by show _ < 1000000000000; omega)
  simp only [af97,PP,P1,P2,P3,P4,P5,P6,P7,P8,P9,P10,P11,P12,P13,P14,L1,P15,N1,N2,N3,N4,N5,N6,N7,I1,I2,I3,I4,I5,I6,I7,reduceIte,reduceCtorEq,w1]
  refine loop3 (fun (i v : Nat) (x : List Int) => 1 ≤ i ∧ x.Perm s ∧ (x.take i).Pairwise (· ≤ ·)) (fun i v x => [.ref 0 g 1 0 n,p64 p.length,p64 ((p.length + s.length : Nat) : Int),Z,Z,Z,p64 ((p.length + i : Nat) : Int),Z,Z,Z,Z,Z,Z,Z,Z,Z,Z,Z,Z,Z,Z,Z,Z,Z,Z,Z,Z,Z,Z,Z,Z,Z,Z,Z,Z,Z,Z,Z,Z,Z,Z,Z,Z,Z,Z,Z,Z,Z,Z]) (fun i v x => [.cells g v ((cat3 p x q).map p64)]) (fun i _ _ => s.length - i) 1 v s ⟨by omega,.refl _,by match s with | [] => simp | [a] => simp | a :: b :: c => simp⟩ (by simp only [PWeak_nil,PWeak_junk,PWeak_same,Int.cast_ofNat_Int,List.length_append,List.length_cons,List.length_nil,Nat.zero_add]) (by rfl) ?_
  intro i v x ⟨hi,hp,hs⟩ ih
  have hxl : x.length = s.length := hp.length_eq
  refine SemW_go (by kernel_rfl) ?_
  simp only [PP,P1,P2,P3,P4,P5,P6,P7,P8,P9,P10,P11,P12,P13,P14,L1,P15,N1,N2,N3,N4,N5,N6,N7,I1,I2,I3,I4,I5,I6,I7,reduceIte,reduceCtorEq]
  refine QIf.intro (fun c => ?_) (fun c => ?_)
  rotate_left
  · rw [List.take_of_length_le (by omega)] at hs
    simp only [PP,P1,P2,P3,P4,P5,P6,P7,P8,P9,P10,P11,P12,P13,P14,L1,P15,N1,N2,N3,N4,N5,N6,N7,I1,I2,I3,I4,I5,I6,I7,reduceIte,reduceCtorEq,c]
    exact hk v x hp hs
  have hi' : i < s.length := by omega
  have hwi : IntKind.i64.wrap (((p.length + i : Nat) : Int) + 1) = ((p.length + (i + 1) : Nat) : Int) := wrap_succ (k := p.length + i) (by show _ < 1000000000000; omega)
  simp only [PP,P1,P2,P3,P4,P5,P6,P7,P8,P9,P10,P11,P12,P13,P14,L1,P15,N1,N2,N3,N4,N5,N6,N7,I1,I2,I3,I4,I5,I6,I7,reduceIte,reduceCtorEq,c]
  obtain ⟨y0,gy0⟩ := some_of (xs := x) (k := i) (by omega)
  have hx0 : x.take i ++ y0 :: ([] ++ x.drop (i + 1)) = x := by
    have h2 := (List.getElem?_eq_some_iff.1 gy0).2
    have h3 := (List.getElem?_eq_some_iff.1 gy0).1
    conv => rhs; rw [← List.take_append_drop i x,List.drop_eq_getElem_cons h3,h2]
    simp
  have hti : (x.take i).length = i := by simp; omega
  refine loop5 (fun (v : Nat) (a : List Int) (y : Int) (b c : List Int) => (a ++ y :: (b ++ c)).Perm s ∧ a.length + b.length = i ∧ (a ++ b).Pairwise (· ≤ ·) ∧ ∀ z ∈ b,y ≤ z) (fun v a y b c => [.ref 0 g 1 0 n,p64 p.length,p64 ((p.length + s.length : Nat) : Int),Z,Z,Z,p64 ((p.length + i : Nat) : Int),p64 ((p.length + a.length : Nat) : Int),Z,Z,Z,Z,Z,Z,Z,Z,Z,Z,Z,Z,Z,Z,Z,Z,Z,Z,Z,Z,Z,Z,Z,Z,Z,Z,Z,Z,Z,Z,Z,Z,Z,Z,Z,Z,Z,Z,Z,Z,Z]) (fun v a y b c => [.cells g v ((cat3 p (a ++ y :: (b ++ c)) q).map p64)]) (fun _ a _ _ _ => a.length) v (x.take i) y0 [] (x.drop (i + 1)) ⟨by rw [hx0]; exact hp,by simp; omega,by simpa using hs,fun z hz => by cases hz⟩ (by rw [hti]; exact by simp only [PWeak_nil,PWeak_junk,PWeak_same,Int.cast_ofNat_Int,List.length_append,List.length_cons,List.length_nil,Nat.zero_add]) (by rw [hx0]) ?_
  intro v a y b c' ⟨hp2,hl2,hs2,hb2⟩ ih2
  have hlen := hp2.length_eq
  simp only [List.length_append,List.length_cons] at hlen
  have out : (∀ z ∈ a,z ≤ y) → ((a ++ y :: (b ++ c')).take (i + 1)).Pairwise (· ≤ ·) := fun h => by
    have e : (a ++ y :: (b ++ c')).take (i + 1) = a ++ y :: b := by
      rw [show a ++ y :: (b ++ c') = (a ++ y :: b) ++ c' by simp,List.take_left' (by simp; omega)]
    rw [e]
    rw [List.pairwise_append] at hs2 ⊢
    refine ⟨hs2.1,List.pairwise_cons.2 ⟨hb2,hs2.2.1⟩,fun p hp q hq => ?_⟩
    rcases List.mem_cons.1 hq with rfl | hq
    · exact h p hp
    · exact hs2.2.2 p hp q hq
  rcases List.eq_nil_or_concat a with rfl | ⟨a,z,rfl⟩
  · refine SemW_go (by kernel_rfl) ?_
    have lir : ¬ ((p.length : Int) < ((p.length + ([] : List Int).length : Nat) : Int)) := by simp
    simp only [PP,P1,P2,P3,P4,P5,P6,P7,P8,P9,P10,P11,P12,P13,P14,L1,P15,N1,N2,N3,N4,N5,N6,N7,I1,I2,I3,I4,I5,I6,I7,reduceIte,reduceCtorEq,lir,Int.lt_irrefl,hwi]
    exact SemW_to (ih (i + 1) v (y :: (b ++ c')) ⟨by omega,hp2,out (by simp)⟩ (by omega)) (by simp only [PWeak_nil,PWeak_junk,PWeak_same,Int.cast_ofNat_Int,List.length_append,List.length_cons,List.length_nil,Nat.zero_add]) (by simp)
  · simp only [List.concat_eq_append] at *
    obtain ⟨X,hX⟩ : ∃ X,X = cat3 p ((a ++ [z]) ++ y :: (b ++ c')) q := ⟨_,rfl⟩
    obtain ⟨j,hj⟩ : ∃ j,j = p.length + a.length := ⟨_,rfl⟩
    have hjl : p.length + (a ++ [z]).length = j + 1 := by simp [hj]; omega
    have hX2 : X = (p ++ a) ++ z :: y :: (b ++ c' ++ q) := by rw [hX]; simp [cat3]
    have e1 : X[j]? = some z := by rw [hX2,hj,show p.length + a.length = (p ++ a).length by simp,List.getElem?_append_right (by omega),Nat.sub_self]; rfl
    have e2 : X[j + 1]? = some y := by rw [hX2,hj,show p.length + a.length + 1 = (p ++ a).length + 1 by simp,List.getElem?_append_right (by omega),Nat.add_sub_cancel_left]; rfl
    have hXl : X.length = n := by rw [hX2]; simp at hlen ⊢; omega
    have hjn : j + 1 < n := by have := getSome_lt e2; omega
    have hpj : (p.length : Int) < ((j + 1 : Nat) : Int) := by omega
    have m1 : (X.map p64)[j]? = some (p64 z) := by rw [List.getElem?_map,e1]; rfl
    have m2 : (X.map p64)[j + 1]? = some (p64 y) := by rw [List.getElem?_map,e2]; rfl
    have q1 : (0 : Int) ≤ ((j + 1 : Nat) : Int) := by omega
    have q2 : ((j + 1 : Nat) : Int) < n := by omega
    have q3 : (0 : Int) ≤ (j : Int) := by omega
    have q4 : (j : Int) < n := by omega
    have w2 : IntKind.i64.wrap (((j + 1 : Nat) : Int) - 1) = (j : Int) := by rw [wrap64 (by omega) (by omega)]; omega
    rw [← hX,hjl]
    refine SemW_go (by kernel_rfl) ?_
    simp only [PP,P1,P2,P3,P4,P5,P6,P7,P8,P9,P10,P11,P12,P13,P14,L1,P15,N1,N2,N3,N4,N5,N6,N7,I1,I2,I3,I4,I5,I6,I7,reduceIte,reduceCtorEq,hpj,q1,q2,q3,q4,w2,m1,m2,e1,e2]
    refine less13_p T ?_
    simp only [PP,P1,P2,P3,P4,P5,P6,P7,P8,P9,P10,P11,P12,P13,P14,L1,P15,N1,N2,N3,N4,N5,N6,N7,I1,I2,I3,I4,I5,I6,I7,reduceIte,reduceCtorEq]
    refine QIf.intro (fun d => ?_) (fun d => ?_)
    · simp only [PP,P1,P2,P3,P4,P5,P6,P7,P8,P9,P10,P11,P12,P13,P14,L1,P15,N1,N2,N3,N4,N5,N6,N7,I1,I2,I3,I4,I5,I6,I7,reduceIte,reduceCtorEq,d,q1,q2,q3,q4,w2,m1,m2,e1,e2]
      have hmem : ((X.set (j + 1) z).set j y) = cat3 p (a ++ y :: (z :: b ++ c')) q := by
        rw [hX2,hj]
        rw [show p.length + a.length = (p ++ a).length by simp]
        rw [List.set_append_right _ _ (by omega),Nat.add_sub_cancel_left]
        rw [List.set_append_right _ _ (by omega),Nat.sub_self]
        simp [cat3]
      subst hj
      refine ⟨by omega,by omega,SemW_to (ih2 (v + 1 + 1) a y (z :: b) c' ⟨(List.Perm.append_left a (List.Perm.swap z y _)).trans (by simpa using hp2),by simp at hl2 ⊢; omega,by simpa using hs2,fun w hw => ?_⟩ (by simp)) (by simp only [PWeak_nil,PWeak_junk,PWeak_same,Int.cast_ofNat_Int,List.length_append,List.length_cons,List.length_nil,Nat.zero_add]) (by rw [← hmem,List.map_set,List.map_set])⟩
      rcases List.mem_cons.1 hw with rfl | hw
      · omega
      · exact hb2 w hw
    · simp only [PP,P1,P2,P3,P4,P5,P6,P7,P8,P9,P10,P11,P12,P13,P14,L1,P15,N1,N2,N3,N4,N5,N6,N7,I1,I2,I3,I4,I5,I6,I7,reduceIte,reduceCtorEq,d,hwi]
      have hw0 : ∀ w ∈ a ++ [z],w ≤ y := fun w hw => by
        rcases List.mem_append.1 hw with hw | hw
        · have h1 := (List.pairwise_append.1 (List.pairwise_append.1 hs2).1).2.2 w hw z (by simp)
          omega
        · rw [List.mem_singleton] at hw; omega
      exact SemW_to (ih (i + 1) v ((a ++ [z]) ++ y :: (b ++ c')) ⟨by omega,hp2,out hw0⟩ (by omega)) (by simp only [PWeak_nil,PWeak_junk,PWeak_same,Int.cast_ofNat_Int,List.length_append,List.length_cons,List.length_nil,Nat.zero_add]) (by rw [hX])
end
end Go.Am.Ar
set_option linter.unusedVariables false
set_option linter.unusedSimpArgs false
set_option maxRecDepth 10000
namespace Go.Am.Ar
open Go.Am.PV renaming junk → Z
open Go.Am renaming pchk → P1,pold → P2,PKNo → P3,ppack → P4,PObj.under → P5,pput → P6,ptset → P7,ptget → P8,pev → P9,ofAV → P10,ofAV1 → P11,ppad → P12,pfill → P13,prepl → P14,AO.effect → P15
open List renaming replicate → L1
open Nat renaming reduceAdd → N1,reduceSub → N2,reduceMul → N3,reduceLT → N4,reduceLeDiff → N5,reduceEqDiff → N6,reduceBEq → N7
open Int renaming reduceToNat → I1,reduceLT → I2,reduceLE → I3,reduceEq → I4,reduceAdd → I5,reduceSub → I6,reduceNeg → I7
section
variable {tab : FuncId → Option AF} (T : HasA tab)
include T
theorem order2_p {K : PV → Mem → Prop} {f o : Bool} {l : List Int} {ver : Nat} {s a b : Int} (s0 : 0 ≤ s) (s1 : s < 100) (a0 : 0 ≤ a) (a1 : a < l.length) (b0 : 0 ≤ b) (b1 : b < l.length)
    (hk : ∀ (ver' : Nat) (s' a' b' : Int),0 ≤ s' → s' ≤ s + 1 → 0 ≤ a' → a' < l.length → 0 ≤ b' → b' < l.length → K (.tuple [p64 a',p64 b']) [.cells 0 ver' [p64 s']]) :
    SemC tab 119 [slI f o .i64 l,p64 a,p64 b,.ptr 0 0 0] [.cells 0 ver [p64 s]] K := by
  refine SemC_fn T.h119 ?_
  obtain ⟨x,gx⟩ := some_of (xs := l) (k := a.toNat) (by omega)
  obtain ⟨y,gy⟩ := some_of (xs := l) (k := b.toNat) (by omega)
  have hw : IntKind.i64.wrap (s + 1) = s + 1 := wrap64 (by omega) (by omega)
  simp only [af119,PP,P1,P2,P3,P4,P5,P6,P7,P8,P9,P10,P11,P12,P13,P14,L1,P15,N1,N2,N3,N4,N5,N6,N7,I1,I2,I3,I4,I5,I6,I7,reduceIte,reduceCtorEq,a0,a1,b0,b1,gx,gy]
  refine less13_p T ?_
  simp only [PP,P1,P2,P3,P4,P5,P6,P7,P8,P9,P10,P11,P12,P13,P14,L1,P15,N1,N2,N3,N4,N5,N6,N7,I1,I2,I3,I4,I5,I6,I7,reduceIte,reduceCtorEq]
  refine QIf.intro (fun c => ?_) (fun c => ?_)
  · simp only [PP,P1,P2,P3,P4,P5,P6,P7,P8,P9,P10,P11,P12,P13,P14,L1,P15,N1,N2,N3,N4,N5,N6,N7,I1,I2,I3,I4,I5,I6,I7,reduceIte,reduceCtorEq,c,hw]
    exact hk _ _ _ _ (by omega) (by omega) b0 b1 a0 a1
  · simp only [PP,P1,P2,P3,P4,P5,P6,P7,P8,P9,P10,P11,P12,P13,P14,L1,P15,N1,N2,N3,N4,N5,N6,N7,I1,I2,I3,I4,I5,I6,I7,reduceIte,reduceCtorEq,c]
    exact hk _ _ _ _ (by omega) (by omega) a0 a1 b0 b1
theorem median_p {K : PV → Mem → Prop} {f o : Bool} {l : List Int} {ver : Nat} {s a b c : Int} (s0 : 0 ≤ s) (s1 : s < 90) (a0 : 0 ≤ a) (a1 : a < l.length) (b0 : 0 ≤ b) (b1 : b < l.length) (c0 : 0 ≤ c) (c1 : c < l.length)
    (hk : ∀ (ver' : Nat) (s' a' : Int),0 ≤ s' → s' ≤ s + 3 → 0 ≤ a' → a' < l.length → K (p64 a') [.cells 0 ver' [p64 s']]) :
    SemC tab 114 [slI f o .i64 l,p64 a,p64 b,p64 c,.ptr 0 0 0] [.cells 0 ver [p64 s]] K := by
  refine SemC_fn T.h114 ?_
  simp only [af114,PP,P1,P2,P3,P4,P5,P6,P7,P8,P9,P10,P11,P12,P13,P14,L1,P15,N1,N2,N3,N4,N5,N6,N7,I1,I2,I3,I4,I5,I6,I7,reduceIte,reduceCtorEq]
  refine order2_p T s0 (by omega) a0 a1 b0 b1 fun v1 s2 a2 b2 h1 h2 h3 h4 h5 h6 => ?_
  simp only [PP,P1,P2,P3,P4,P5,P6,P7,P8,P9,P10,P11,P12,P13,P14,L1,P15,N1,N2,N3,N4,N5,N6,N7,I1,I2,I3,I4,I5,I6,I7,reduceIte,reduceCtorEq]
  refine order2_p T h1 (by omega) h5 h6 c0 c1 fun v2 s3 b3 c3 g1 g2 g3 g4 g5 g6 => ?_
  simp only [PP,P1,P2,P3,P4,P5,P6,P7,P8,P9,P10,P11,P12,P13,P14,L1,P15,N1,N2,N3,N4,N5,N6,N7,I1,I2,I3,I4,I5,I6,I7,reduceIte,reduceCtorEq]
  refine order2_p T g1 (by omega) h3 h4 g3 g4 fun v3 s4 a4 b4 k1 k2 k3 k4 k5 k6 => ?_
  simp only [PP,P1,P2,P3,P4,P5,P6,P7,P8,P9,P10,P11,P12,P13,P14,L1,P15,N1,N2,N3,N4,N5,N6,N7,I1,I2,I3,I4,I5,I6,I7,reduceIte,reduceCtorEq]
  exact hk _ _ _ (by omega) (by omega) k5 k6
theorem pivot_p {M : Mem} {K : PV → Mem → Prop} {f o : Bool} {l : List Int} (hl : l.length = 13)
    (hk : ∀ (a h : Int),0 ≤ a → a < 13 → (h = 0 ∨ h = 1) → K (.tuple [p64 a,p64 h]) M) :
    SemC tab 100 [slI f o .i64 l,p64 0,p64 13] M K := by
  refine SemC_pure T.h100 (by simp only [PP,P1,P2,P3,P4,P5,P6,P7,P8,P9,P10,P11,P12,P13,P14,L1,P15,N1,N2,N3,N4,N5,N6,N7,I1,I2,I3,I4,I5,I6,I7,reduceIte,reduceCtorEq]) ?_
  have w0 : IntKind.i64.wrap 13 = 13 := by decide
  have q0 : (13 : Int).tdiv 4 = 3 := by decide
  have w1 : IntKind.i64.wrap 3 = 3 := by decide
  have w2 : IntKind.i64.wrap 6 = 6 := by decide
  have w3 : IntKind.i64.wrap 9 = 9 := by decide
  have hq : ∀ x : Int,pbin .quo (.int .i64 x) (.int .i64 4) = some (.int .i64 (IntKind.i64.wrap (x.tdiv 4))) := fun x => pbin_quo _ _ _ (by decide)
  simp only [af100,PP,P1,P2,P3,P4,P5,P6,P7,P8,P9,P10,P11,P12,P13,P14,L1,P15,N1,N2,N3,N4,N5,N6,N7,I1,I2,I3,I4,I5,I6,I7,reduceIte,reduceCtorEq,w0,hq,q0,w1,w2,w3,Int.reduceMul,Int.reduceSub,Int.reduceAdd]
  refine median_p T (by omega) (by omega) (by omega) (by omega) (by omega) (by omega) (by omega) (by omega) fun v s a h1 h2 h3 h4 => ?_
  have n12 : ¬ s = 12 := by omega
  simp only [PP,P1,P2,P3,P4,P5,P6,P7,P8,P9,P10,P11,P12,P13,P14,L1,P15,N1,N2,N3,N4,N5,N6,N7,I1,I2,I3,I4,I5,I6,I7,reduceIte,reduceCtorEq,n12]
  refine QIf.intro (fun c => ?_) (fun c => ?_)
  · simp only [PP,P1,P2,P3,P4,P5,P6,P7,P8,P9,P10,P11,P12,P13,P14,L1,P15,N1,N2,N3,N4,N5,N6,N7,I1,I2,I3,I4,I5,I6,I7,reduceIte,reduceCtorEq,c]
    exact hk _ _ h3 (by omega) (.inr rfl)
  · simp only [PP,P1,P2,P3,P4,P5,P6,P7,P8,P9,P10,P11,P12,P13,P14,L1,P15,N1,N2,N3,N4,N5,N6,N7,I1,I2,I3,I4,I5,I6,I7,reduceIte,reduceCtorEq,c,n12]
    exact hk _ _ h3 (by omega) (.inl rfl)
theorem partial_p {M : Mem} {K : PV → Mem → Prop} {f o : Bool} {l : List Int} {n : Nat} (hl : l.length = n) (h50 : n < 50) (hn : 0 < n)
    (hk : ∀ r : Bool,(r = true → l.Pairwise (· ≤ ·)) → K (.bool r) M) :
    SemC tab 102 [slI f o .i64 l,p64 0,p64 n] M K := by
  refine SemC_pure T.h102 (by simp only [PP,P1,P2,P3,P4,P5,P6,P7,P8,P9,P10,P11,P12,P13,P14,L1,P15,N1,N2,N3,N4,N5,N6,N7,I1,I2,I3,I4,I5,I6,I7,reduceIte,reduceCtorEq]) ?_
  have w1 : IntKind.i64.wrap 1 = ((1 : Nat) : Int) := rfl
  have w0 : IntKind.i64.wrap ((n : Int) - 0) = n := by rw [wrap64 (by omega) (by omega)]; omega
  simp only [af102,PP,P1,P2,P3,P4,P5,P6,P7,P8,P9,P10,P11,P12,P13,P14,L1,P15,N1,N2,N3,N4,N5,N6,N7,I1,I2,I3,I4,I5,I6,I7,reduceIte,reduceCtorEq,w1]
  refine loop1 (fun (k : Nat) => True) (fun k => [slI f o .i64 l,p64 0,p64 n,Z,Z,Z,Z,p64 1,p64 0,Z,Z,Z,Z,Z,Z,Z,Z,Z,Z,Z,Z,Z,Z,Z,Z,Z,Z,Z,Z,Z,Z,Z,Z,Z,Z,Z,Z,Z,Z,Z,Z,Z,Z,Z,Z,Z,Z,Z,Z,Z,Z,Z,Z,Z,Z,Z,Z,Z,Z,Z,Z,Z,Z,Z,Z,Z,Z,Z,Z,Z,Z,Z,Z,Z,Z,Z,Z,Z,Z,Z,Z,Z,Z,Z,Z,Z,Z,Z,Z,Z,Z,Z,Z,Z,Z,Z,Z,Z,Z,Z,Z,Z,Z,Z,Z,Z,Z,Z,Z,Z,Z,Z,Z,Z,Z,Z,Z,Z,Z,Z,Z,Z,Z,Z,Z,Z,Z,Z,Z,Z,Z,Z,Z]) (fun _ => []) (fun k => 0) 0 trivial (by simp only [PWeak_nil,PWeak_junk,PWeak_same,Int.cast_ofNat_Int,List.length_append,List.length_cons,List.length_nil,Nat.zero_add]) rfl ?_
  intro _ _ _
  refine SemW_go (by kernel_rfl) ?_
  simp only [PP,P1,P2,P3,P4,P5,P6,P7,P8,P9,P10,P11,P12,P13,P14,L1,P15,N1,N2,N3,N4,N5,N6,N7,I1,I2,I3,I4,I5,I6,I7,reduceIte,reduceCtorEq]
  refine loop1 (fun (i : Nat) => 1 ≤ i ∧ i ≤ n ∧ (l.take i).Pairwise (· ≤ ·)) (fun i => [slI f o .i64 l,p64 0,p64 n,Z,Z,Z,Z,p64 i,p64 0,Z,Z,Z,Z,Z,Z,Z,Z,Z,Z,Z,Z,Z,Z,Z,Z,Z,Z,Z,Z,Z,Z,Z,Z,Z,Z,Z,Z,Z,Z,Z,Z,Z,Z,Z,Z,Z,Z,Z,Z,Z,Z,Z,Z,Z,Z,Z,Z,Z,Z,Z,Z,Z,Z,Z,Z,Z,Z,Z,Z,Z,Z,Z,Z,Z,Z,Z,Z,Z,Z,Z,Z,Z,Z,Z,Z,Z,Z,Z,Z,Z,Z,Z,Z,Z,Z,Z,Z,Z,Z,Z,Z,Z,Z,Z,Z,Z,Z,Z,Z,Z,Z,Z,Z,Z,Z,Z,Z,Z,Z,Z,Z,Z,Z,Z,Z,Z,Z,Z,Z,Z,Z,Z,Z]) (fun _ => []) (fun i => n - i) 1 ⟨by omega,by omega,by match l with | [] => simp | [a] => simp | a :: b :: c => simp⟩ (by simp only [PWeak_nil,PWeak_junk,PWeak_same,Int.cast_ofNat_Int,List.length_append,List.length_cons,List.length_nil,Nat.zero_add]) rfl ?_
  intro i ⟨hi,hin,hs⟩ ih
  refine SemW_go (by kernel_rfl) ?_
  simp only [PP,P1,P2,P3,P4,P5,P6,P7,P8,P9,P10,P11,P12,P13,P14,L1,P15,N1,N2,N3,N4,N5,N6,N7,I1,I2,I3,I4,I5,I6,I7,reduceIte,reduceCtorEq]
  refine QIf.intro (fun c => ?_) (fun c => ?_)
  · have hi' : i < n := by omega
    obtain ⟨x,gx⟩ := some_of (xs := l) (k := i) (by omega)
    obtain ⟨y,gy⟩ := some_of (xs := l) (k := i - 1) (by omega)
    have i0 : (0 : Int) ≤ i := by omega
    have i1 : (i : Int) < l.length := by omega
    have wi : IntKind.i64.wrap ((i : Int) - 1) = ((i - 1 : Nat) : Int) := by rw [wrap64 (by omega) (by omega)]; omega
    have j0 : (0 : Int) ≤ ((i - 1 : Nat) : Int) := by omega
    have j1 : ((i - 1 : Nat) : Int) < l.length := by omega
    have hwi := wrap_succ (k := i) (by show _ < 1000000000000; omega)
    simp only [PP,P1,P2,P3,P4,P5,P6,P7,P8,P9,P10,P11,P12,P13,P14,L1,P15,N1,N2,N3,N4,N5,N6,N7,I1,I2,I3,I4,I5,I6,I7,reduceIte,reduceCtorEq,c,gx,gy,i0,i1,wi,j0,j1]
    refine less13_p T ?_
    simp only [PP,P1,P2,P3,P4,P5,P6,P7,P8,P9,P10,P11,P12,P13,P14,L1,P15,N1,N2,N3,N4,N5,N6,N7,I1,I2,I3,I4,I5,I6,I7,reduceIte,reduceCtorEq]
    by_cases d : x < y
    · have nin : ¬ (i : Int) = n := by omega
      have l50 : (n : Int) < 50 := by omega
      simp only [PP,P1,P2,P3,P4,P5,P6,P7,P8,P9,P10,P11,P12,P13,P14,L1,P15,N1,N2,N3,N4,N5,N6,N7,I1,I2,I3,I4,I5,I6,I7,reduceIte,reduceCtorEq,d,nin,w0,l50]
      exact hk false (fun h => by cases h)
    · simp only [PP,P1,P2,P3,P4,P5,P6,P7,P8,P9,P10,P11,P12,P13,P14,L1,P15,N1,N2,N3,N4,N5,N6,N7,I1,I2,I3,I4,I5,I6,I7,reduceIte,reduceCtorEq,d,hwi]
      refine SemW_weak (ih (i + 1) ⟨by omega,by omega, ?_⟩ (by omega)) (by simp only [PWeak_nil,PWeak_junk,PWeak_same,Int.cast_ofNat_Int,List.length_append,List.length_cons,List.length_nil,Nat.zero_add])
      rw [take_some gx,List.pairwise_append]
      refine ⟨hs,by simp,fun a ha b hb => ?_⟩
      rw [List.mem_singleton] at hb
      subst hb
      obtain ⟨m,hm⟩ := List.getElem?_of_mem ha
      have hm2 := getSome_lt hm
      rw [List.length_take] at hm2
      by_cases e : m = i - 1
      · subst e
        rw [List.getElem?_take,if_pos (by omega),gy] at hm
        cases hm; omega
      · have gy2 : (l.take i)[i - 1]? = some y := by rw [List.getElem?_take,if_pos (by omega),gy]
        have h1 := List.pairwise_iff_getElem.1 hs m (i - 1) (getSome_lt hm) (getSome_lt gy2) (by omega)
        have h2 := (List.getElem?_eq_some_iff.1 hm).2
        have h3 := (List.getElem?_eq_some_iff.1 gy2).2
        rw [h2,h3] at h1
        omega
  · have e : i = n := by omega
    subst e
    rw [List.take_of_length_le (by omega)] at hs
    simp only [PP,P1,P2,P3,P4,P5,P6,P7,P8,P9,P10,P11,P12,P13,P14,L1,P15,N1,N2,N3,N4,N5,N6,N7,I1,I2,I3,I4,I5,I6,I7,reduceIte,reduceCtorEq,c]
    exact hk true fun _ => hs
end
end Go.Am.Ar
set_option linter.unusedVariables false
set_option linter.unusedSimpArgs false
set_option maxRecDepth 10000
namespace Go.Am.Ar
open Go.Am.PV renaming junk → Z
open Go.Am renaming pchk → P1,pold → P2,PKNo → P3,ppack → P4,PObj.under → P5,pput → P6,ptset → P7,ptget → P8,pev → P9,ofAV → P10,ofAV1 → P11,ppad → P12,pfill → P13,prepl → P14,AO.effect → P15
open List renaming replicate → L1
open Nat renaming reduceAdd → N1,reduceSub → N2,reduceMul → N3,reduceLT → N4,reduceLeDiff → N5,reduceEqDiff → N6,reduceBEq → N7
open Int renaming reduceToNat → I1,reduceLT → I2,reduceLE → I3,reduceEq → I4,reduceAdd → I5,reduceSub → I6,reduceNeg → I7
structure PtI (l0 l : List Int) (n : Nat) (x : Int) (i j : Nat) : Prop where
  pm : l.Perm l0
  ln : l.length = n
  hx : l[0]? = some x
  lo : ∀ k y,1 ≤ k → k < i → l[k]? = some y → y < x
  hi : ∀ k y,j < k → l[k]? = some y → x ≤ y
  i1 : 1 ≤ i
  jn : j < n
  ij : i ≤ j + 1
theorem PtI.swap {l0 l : List Int} {n : Nat} {x : Int} {i j : Nat} (h : PtI l0 l n x i j) {y z : Int} (h1 : l[i]? = some y) (h2 : l[j]? = some z) (hy : x ≤ y) (hz : z < x) (hij : i ≤ j) : PtI l0 ((l.set i z).set j y) n x (i + 1) (j - 1) ∧ i + 1 ≤ j := by
  have hne : i ≠ j := by rintro rfl; rw [h1] at h2; cases h2; omega
  have g := swap_get h1 h2
  have i1 := h.i1
  have jn := h.jn
  refine ⟨⟨(swap_perm h1 h2).trans h.pm,by simp [h.ln], ?_,fun k w hk1 hk hw => ?_,fun k w hk hw => ?_,by omega,by omega,by omega⟩,by omega⟩
  · rw [g,if_neg (by omega),if_neg (by omega)]; exact h.hx
  · rw [g] at hw
    rw [if_neg (by omega)] at hw
    split at hw
    · cases hw; exact hz
    · exact h.lo k w hk1 (by omega) hw
  · rw [g] at hw
    split at hw
    · cases hw; exact hy
    · rw [if_neg (by omega)] at hw
      exact h.hi k w (by omega) hw
theorem PtI.fin {l0 l : List Int} {n : Nat} {x : Int} {i j : Nat} (h : PtI l0 l n x i j) (hij : j < i) {y : Int} (h2 : l[j]? = some y) : ∃ u w,(l.set j x).set 0 y = u ++ x :: w ∧ u.length = j ∧ (u ++ x :: w).Perm l0 ∧ (∀ z ∈ u,z ≤ x) ∧ ∀ z ∈ w,x ≤ z := by
  have e : i = j + 1 := by have := h.ij; omega
  have g := swap_get h2 h.hx
  have gp := swap_perm h2 h.hx
  obtain ⟨L,hL⟩ : ∃ L,L = (l.set j x).set 0 y := ⟨_,rfl⟩
  rw [← hL] at g gp
  have hLl : L.length = n := by rw [hL]; simp [h.ln]
  have jn := h.jn
  have gj : L[j]? = some x := by
    rw [g]; split
    · rename_i e0; subst e0; rw [h.hx] at h2; exact h2.symm
    · rw [if_pos rfl]
  obtain ⟨hjl,hjx⟩ := List.getElem?_eq_some_iff.1 gj
  have hsp : L = L.take j ++ x :: L.drop (j + 1) := by
    conv => lhs; rw [← List.take_append_drop j L,List.drop_eq_getElem_cons hjl,hjx]
  refine ⟨L.take j,L.drop (j + 1),by rw [← hL]; exact hsp,by simp; omega,by rw [← hsp]; exact gp.trans h.pm,fun z hz => ?_,fun z hz => ?_⟩
  · obtain ⟨k,hk⟩ := List.getElem?_of_mem hz
    have hkj := getSome_lt hk
    rw [List.length_take] at hkj
    rw [List.getElem?_take,if_pos (by omega),g] at hk
    split at hk
    · cases hk
      have := h.lo j _ (by omega) (by omega) h2; omega
    · rw [if_neg (by omega)] at hk
      have := h.lo k z (by omega) (by omega) hk; omega
  · obtain ⟨k,hk⟩ := List.getElem?_of_mem hz
    rw [List.getElem?_drop,g] at hk
    rw [if_neg (by omega),if_neg (by omega)] at hk
    exact h.hi _ z (by omega) hk
section
variable {tab : FuncId → Option AF} (T : HasA tab)
include T
set_option maxHeartbeats 2000000 in
theorem partition_p {K : PV → Mem → Prop} {g v n pv : Nat} {l : List Int} {epv : Int} (hn : l.length = n) (hb : n < 1000000000000) (h1 : 1 < n) (hpv : pv < n) (he : epv = pv)
    (hk : ∀ (v' : Nat) (u w : List Int) (x : Int) (b : Bool),(u ++ x :: w).Perm l → (∀ z ∈ u,z ≤ x) → (∀ z ∈ w,x ≤ z) → K (.tuple [p64 u.length,.bool b]) [.cells g v' ((u ++ x :: w).map p64)]) :
    SemC tab 105 [.ref 0 g 1 0 n,p64 0,p64 n,p64 epv] [.cells g v (l.map p64)] K := by
  subst he
  refine SemC_fn T.h105 ?_
  obtain ⟨x,gx⟩ := some_of (xs := l) (k := pv) (by omega)
  obtain ⟨y,gy⟩ := some_of (xs := l) (k := 0) (by omega)
  have n0 : (0 : Int) < n := by omega
  have p0 : (0 : Int) ≤ pv := by omega
  have p1 : (pv : Int) < n := by omega
  have w1 : IntKind.i64.wrap 1 = ((1 : Nat) : Int) := rfl
  have wn : IntKind.i64.wrap ((n : Int) - 1) = ((n - 1 : Nat) : Int) := by rw [wrap64 (by omega) (by omega)]; omega
  have hset : ((l.map p64).set 0 (p64 x)).set pv (p64 y) = ((l.set 0 x).set pv y).map p64 := by rw [List.map_set,List.map_set]
  have hl0 : 0 < l.length := by omega
  have hpl : pv < l.length := by omega
  simp only [af105,PP,P1,P2,P3,P4,P5,P6,P7,P8,P9,P10,P11,P12,P13,P14,L1,P15,N1,N2,N3,N4,N5,N6,N7,I1,I2,I3,I4,I5,I6,I7,reduceIte,reduceCtorEq,gx,gy,n0,p0,p1,w1,wn,hn,hset,hl0,hpl]
  have I0 : PtI l ((l.set 0 x).set pv y) n x 1 (n - 1) := by
    have g := swap_get gy gx
    refine ⟨swap_perm gy gx,by simp [hn], ?_,fun k z a b => by omega,fun k z a b => ?_,by omega,by omega,by omega⟩
    · rw [g]; split
      · rename_i e; subst e; rw [gy] at gx; exact gx
      · rw [if_pos rfl]
    · have := getSome_lt b; simp at this; omega
  -- the two inner loops,for any list
  have get : ∀ {l' : List Int} {x : Int} {i j : Nat} (k : Nat),PtI l l' n x i j → k < n → ∃ z,l'[k]? = some z ∧ (0 : Int) ≤ k ∧ (k : Int) < n ∧ k < l'.length := fun k I hkn => by
    obtain ⟨z,hz⟩ := some_of (xs := _) (k := k) (show k < _ by rw [I.ln]; exact hkn)
    exact ⟨z,hz,by omega,by omega,by rw [I.ln]; exact hkn⟩
  refine ⟨by omega,by omega, ?_⟩
  obtain ⟨l1,hl1⟩ : ∃ l1,l1 = (l.set 0 x).set pv y := ⟨_,rfl⟩
  rw [← hl1] at I0 ⊢
  have upd : ∀ {l' : List Int} {i j : Nat} {z : Int},PtI l l' n x i j → l'[i]? = some z → z < x → i ≤ j → PtI l l' n x (i + 1) j := fun {l'} {i} {j} {z} I hz hlt hij => ⟨I.pm,I.ln,I.hx,fun k y a b hy => by
    by_cases e : k = i
    · subst e; rw [hz] at hy; cases hy; exact hlt
    · exact I.lo k y a (by omega) hy,I.hi,by omega,I.jn,by omega⟩
  have dnd : ∀ {l' : List Int} {i j : Nat} {z : Int},PtI l l' n x i j → l'[j]? = some z → x ≤ z → i ≤ j → PtI l l' n x i (j - 1) := fun {l'} {i} {j} {z} I hz hlt hij => ⟨I.pm,I.ln,I.hx,I.lo,fun k y a hy => by
    by_cases e : k = j
    · subst e; rw [hz] at hy; cases hy; exact hlt
    · exact I.hi k y (by have := I.i1; omega) hy,I.i1,by have := I.jn; omega,by have := I.i1; omega⟩
  refine loop1 (fun (i : Nat) => PtI l l1 n x i (n - 1) ∧ 1 ≤ i) (fun i => [.ref 0 g 1 0 n,p64 0,Z,Z,Z,Z,Z,Z,Z,Z,p64 i,p64 (((n - 1) : Nat) : Int),Z,Z,Z,Z,Z,Z,Z,Z,Z,Z,Z,Z,Z,Z,Z,Z,Z,Z,Z,Z,Z,Z,Z,Z,Z,Z,Z,Z,Z,Z,Z,Z,Z,Z,Z,Z,Z,Z,Z,Z,Z,Z,Z,Z,Z,Z,Z,Z,Z,Z,Z,Z,Z,Z,Z,Z,Z,Z,Z,Z,Z,Z,Z,Z,Z,Z,Z,Z,Z,Z,Z,Z,Z,Z,Z,Z,Z,Z,Z,Z,Z,Z,Z,Z,Z,Z,Z,Z,Z,Z,Z,Z,Z,Z,Z,Z,Z,Z,Z,Z,Z,Z,Z,Z,Z,Z,Z,Z,Z,Z,Z,Z,Z,Z,Z,Z,Z,Z,Z,Z,Z,Z,Z,Z,Z,Z,Z,Z,Z,Z,Z,Z,Z,Z,Z,Z,Z,Z,Z,Z,Z,Z,Z,Z,Z,Z,Z,Z,Z,Z,Z,Z,Z,Z,Z,Z]) (fun _ => [.cells g (v + 1 + 1) (l1.map p64)]) (fun i => n - i) 1 ⟨I0,Nat.le_refl _⟩ (by simp only [PWeak_nil,PWeak_junk,PWeak_same,Int.cast_ofNat_Int,List.length_append,List.length_cons,List.length_nil,Nat.zero_add]) rfl ?_
  intro i1 ⟨IA1,gA1⟩ ihA
  have jnA := IA1.jn
  have l0A := IA1.hx
  have lnA := IA1.ln
  refine SemW_go (by kernel_rfl) ?_
  simp only [PP,P1,P2,P3,P4,P5,P6,P7,P8,P9,P10,P11,P12,P13,P14,L1,P15,N1,N2,N3,N4,N5,N6,N7,I1,I2,I3,I4,I5,I6,I7,reduceIte,reduceCtorEq]
  by_cases hc1 : i1 ≤ (n - 1) ∧ ∃ z,l1[i1]? = some z ∧ z < x
  · obtain ⟨c,z,gz,d⟩ := hc1
    obtain ⟨_,_,z0,z1,z2⟩ := get i1 IA1 (by omega)
    have hwi := wrap_succ (k := i1) (by show _ < 1000000000000; omega)
    have c' : (i1 : Int) ≤ ((n - 1) : Nat) := by omega
    simp only [PP,P1,P2,P3,P4,P5,P6,P7,P8,P9,P10,P11,P12,P13,P14,L1,P15,N1,N2,N3,N4,N5,N6,N7,I1,I2,I3,I4,I5,I6,I7,reduceIte,reduceCtorEq,c',gz,z0,z1,z2,l0A,n0]
    refine less13_p T ?_
    simp only [PP,P1,P2,P3,P4,P5,P6,P7,P8,P9,P10,P11,P12,P13,P14,L1,P15,N1,N2,N3,N4,N5,N6,N7,I1,I2,I3,I4,I5,I6,I7,reduceIte,reduceCtorEq,d,hwi]
    exact SemW_weak (ihA (i1 + 1) ⟨upd IA1 gz d c,by omega⟩ (by omega)) (by simp only [PWeak_nil,PWeak_junk,PWeak_same,Int.cast_ofNat_Int,List.length_append,List.length_cons,List.length_nil,Nat.zero_add])
  apply QIf_both
  · intro c
    obtain ⟨z,gz,z0,z1,z2⟩ := get i1 IA1 (by omega)
    have d : ¬ z < x := fun q => hc1 ⟨by omega,z,gz,q⟩
    intro gg
    simp only [PP,P1,P2,P3,P4,P5,P6,P7,P8,P9,P10,P11,P12,P13,P14,L1,P15,N1,N2,N3,N4,N5,N6,N7,I1,I2,I3,I4,I5,I6,I7,reduceIte,reduceCtorEq,c,gz,z0,z1,z2,l0A,n0]
    refine less13_p T ?_
    simp only [PP,P1,P2,P3,P4,P5,P6,P7,P8,P9,P10,P11,P12,P13,P14,L1,P15,N1,N2,N3,N4,N5,N6,N7,I1,I2,I3,I4,I5,I6,I7,reduceIte,reduceCtorEq,d]
    exact SemW_to (b := [.ref 0 g 1 0 n,p64 0,Z,Z,Z,Z,Z,Z,Z,Z,p64 i1,p64 (((n - 1) : Nat) : Int),Z,Z,Z,Z,Z,Z,Z,Z,Z,Z,Z,Z,Z,Z,Z,Z,Z,Z,Z,Z,Z,Z,Z,Z,Z,Z,Z,Z,Z,Z,Z,Z,Z,Z,Z,Z,Z,Z,Z,Z,Z,Z,Z,Z,Z,Z,Z,Z,Z,Z,Z,Z,Z,Z,Z,Z,Z,Z,Z,Z,Z,Z,Z,Z,Z,Z,Z,Z,Z,Z,Z,Z,Z,Z,Z,Z,Z,Z,Z,Z,Z,Z,Z,Z,Z,Z,Z,Z,Z,Z,Z,Z,Z,Z,Z,Z,Z,Z,Z,Z,Z,Z,Z,Z,Z,Z,Z,Z,Z,Z,Z,Z,Z,Z,Z,Z,Z,Z,Z,Z,Z,Z,Z,Z,Z,Z,Z,Z,Z,Z,Z,Z,Z,Z,Z,Z,Z,Z,Z,Z,Z,Z,Z,Z,Z,Z,Z,Z,Z,Z,Z,Z,Z,Z,Z,Z]) (N := [.cells g (v + 1 + 1) (l1.map p64)]) gg (by simp only [PWeak_nil,PWeak_junk,PWeak_same,Int.cast_ofNat_Int,List.length_append,List.length_cons,List.length_nil,Nat.zero_add]) rfl
  · intro c gg
    simp only [PP,P1,P2,P3,P4,P5,P6,P7,P8,P9,P10,P11,P12,P13,P14,L1,P15,N1,N2,N3,N4,N5,N6,N7,I1,I2,I3,I4,I5,I6,I7,reduceIte,reduceCtorEq,c]
    exact SemW_to (b := [.ref 0 g 1 0 n,p64 0,Z,Z,Z,Z,Z,Z,Z,Z,p64 i1,p64 (((n - 1) : Nat) : Int),Z,Z,Z,Z,Z,Z,Z,Z,Z,Z,Z,Z,Z,Z,Z,Z,Z,Z,Z,Z,Z,Z,Z,Z,Z,Z,Z,Z,Z,Z,Z,Z,Z,Z,Z,Z,Z,Z,Z,Z,Z,Z,Z,Z,Z,Z,Z,Z,Z,Z,Z,Z,Z,Z,Z,Z,Z,Z,Z,Z,Z,Z,Z,Z,Z,Z,Z,Z,Z,Z,Z,Z,Z,Z,Z,Z,Z,Z,Z,Z,Z,Z,Z,Z,Z,Z,Z,Z,Z,Z,Z,Z,Z,Z,Z,Z,Z,Z,Z,Z,Z,Z,Z,Z,Z,Z,Z,Z,Z,Z,Z,Z,Z,Z,Z,Z,Z,Z,Z,Z,Z,Z,Z,Z,Z,Z,Z,Z,Z,Z,Z,Z,Z,Z,Z,Z,Z,Z,Z,Z,Z,Z,Z,Z,Z,Z,Z,Z,Z,Z,Z,Z,Z,Z,Z,Z]) (N := [.cells g (v + 1 + 1) (l1.map p64)]) gg (by simp only [PWeak_nil,PWeak_junk,PWeak_same,Int.cast_ofNat_Int,List.length_append,List.length_cons,List.length_nil,Nat.zero_add]) rfl
  refine loop1 (fun (j : Nat) => PtI l l1 n x i1 j ∧ (i1 ≤ j → i1 ≤ (n - 1)) ∧ j ≤ (n - 1)) (fun j => [.ref 0 g 1 0 n,p64 0,Z,Z,Z,Z,Z,Z,Z,Z,p64 i1,p64 j,Z,Z,Z,Z,Z,Z,Z,Z,Z,Z,Z,Z,Z,Z,Z,Z,Z,Z,Z,Z,Z,Z,Z,Z,Z,Z,Z,Z,Z,Z,Z,Z,Z,Z,Z,Z,Z,Z,Z,Z,Z,Z,Z,Z,Z,Z,Z,Z,Z,Z,Z,Z,Z,Z,Z,Z,Z,Z,Z,Z,Z,Z,Z,Z,Z,Z,Z,Z,Z,Z,Z,Z,Z,Z,Z,Z,Z,Z,Z,Z,Z,Z,Z,Z,Z,Z,Z,Z,Z,Z,Z,Z,Z,Z,Z,Z,Z,Z,Z,Z,Z,Z,Z,Z,Z,Z,Z,Z,Z,Z,Z,Z,Z,Z,Z,Z,Z,Z,Z,Z,Z,Z,Z,Z,Z,Z,Z,Z,Z,Z,Z,Z,Z,Z,Z,Z,Z,Z,Z,Z,Z,Z,Z,Z,Z,Z,Z,Z,Z,Z,Z,Z,Z,Z,Z,Z]) (fun _ => [.cells g (v + 1 + 1) (l1.map p64)]) (fun j => j) ((n - 1)) ⟨IA1,fun h => h,Nat.le_refl _⟩ (by simp only [PWeak_nil,PWeak_junk,PWeak_same,Int.cast_ofNat_Int,List.length_append,List.length_cons,List.length_nil,Nat.zero_add]) rfl ?_
  intro j1 ⟨IB1,hij1,gB1⟩ ihB
  have jnB := IB1.jn
  have i1B := IB1.i1
  refine SemW_go (by kernel_rfl) ?_
  simp only [PP,P1,P2,P3,P4,P5,P6,P7,P8,P9,P10,P11,P12,P13,P14,L1,P15,N1,N2,N3,N4,N5,N6,N7,I1,I2,I3,I4,I5,I6,I7,reduceIte,reduceCtorEq]
  by_cases hd1 : i1 ≤ j1 ∧ ∃ z,l1[j1]? = some z ∧ ¬ z < x
  · obtain ⟨c,z,gz,d⟩ := hd1
    obtain ⟨_,_,z0,z1,z2⟩ := get j1 IB1 (by omega)
    have hwj : IntKind.i64.wrap ((j1 : Int) - 1) = ((j1 - 1 : Nat) : Int) := by rw [wrap64 (by omega) (by omega)]; omega
    have c' : (i1 : Int) ≤ (j1 : Nat) := by omega
    simp only [PP,P1,P2,P3,P4,P5,P6,P7,P8,P9,P10,P11,P12,P13,P14,L1,P15,N1,N2,N3,N4,N5,N6,N7,I1,I2,I3,I4,I5,I6,I7,reduceIte,reduceCtorEq,c',gz,z0,z1,z2,l0A,n0]
    refine less13_p T ?_
    simp only [PP,P1,P2,P3,P4,P5,P6,P7,P8,P9,P10,P11,P12,P13,P14,L1,P15,N1,N2,N3,N4,N5,N6,N7,I1,I2,I3,I4,I5,I6,I7,reduceIte,reduceCtorEq,d,hwj]
    exact SemW_weak (ihB (j1 - 1) ⟨dnd IB1 gz (by omega) c,fun h => hij1 (by omega),by omega⟩ (by omega)) (by simp only [PWeak_nil,PWeak_junk,PWeak_same,Int.cast_ofNat_Int,List.length_append,List.length_cons,List.length_nil,Nat.zero_add])
  refine QIf.intro (fun c => ?_) (fun c => ?_)
  · obtain ⟨z,gz,z0,z1,z2⟩ := get j1 IB1 (by omega)
    have d : z < x := Int.not_le.1 fun q => hd1 ⟨by omega,z,gz,by omega⟩
    obtain ⟨y,gy,y0,y1,y2⟩ := get i1 IB1 (by omega)
    have dy : x ≤ y := Int.not_lt.1 fun q => hc1 ⟨hij1 (by omega),y,gy,q⟩
    have cn : ¬ (j1 : Int) < i1 := by omega
    obtain ⟨SW,hle⟩ := IB1.swap gy gz dy d (by omega)
    simp only [PP,P1,P2,P3,P4,P5,P6,P7,P8,P9,P10,P11,P12,P13,P14,L1,P15,N1,N2,N3,N4,N5,N6,N7,I1,I2,I3,I4,I5,I6,I7,reduceIte,reduceCtorEq,c,gz,z0,z1,z2,l0A,n0]
    refine less13_p T ?_
    have hwi := wrap_succ (k := i1) (by show _ < 1000000000000; omega)
    have hwj : IntKind.i64.wrap ((j1 : Int) - 1) = ((j1 - 1 : Nat) : Int) := by rw [wrap64 (by omega) (by omega)]; omega
    have hst : ((l1.map p64).set i1 (p64 z)).set j1 (p64 y) = ((l1.set i1 z).set j1 y).map p64 := by rw [List.map_set,List.map_set]
    simp only [PP,P1,P2,P3,P4,P5,P6,P7,P8,P9,P10,P11,P12,P13,P14,L1,P15,N1,N2,N3,N4,N5,N6,N7,I1,I2,I3,I4,I5,I6,I7,reduceIte,reduceCtorEq,d,cn,gy,gz,z0,z1,z2,y0,y1,y2,hwi,hwj,lnA]
    refine ⟨by omega,by omega, ?_⟩
    rw [hst]
    refine loop4 (fun (L2 : List Int) (V2 i2 j2 : Nat) => PtI l L2 n x i2 j2) (fun L2 V2 i2 j2 => [.ref 0 g 1 0 n,p64 0,Z,Z,Z,Z,Z,Z,Z,Z,p64 i2,p64 j2,Z,Z,Z,Z,Z,Z,Z,Z,Z,Z,Z,Z,Z,Z,Z,Z,Z,Z,Z,Z,Z,Z,Z,Z,Z,Z,Z,Z,Z,Z,Z,Z,Z,Z,Z,Z,Z,Z,Z,Z,Z,Z,Z,Z,Z,Z,Z,Z,Z,Z,Z,Z,Z,Z,Z,Z,Z,Z,Z,Z,Z,Z,Z,Z,Z,Z,Z,Z,Z,Z,Z,Z,Z,Z,Z,Z,Z,Z,Z,Z,Z,Z,Z,Z,Z,Z,Z,Z,Z,Z,Z,Z,Z,Z,Z,Z,Z,Z,Z,Z,Z,Z,Z,Z,Z,Z,Z,Z,Z,Z,Z,Z,Z,Z,Z,Z,Z,Z,Z,Z,Z,Z,Z,Z,Z,Z,Z,Z,Z,Z,Z,Z,Z,Z,Z,Z,Z,Z,Z,Z,Z,Z,Z,Z,Z,Z,Z,Z,Z,Z,Z,Z,Z,Z,Z,Z]) (fun L2 V2 _ _ => [.cells g V2 (L2.map p64)]) (fun _ _ i2 j2 => n + j2 - i2) _ _ _ _ SW (by simp only [PWeak_nil,PWeak_junk,PWeak_same,Int.cast_ofNat_Int,List.length_append,List.length_cons,List.length_nil,Nat.zero_add]) rfl ?_
    intro L2 V2 i2 j2 IC ihC
    have jnC := IC.jn
    have i1C := IC.i1
    have ijC := IC.ij
    refine SemW_go (by kernel_rfl) ?_
    simp only [PP,P1,P2,P3,P4,P5,P6,P7,P8,P9,P10,P11,P12,P13,P14,L1,P15,N1,N2,N3,N4,N5,N6,N7,I1,I2,I3,I4,I5,I6,I7,reduceIte,reduceCtorEq]
    refine loop1 (fun (i : Nat) => PtI l L2 n x i j2 ∧ i2 ≤ i) (fun i => [.ref 0 g 1 0 n,p64 0,Z,Z,Z,Z,Z,Z,Z,Z,p64 i,p64 ((j2 : Nat) : Int),Z,Z,Z,Z,Z,Z,Z,Z,Z,Z,Z,Z,Z,Z,Z,Z,Z,Z,Z,Z,Z,Z,Z,Z,Z,Z,Z,Z,Z,Z,Z,Z,Z,Z,Z,Z,Z,Z,Z,Z,Z,Z,Z,Z,Z,Z,Z,Z,Z,Z,Z,Z,Z,Z,Z,Z,Z,Z,Z,Z,Z,Z,Z,Z,Z,Z,Z,Z,Z,Z,Z,Z,Z,Z,Z,Z,Z,Z,Z,Z,Z,Z,Z,Z,Z,Z,Z,Z,Z,Z,Z,Z,Z,Z,Z,Z,Z,Z,Z,Z,Z,Z,Z,Z,Z,Z,Z,Z,Z,Z,Z,Z,Z,Z,Z,Z,Z,Z,Z,Z,Z,Z,Z,Z,Z,Z,Z,Z,Z,Z,Z,Z,Z,Z,Z,Z,Z,Z,Z,Z,Z,Z,Z,Z,Z,Z,Z,Z,Z,Z,Z,Z,Z,Z,Z,Z]) (fun _ => [.cells g (V2) (L2.map p64)]) (fun i => n - i) i2 ⟨IC,Nat.le_refl _⟩ (by simp only [PWeak_nil,PWeak_junk,PWeak_same,Int.cast_ofNat_Int,List.length_append,List.length_cons,List.length_nil,Nat.zero_add]) rfl ?_
    intro i3 ⟨IA3,gA3⟩ ihA
    have jnA := IA3.jn
    have l0A := IA3.hx
    have lnA := IA3.ln
    refine SemW_go (by kernel_rfl) ?_
    simp only [PP,P1,P2,P3,P4,P5,P6,P7,P8,P9,P10,P11,P12,P13,P14,L1,P15,N1,N2,N3,N4,N5,N6,N7,I1,I2,I3,I4,I5,I6,I7,reduceIte,reduceCtorEq]
    by_cases hc3 : i3 ≤ j2 ∧ ∃ z,L2[i3]? = some z ∧ z < x
    · obtain ⟨c,z,gz,d⟩ := hc3
      obtain ⟨_,_,z0,z1,z2⟩ := get i3 IA3 (by omega)
      have hwi := wrap_succ (k := i3) (by show _ < 1000000000000; omega)
      have c' : (i3 : Int) ≤ (j2 : Nat) := by omega
      simp only [PP,P1,P2,P3,P4,P5,P6,P7,P8,P9,P10,P11,P12,P13,P14,L1,P15,N1,N2,N3,N4,N5,N6,N7,I1,I2,I3,I4,I5,I6,I7,reduceIte,reduceCtorEq,c',gz,z0,z1,z2,l0A,n0]
      refine less13_p T ?_
      simp only [PP,P1,P2,P3,P4,P5,P6,P7,P8,P9,P10,P11,P12,P13,P14,L1,P15,N1,N2,N3,N4,N5,N6,N7,I1,I2,I3,I4,I5,I6,I7,reduceIte,reduceCtorEq,d,hwi]
      exact SemW_weak (ihA (i3 + 1) ⟨upd IA3 gz d c,by omega⟩ (by omega)) (by simp only [PWeak_nil,PWeak_junk,PWeak_same,Int.cast_ofNat_Int,List.length_append,List.length_cons,List.length_nil,Nat.zero_add])
    apply QIf_both
    · intro c
      obtain ⟨z,gz,z0,z1,z2⟩ := get i3 IA3 (by omega)
      have d : ¬ z < x := fun q => hc3 ⟨by omega,z,gz,q⟩
      intro gg
      simp only [PP,P1,P2,P3,P4,P5,P6,P7,P8,P9,P10,P11,P12,P13,P14,L1,P15,N1,N2,N3,N4,N5,N6,N7,I1,I2,I3,I4,I5,I6,I7,reduceIte,reduceCtorEq,c,gz,z0,z1,z2,l0A,n0]
      refine less13_p T ?_
      simp only [PP,P1,P2,P3,P4,P5,P6,P7,P8,P9,P10,P11,P12,P13,P14,L1,P15,N1,N2,N3,N4,N5,N6,N7,I1,I2,I3,I4,I5,I6,I7,reduceIte,reduceCtorEq,d]
      exact SemW_to (b := [.ref 0 g 1 0 n,p64 0,Z,Z,Z,Z,Z,Z,Z,Z,p64 i3,p64 ((j2 : Nat) : Int),Z,Z,Z,Z,Z,Z,Z,Z,Z,Z,Z,Z,Z,Z,Z,Z,Z,Z,Z,Z,Z,Z,Z,Z,Z,Z,Z,Z,Z,Z,Z,Z,Z,Z,Z,Z,Z,Z,Z,Z,Z,Z,Z,Z,Z,Z,Z,Z,Z,Z,Z,Z,Z,Z,Z,Z,Z,Z,Z,Z,Z,Z,Z,Z,Z,Z,Z,Z,Z,Z,Z,Z,Z,Z,Z,Z,Z,Z,Z,Z,Z,Z,Z,Z,Z,Z,Z,Z,Z,Z,Z,Z,Z,Z,Z,Z,Z,Z,Z,Z,Z,Z,Z,Z,Z,Z,Z,Z,Z,Z,Z,Z,Z,Z,Z,Z,Z,Z,Z,Z,Z,Z,Z,Z,Z,Z,Z,Z,Z,Z,Z,Z,Z,Z,Z,Z,Z,Z,Z,Z,Z,Z,Z,Z,Z,Z,Z,Z,Z,Z,Z,Z,Z,Z,Z,Z]) (N := [.cells g (V2) (L2.map p64)]) gg (by simp only [PWeak_nil,PWeak_junk,PWeak_same,Int.cast_ofNat_Int,List.length_append,List.length_cons,List.length_nil,Nat.zero_add]) rfl
    · intro c gg
      simp only [PP,P1,P2,P3,P4,P5,P6,P7,P8,P9,P10,P11,P12,P13,P14,L1,P15,N1,N2,N3,N4,N5,N6,N7,I1,I2,I3,I4,I5,I6,I7,reduceIte,reduceCtorEq,c]
      exact SemW_to (b := [.ref 0 g 1 0 n,p64 0,Z,Z,Z,Z,Z,Z,Z,Z,p64 i3,p64 ((j2 : Nat) : Int),Z,Z,Z,Z,Z,Z,Z,Z,Z,Z,Z,Z,Z,Z,Z,Z,Z,Z,Z,Z,Z,Z,Z,Z,Z,Z,Z,Z,Z,Z,Z,Z,Z,Z,Z,Z,Z,Z,Z,Z,Z,Z,Z,Z,Z,Z,Z,Z,Z,Z,Z,Z,Z,Z,Z,Z,Z,Z,Z,Z,Z,Z,Z,Z,Z,Z,Z,Z,Z,Z,Z,Z,Z,Z,Z,Z,Z,Z,Z,Z,Z,Z,Z,Z,Z,Z,Z,Z,Z,Z,Z,Z,Z,Z,Z,Z,Z,Z,Z,Z,Z,Z,Z,Z,Z,Z,Z,Z,Z,Z,Z,Z,Z,Z,Z,Z,Z,Z,Z,Z,Z,Z,Z,Z,Z,Z,Z,Z,Z,Z,Z,Z,Z,Z,Z,Z,Z,Z,Z,Z,Z,Z,Z,Z,Z,Z,Z,Z,Z,Z,Z,Z,Z,Z,Z,Z]) (N := [.cells g (V2) (L2.map p64)]) gg (by simp only [PWeak_nil,PWeak_junk,PWeak_same,Int.cast_ofNat_Int,List.length_append,List.length_cons,List.length_nil,Nat.zero_add]) rfl
    refine loop1 (fun (j : Nat) => PtI l L2 n x i3 j ∧ (i3 ≤ j → i3 ≤ j2) ∧ j ≤ j2) (fun j => [.ref 0 g 1 0 n,p64 0,Z,Z,Z,Z,Z,Z,Z,Z,p64 i3,p64 j,Z,Z,Z,Z,Z,Z,Z,Z,Z,Z,Z,Z,Z,Z,Z,Z,Z,Z,Z,Z,Z,Z,Z,Z,Z,Z,Z,Z,Z,Z,Z,Z,Z,Z,Z,Z,Z,Z,Z,Z,Z,Z,Z,Z,Z,Z,Z,Z,Z,Z,Z,Z,Z,Z,Z,Z,Z,Z,Z,Z,Z,Z,Z,Z,Z,Z,Z,Z,Z,Z,Z,Z,Z,Z,Z,Z,Z,Z,Z,Z,Z,Z,Z,Z,Z,Z,Z,Z,Z,Z,Z,Z,Z,Z,Z,Z,Z,Z,Z,Z,Z,Z,Z,Z,Z,Z,Z,Z,Z,Z,Z,Z,Z,Z,Z,Z,Z,Z,Z,Z,Z,Z,Z,Z,Z,Z,Z,Z,Z,Z,Z,Z,Z,Z,Z,Z,Z,Z,Z,Z,Z,Z,Z,Z,Z,Z,Z,Z,Z,Z,Z,Z,Z,Z,Z,Z]) (fun _ => [.cells g (V2) (L2.map p64)]) (fun j => j) (j2) ⟨IA3,fun h => h,Nat.le_refl _⟩ (by simp only [PWeak_nil,PWeak_junk,PWeak_same,Int.cast_ofNat_Int,List.length_append,List.length_cons,List.length_nil,Nat.zero_add]) rfl ?_
    intro j3 ⟨IB3,hij3,gB3⟩ ihB
    have jnB := IB3.jn
    have i1B := IB3.i1
    refine SemW_go (by kernel_rfl) ?_
    simp only [PP,P1,P2,P3,P4,P5,P6,P7,P8,P9,P10,P11,P12,P13,P14,L1,P15,N1,N2,N3,N4,N5,N6,N7,I1,I2,I3,I4,I5,I6,I7,reduceIte,reduceCtorEq]
    by_cases hd3 : i3 ≤ j3 ∧ ∃ z,L2[j3]? = some z ∧ ¬ z < x
    · obtain ⟨c,z,gz,d⟩ := hd3
      obtain ⟨_,_,z0,z1,z2⟩ := get j3 IB3 (by omega)
      have hwj : IntKind.i64.wrap ((j3 : Int) - 1) = ((j3 - 1 : Nat) : Int) := by rw [wrap64 (by omega) (by omega)]; omega
      have c' : (i3 : Int) ≤ (j3 : Nat) := by omega
      simp only [PP,P1,P2,P3,P4,P5,P6,P7,P8,P9,P10,P11,P12,P13,P14,L1,P15,N1,N2,N3,N4,N5,N6,N7,I1,I2,I3,I4,I5,I6,I7,reduceIte,reduceCtorEq,c',gz,z0,z1,z2,l0A,n0]
      refine less13_p T ?_
      simp only [PP,P1,P2,P3,P4,P5,P6,P7,P8,P9,P10,P11,P12,P13,P14,L1,P15,N1,N2,N3,N4,N5,N6,N7,I1,I2,I3,I4,I5,I6,I7,reduceIte,reduceCtorEq,d,hwj]
      exact SemW_weak (ihB (j3 - 1) ⟨dnd IB3 gz (by omega) c,fun h => hij3 (by omega),by omega⟩ (by omega)) (by simp only [PWeak_nil,PWeak_junk,PWeak_same,Int.cast_ofNat_Int,List.length_append,List.length_cons,List.length_nil,Nat.zero_add])
    refine QIf.intro (fun c => ?_) (fun c => ?_)
    · obtain ⟨z,gz,z0,z1,z2⟩ := get j3 IB3 (by omega)
      have d : z < x := Int.not_le.1 fun q => hd3 ⟨by omega,z,gz,by omega⟩
      obtain ⟨y,gy,y0,y1,y2⟩ := get i3 IB3 (by omega)
      have dy : x ≤ y := Int.not_lt.1 fun q => hc3 ⟨hij3 (by omega),y,gy,q⟩
      have cn : ¬ (j3 : Int) < i3 := by omega
      obtain ⟨SW,hle⟩ := IB3.swap gy gz dy d (by omega)
      simp only [PP,P1,P2,P3,P4,P5,P6,P7,P8,P9,P10,P11,P12,P13,P14,L1,P15,N1,N2,N3,N4,N5,N6,N7,I1,I2,I3,I4,I5,I6,I7,reduceIte,reduceCtorEq,c,gz,z0,z1,z2,l0A,n0]
      refine less13_p T ?_
      have hwi := wrap_succ (k := i3) (by show _ < 1000000000000; omega)
      have hwj : IntKind.i64.wrap ((j3 : Int) - 1) = ((j3 - 1 : Nat) : Int) := by rw [wrap64 (by omega) (by omega)]; omega
      have hst : ((L2.map p64).set i3 (p64 z)).set j3 (p64 y) = ((L2.set i3 z).set j3 y).map p64 := by rw [List.map_set,List.map_set]
      simp only [PP,P1,P2,P3,P4,P5,P6,P7,P8,P9,P10,P11,P12,P13,P14,L1,P15,N1,N2,N3,N4,N5,N6,N7,I1,I2,I3,I4,I5,I6,I7,reduceIte,reduceCtorEq,d,cn,gy,gz,z0,z1,z2,y0,y1,y2,hwi,hwj,lnA]
      refine ⟨by omega,by omega, ?_⟩
      rw [hst]
      exact SemW_to (ihC _ _ _ _ SW (by have := IB3.ij; have := hij3 (by omega); omega)) (by simp only [PWeak_nil,PWeak_junk,PWeak_same,Int.cast_ofNat_Int,List.length_append,List.length_cons,List.length_nil,Nat.zero_add]) rfl
    · have hji : j3 < i3 := by omega
      have c2 : (j3 : Int) < i3 := by omega
      obtain ⟨z,gz,z0,z1,z2⟩ := get j3 IB3 (by omega)
      obtain ⟨u,w,e1,e2,e3,e4,e5⟩ := IB3.fin hji gz
      have hst : ((L2.map p64).set j3 (p64 x)).set 0 (p64 z) = (u ++ x :: w).map p64 := by rw [← e1,List.map_set,List.map_set]
      simp only [PP,P1,P2,P3,P4,P5,P6,P7,P8,P9,P10,P11,P12,P13,P14,L1,P15,N1,N2,N3,N4,N5,N6,N7,I1,I2,I3,I4,I5,I6,I7,reduceIte,reduceCtorEq,c,c2,gz,z0,z1,z2,l0A,n0,lnA]
      refine ⟨by omega,by omega, ?_⟩
      rw [hst, ← e2]
      exact hk _ u w x _ e3 e4 e5
  · have hji : j1 < i1 := by omega
    have c2 : (j1 : Int) < i1 := by omega
    obtain ⟨z,gz,z0,z1,z2⟩ := get j1 IB1 (by omega)
    obtain ⟨u,w,e1,e2,e3,e4,e5⟩ := IB1.fin hji gz
    have hst : ((l1.map p64).set j1 (p64 x)).set 0 (p64 z) = (u ++ x :: w).map p64 := by rw [← e1,List.map_set,List.map_set]
    simp only [PP,P1,P2,P3,P4,P5,P6,P7,P8,P9,P10,P11,P12,P13,P14,L1,P15,N1,N2,N3,N4,N5,N6,N7,I1,I2,I3,I4,I5,I6,I7,reduceIte,reduceCtorEq,c,c2,gz,z0,z1,z2,l0A,n0,lnA]
    refine ⟨by omega,by omega, ?_⟩
    rw [hst, ← e2]
    exact hk _ u w x _ e3 e4 e5
end
end Go.Am.Ar
set_option linter.unusedVariables false
set_option linter.unusedSimpArgs false
set_option maxRecDepth 10000
namespace Go.Am.Ar
open Go.Am.PV renaming junk → Z
end Go.Am.Ar
set_option linter.unusedVariables false
set_option linter.unusedSimpArgs false
set_option maxRecDepth 10000
namespace Go.Am.Ar
open Go.Am.PV renaming junk → Z
open Go.Am renaming pchk → P1,pold → P2,PKNo → P3,ppack → P4,PObj.under → P5,pput → P6,ptset → P7,ptget → P8,pev → P9,ofAV → P10,ofAV1 → P11,ppad → P12,pfill → P13,prepl → P14,AO.effect → P15
open List renaming replicate → L1
open Nat renaming reduceAdd → N1,reduceSub → N2,reduceMul → N3,reduceLT → N4,reduceLeDiff → N5,reduceEqDiff → N6,reduceBEq → N7
open Int renaming reduceToNat → I1,reduceLT → I2,reduceLE → I3,reduceEq → I4,reduceAdd → I5,reduceSub → I6,reduceNeg → I7
theorem wrap8 {x : Nat} (h : x < 256) : IntKind.u8.wrap (x : Int) = x := by
  simp only [IntKind.wrap,IntKind.signed,IntKind.bits]
  simp
  omega
section
variable {tab : FuncId → Option AF} (T : HasA tab)
include T
end
end Go.Am.Ar
set_option linter.unusedVariables false
set_option linter.unusedSimpArgs false
set_option maxRecDepth 10000
namespace Go.Am.Ar
open Go.Am.PV renaming junk → Z
open Go.Am renaming pchk → P1,pold → P2,PKNo → P3,ppack → P4,PObj.under → P5,pput → P6,ptset → P7,ptget → P8,pev → P9,ofAV → P10,ofAV1 → P11,ppad → P12,pfill → P13,prepl → P14,AO.effect → P15
open List renaming replicate → L1
open Nat renaming reduceAdd → N1,reduceSub → N2,reduceMul → N3,reduceLT → N4,reduceLeDiff → N5,reduceEqDiff → N6,reduceBEq → N7
open Int renaming reduceToNat → I1,reduceLT → I2,reduceLE → I3,reduceEq → I4,reduceAdd → I5,reduceSub → I6,reduceNeg → I7
theorem wrapU13 {k : Nat} (h : k < 4000000000000) : IntKind.u64.wrap (k : Int) = (k : Int) := by
  simp only [IntKind.wrap,IntKind.signed,IntKind.bits]
  simp
  omega
theorem ZSome_byte {s : ByteArray} {x : Nat} (h : x < s.size) {k : UInt8 → Prop} {t : KTag k} (hk : ∀ c,k c) : ZSome s[x]? k t := by
  rw [getElem?_pos s x h,ZSome_some]; exact hk _
section
variable {tab : FuncId → Option AF} (T : HasA tab)
include T
theorem len64_p {M : Mem} {K : PV → Mem → Prop} {x : Nat} (hx : x < 256) (hk : ∀ r : Int,K (p64 r) M) : SemC tab 107 [.int .u64 x] M K := by
  refine SemC_pure T.h107 (by simp only [PP,P1,P2,P3,P4,P5,P6,P7,P8,P9,P10,P11,P12,P13,P14,L1,P15,N1,N2,N3,N4,N5,N6,N7,I1,I2,I3,I4,I5,I6,I7,reduceIte,reduceCtorEq]) ?_
  have c1 : ¬ (4294967296 : Int) ≤ x := by omega
  have c2 : ¬ (65536 : Int) ≤ x := by omega
  have c3 : ¬ (256 : Int) ≤ x := by omega
  have w8 := wrap8 hx
  have x0 : (0 : Int) ≤ x := by omega
  simp only [af107,PP,P1,P2,P3,P4,P5,P6,P7,P8,P9,P10,P11,P12,P13,P14,L1,P15,N1,N2,N3,N4,N5,N6,N7,I1,I2,I3,I4,I5,I6,I7,reduceIte,reduceCtorEq,c1,c2,c3,w8,PS_indexStr,ZStr_str,x0]
  refine ZSome_byte hx (fun c => ?_)
  simp only [PP,P1,P2,P3,P4,P5,P6,P7,P8,P9,P10,P11,P12,P13,P14,L1,P15,N1,N2,N3,N4,N5,N6,N7,I1,I2,I3,I4,I5,I6,I7,reduceIte,reduceCtorEq]
  exact hk _
theorem len_p {M : Mem} {K : PV → Mem → Prop} {x : Nat} (hx : x < 256) (hk : ∀ r : Int,K (p64 r) M) : SemC tab 85 [.int .u64 x] M K := by
  refine SemC_pure T.h85 (by simp only [PP,P1,P2,P3,P4,P5,P6,P7,P8,P9,P10,P11,P12,P13,P14,L1,P15,N1,N2,N3,N4,N5,N6,N7,I1,I2,I3,I4,I5,I6,I7,reduceIte,reduceCtorEq]) ?_
  simp only [af85,PP,P1,P2,P3,P4,P5,P6,P7,P8,P9,P10,P11,P12,P13,P14,L1,P15,N1,N2,N3,N4,N5,N6,N7,I1,I2,I3,I4,I5,I6,I7,reduceIte,reduceCtorEq]
  refine len64_p T hx (fun r => ?_)
  simp only [PP,P1,P2,P3,P4,P5,P6,P7,P8,P9,P10,P11,P12,P13,P14,L1,P15,N1,N2,N3,N4,N5,N6,N7,I1,I2,I3,I4,I5,I6,I7,reduceIte,reduceCtorEq]
  exact hk r
theorem pdq_p {K : PV → Mem → Prop} {g v n : Nat} {l : List Int} {lim : Int} (hn : l.length = n) (hb : n ≤ 12) (hk : ∀ (v' : Nat) (l' : List Int),l'.Perm l → l'.Pairwise (· ≤ ·) → K (.tuple []) [.cells g v' (l'.map p64)]) :
    SemC tab 84 [.ref 0 g 1 0 n,p64 0,p64 n,p64 lim] [.cells g v (l.map p64)] K := by
  refine SemC_fn T.h84 ?_
  simp only [af84,PP,P1,P2,P3,P4,P5,P6,P7,P8,P9,P10,P11,P12,P13,P14,L1,P15,N1,N2,N3,N4,N5,N6,N7,I1,I2,I3,I4,I5,I6,I7,reduceIte,reduceCtorEq]
  refine loop1 (fun (k : Nat) => True) (fun k => [.ref 0 g 1 0 n,p64 0,p64 n,p64 lim,Z,Z,Z,Z,.bool true,.bool true,Z,Z,Z,Z,Z,Z,Z,Z,Z,Z,Z,Z,Z,Z,Z,Z,Z,Z,Z,Z,Z,Z,Z,Z,Z,Z,Z,Z,Z,Z,Z,Z,Z,Z,Z,Z,Z,Z,Z,Z,Z,Z,Z,Z,Z,Z,Z,Z,Z,Z,Z,Z,Z,Z,Z,Z,Z,Z,Z,Z,Z,Z,Z,Z,Z,Z,Z,Z,Z,Z,Z,Z,Z,Z,Z,Z,Z,Z,Z,Z,Z,Z,Z,Z,Z,Z,Z,Z,Z,Z,Z,Z,Z,Z,Z,Z,Z,Z,Z,Z,Z,Z,Z,Z,Z,Z,Z,Z,Z,Z,Z,Z,Z,Z,Z,Z,Z,Z,Z,Z,Z,Z,Z,Z]) (fun k => [.cells g v (l.map p64)]) (fun k => 0) 0 trivial (by simp only [PWeak_nil,PWeak_junk,PWeak_same,Int.cast_ofNat_Int,List.length_append,List.length_cons,List.length_nil,Nat.zero_add]) rfl ?_
  intro k _ ih
  have w0 : IntKind.i64.wrap ((n : Int) - 0) = n := by rw [wrap64 (by omega) (by omega)]; omega
  have c : (n : Int) ≤ 12 := by omega
  refine SemW_go (by kernel_rfl) ?_
  simp only [PP,P1,P2,P3,P4,P5,P6,P7,P8,P9,P10,P11,P12,P13,P14,L1,P15,N1,N2,N3,N4,N5,N6,N7,I1,I2,I3,I4,I5,I6,I7,reduceIte,reduceCtorEq,w0,c]
  refine isort_p T hn (by omega) (fun v' l' h1 h2 => ?_)
  simp only [PP,P1,P2,P3,P4,P5,P6,P7,P8,P9,P10,P11,P12,P13,P14,L1,P15,N1,N2,N3,N4,N5,N6,N7,I1,I2,I3,I4,I5,I6,I7,reduceIte,reduceCtorEq]
  exact hk v' l' h1 h2
theorem sort_p {K : PV → Mem → Prop} {g v n : Nat} {l : List Int} (hn : l.length = n) (hb : n ≤ 12) (hk : ∀ (v' : Nat) (l' : List Int),l'.Perm l → l'.Pairwise (· ≤ ·) → K (.tuple []) [.cells g v' (l'.map p64)]) :
    SemC tab 57 [.ref 0 g 1 0 n] [.cells g v (l.map p64)] K := by
  refine SemC_fn T.h57 ?_
  have w : IntKind.u64.wrap n = n := wrapU13 (by omega)
  simp only [af57,PP,P1,P2,P3,P4,P5,P6,P7,P8,P9,P10,P11,P12,P13,P14,L1,P15,N1,N2,N3,N4,N5,N6,N7,I1,I2,I3,I4,I5,I6,I7,reduceIte,reduceCtorEq,w]
  refine len_p T (by omega) (fun r => ?_)
  simp only [PP,P1,P2,P3,P4,P5,P6,P7,P8,P9,P10,P11,P12,P13,P14,L1,P15,N1,N2,N3,N4,N5,N6,N7,I1,I2,I3,I4,I5,I6,I7,reduceIte,reduceCtorEq]
  refine pdq_p T hn hb (fun v' l' h1 h2 => ?_)
  simp only [PP,P1,P2,P3,P4,P5,P6,P7,P8,P9,P10,P11,P12,P13,P14,L1,P15,N1,N2,N3,N4,N5,N6,N7,I1,I2,I3,I4,I5,I6,I7,reduceIte,reduceCtorEq]
  exact hk v' l' h1 h2
end
end Go.Am.Ar
set_option linter.unusedVariables false
set_option linter.unusedSimpArgs false
set_option maxRecDepth 10000
namespace Go.Am.Ar
open Go.Am.PV renaming junk → Z
open Go.Am renaming pchk → P1,pold → P2,PKNo → P3,ppack → P4,PObj.under → P5,pput → P6,ptset → P7,ptget → P8,pev → P9,ofAV → P10,ofAV1 → P11,ppad → P12,pfill → P13,prepl → P14,AO.effect → P15
open List renaming replicate → L1
open Nat renaming reduceAdd → N1,reduceSub → N2,reduceMul → N3,reduceLT → N4,reduceLeDiff → N5,reduceEqDiff → N6,reduceBEq → N7
open Int renaming reduceToNat → I1,reduceLT → I2,reduceLE → I3,reduceEq → I4,reduceAdd → I5,reduceSub → I6,reduceNeg → I7
section
variable {tab : FuncId → Option AF} (T : HasA tab)
include T
theorem len64a_p {M : Mem} {K : PV → Mem → Prop} (hk : K (p64 4) M) : SemC tab 107 [.int .u64 13] M K := by
  refine SemC_pure T.h107 (by simp only [PP,P1,P2,P3,P4,P5,P6,P7,P8,P9,P10,P11,P12,P13,P14,L1,P15,N1,N2,N3,N4,N5,N6,N7,I1,I2,I3,I4,I5,I6,I7,reduceIte,reduceCtorEq]) ?_
  have w8 : IntKind.u8.wrap 13 = 13 := by decide
  simp only [af107,PP,P1,P2,P3,P4,P5,P6,P7,P8,P9,P10,P11,P12,P13,P14,L1,P15,N1,N2,N3,N4,N5,N6,N7,I1,I2,I3,I4,I5,I6,I7,reduceIte,reduceCtorEq,w8,PS_indexStr,ZStr_str]
  refine (congrArg (fun o => ZSome o _ _) (show _ = some (4 : UInt8) by rfl)).mpr ?_
  have w4 : ((4 : UInt8).toNat : Int) = 4 := by decide
  have w5 : IntKind.i64.wrap 4 = 4 := by decide
  simp only [PP,P1,P2,P3,P4,P5,P6,P7,P8,P9,P10,P11,P12,P13,P14,L1,P15,N1,N2,N3,N4,N5,N6,N7,I1,I2,I3,I4,I5,I6,I7,reduceIte,reduceCtorEq,w4,w5]
  exact hk
theorem lenA_p {M : Mem} {K : PV → Mem → Prop} (hk : K (p64 4) M) : SemC tab 85 [.int .u64 13] M K := by
  refine SemC_pure T.h85 (by simp only [PP,P1,P2,P3,P4,P5,P6,P7,P8,P9,P10,P11,P12,P13,P14,L1,P15,N1,N2,N3,N4,N5,N6,N7,I1,I2,I3,I4,I5,I6,I7,reduceIte,reduceCtorEq]) ?_
  simp only [af85,PP,P1,P2,P3,P4,P5,P6,P7,P8,P9,P10,P11,P12,P13,P14,L1,P15,N1,N2,N3,N4,N5,N6,N7,I1,I2,I3,I4,I5,I6,I7,reduceIte,reduceCtorEq]
  refine len64a_p T ?_
  simp only [PP,P1,P2,P3,P4,P5,P6,P7,P8,P9,P10,P11,P12,P13,P14,L1,P15,N1,N2,N3,N4,N5,N6,N7,I1,I2,I3,I4,I5,I6,I7,reduceIte,reduceCtorEq]
  exact hk
theorem pdqR_p {K : PV → Mem → Prop} {g v n : Nat} {p s q : List Int} {ea eb lim : Int} (hn : p.length + s.length + q.length = n) (hb : n < 1000000000000) (h12 : s.length ≤ 12) (ha : ea = p.length) (hbb : eb = ((p.length + s.length : Nat) : Int)) (hk : ∀ (v' : Nat) (s' : List Int),s'.Perm s → s'.Pairwise (· ≤ ·) → K (.tuple []) [.cells g v' ((cat3 p s' q).map p64)]) :
    SemC tab 84 [.ref 0 g 1 0 n,p64 ea,p64 eb,p64 lim] [.cells g v ((cat3 p s q).map p64)] K := by
  refine SemC_fn T.h84 ?_
  simp only [af84,PP,P1,P2,P3,P4,P5,P6,P7,P8,P9,P10,P11,P12,P13,P14,L1,P15,N1,N2,N3,N4,N5,N6,N7,I1,I2,I3,I4,I5,I6,I7,reduceIte,reduceCtorEq]
  refine loop1 (fun (k : Nat) => True) (fun k => [.ref 0 g 1 0 n,p64 ea,p64 eb,p64 lim,Z,Z,Z,Z,.bool true,.bool true,Z,Z,Z,Z,Z,Z,Z,Z,Z,Z,Z,Z,Z,Z,Z,Z,Z,Z,Z,Z,Z,Z,Z,Z,Z,Z,Z,Z,Z,Z,Z,Z,Z,Z,Z,Z,Z,Z,Z,Z,Z,Z,Z,Z,Z,Z,Z,Z,Z,Z,Z,Z,Z,Z,Z,Z,Z,Z,Z,Z,Z,Z,Z,Z,Z,Z,Z,Z,Z,Z,Z,Z,Z,Z,Z,Z,Z,Z,Z,Z,Z,Z,Z,Z,Z,Z,Z,Z,Z,Z,Z,Z,Z,Z,Z,Z,Z,Z,Z,Z,Z,Z,Z,Z,Z,Z,Z,Z,Z,Z,Z,Z,Z,Z,Z,Z,Z,Z,Z,Z,Z,Z,Z,Z]) (fun k => [.cells g v ((cat3 p s q).map p64)]) (fun k => 0) 0 trivial (by simp only [PWeak_nil,PWeak_junk,PWeak_same,Int.cast_ofNat_Int,List.length_append,List.length_cons,List.length_nil,Nat.zero_add]) rfl ?_
  intro k _ ih
  have w0 : IntKind.i64.wrap (eb - ea) = (s.length : Int) := by rw [wrap64 (by omega) (by omega)]; omega
  have c : (s.length : Int) ≤ 12 := by omega
  refine SemW_go (by kernel_rfl) ?_
  simp only [PP,P1,P2,P3,P4,P5,P6,P7,P8,P9,P10,P11,P12,P13,P14,L1,P15,N1,N2,N3,N4,N5,N6,N7,I1,I2,I3,I4,I5,I6,I7,reduceIte,reduceCtorEq,w0,c]
  refine isortR_p T hn hb ha hbb (fun v' l' h1 h2 => ?_)
  simp only [PP,P1,P2,P3,P4,P5,P6,P7,P8,P9,P10,P11,P12,P13,P14,L1,P15,N1,N2,N3,N4,N5,N6,N7,I1,I2,I3,I4,I5,I6,I7,reduceIte,reduceCtorEq]
  exact hk v' l' h1 h2
set_option maxHeartbeats 1000000 in
theorem pdq13_p {K : PV → Mem → Prop} {g v : Nat} {l : List Int} (hn : l.length = 13) (hk : ∀ (v' : Nat) (l' : List Int),l'.Perm l → l'.Pairwise (· ≤ ·) → K (.tuple []) [.cells g v' (l'.map p64)]) :
    SemC tab 84 [.ref 0 g 1 0 13,p64 0,p64 13,p64 4] [.cells g v (l.map p64)] K := by
  refine SemC_fn T.h84 ?_
  simp only [af84,PP,P1,P2,P3,P4,P5,P6,P7,P8,P9,P10,P11,P12,P13,P14,L1,P15,N1,N2,N3,N4,N5,N6,N7,I1,I2,I3,I4,I5,I6,I7,reduceIte,reduceCtorEq]
  refine loop6 (fun (v : Nat) (p s q : List Int) (b8 b9 : Bool) => (p ++ (s ++ q)).Perm l ∧ (s.length ≤ 12 ∨ (p = [] ∧ q = [] ∧ b8 = true ∧ b9 = true)) ∧ p.Pairwise (· ≤ ·) ∧ q.Pairwise (· ≤ ·) ∧ (∀ x ∈ p, ∀ y ∈ s,x ≤ y) ∧ (∀ x ∈ s, ∀ y ∈ q,x ≤ y) ∧ ∀ x ∈ p, ∀ y ∈ q,x ≤ y)
    (fun v p s q b8 b9 => [.ref 0 g 1 0 13,p64 p.length,p64 ((p.length + s.length : Nat) : Int),p64 4,Z,Z,Z,Z,.bool b8,.bool b9,Z,Z,Z,Z,Z,Z,Z,Z,Z,Z,Z,Z,Z,Z,Z,Z,Z,Z,Z,Z,Z,Z,Z,Z,Z,Z,Z,Z,Z,Z,Z,Z,Z,Z,Z,Z,Z,Z,Z,Z,Z,Z,Z,Z,Z,Z,Z,Z,Z,Z,Z,Z,Z,Z,Z,Z,Z,Z,Z,Z,Z,Z,Z,Z,Z,Z,Z,Z,Z,Z,Z,Z,Z,Z,Z,Z,Z,Z,Z,Z,Z,Z,Z,Z,Z,Z,Z,Z,Z,Z,Z,Z,Z,Z,Z,Z,Z,Z,Z,Z,Z,Z,Z,Z,Z,Z,Z,Z,Z,Z,Z,Z,Z,Z,Z,Z,Z,Z,Z,Z,Z,Z,Z,Z]) (fun v p s q _ _ => [.cells g v ((cat3 p s q).map p64)]) (fun _ _ s _ _ _ => s.length) v [] l [] true true
    ⟨by simp,.inr ⟨rfl,rfl,rfl,rfl⟩,.nil,.nil,by simp,by simp,by simp⟩ (by simp only [PWeak_nil,PWeak_junk,PWeak_same,Int.cast_ofNat_Int,List.length_append,List.length_cons,List.length_nil,Nat.zero_add,hn]) (by simp [cat3]) ?_
  intro v p s q b8 b9 ⟨hp,hs,h1,h2,h3,h4,h5⟩ ih
  have hl := hp.length_eq
  simp only [List.length_append,hn] at hl
  have w0 : IntKind.i64.wrap (((p.length + s.length : Nat) : Int) - p.length) = (s.length : Int) := by rw [wrap64 (by omega) (by omega)]; omega
  refine SemW_go (by kernel_rfl) ?_
  simp only [PP,P1,P2,P3,P4,P5,P6,P7,P8,P9,P10,P11,P12,P13,P14,L1,P15,N1,N2,N3,N4,N5,N6,N7,I1,I2,I3,I4,I5,I6,I7,reduceIte,reduceCtorEq,w0]
  refine QIf.intro (fun c => ?_) (fun c => ?_)
  · simp only [PP,P1,P2,P3,P4,P5,P6,P7,P8,P9,P10,P11,P12,P13,P14,L1,P15,N1,N2,N3,N4,N5,N6,N7,I1,I2,I3,I4,I5,I6,I7,reduceIte,reduceCtorEq,c]
    refine isortR_p T (by omega) (by omega) rfl rfl (fun v' s' g1 g2 => ?_)
    simp only [PP,P1,P2,P3,P4,P5,P6,P7,P8,P9,P10,P11,P12,P13,P14,L1,P15,N1,N2,N3,N4,N5,N6,N7,I1,I2,I3,I4,I5,I6,I7,reduceIte,reduceCtorEq]
    refine hk v' (cat3 p s' q) ?_ ?_
    · unfold cat3
      exact (List.Perm.append_left p (List.Perm.append_right q g1)).trans hp
    · unfold cat3
      rw [List.pairwise_append,List.pairwise_append]
      refine ⟨h1,⟨g2,h2,fun x hx y hy => h4 x (g1.mem_iff.1 hx) y hy⟩,fun x hx y hy => ?_⟩
      rcases List.mem_append.1 hy with hy | hy
      · exact h3 x hx y (g1.mem_iff.1 hy)
      · exact h5 x hx y hy
  rcases hs with hs | ⟨rfl,rfl,rfl,rfl⟩
  · exact absurd (show (s.length : Int) ≤ 12 by omega) c
  have hs13 : s.length = 13 := by simp at hl; omega
  have e0 : cat3 [] s [] = s := by simp [cat3]
  have w9 : ∀ a : Int,IntKind.i64.wrap (a - 0) = IntKind.i64.wrap a := fun a => by rw [Int.sub_zero]
  simp only [PP,P1,P2,P3,P4,P5,P6,P7,P8,P9,P10,P11,P12,P13,P14,L1,P15,N1,N2,N3,N4,N5,N6,N7,I1,I2,I3,I4,I5,I6,I7,reduceIte,reduceCtorEq,c,e0,hs13]
  refine SemC_bor (args2 := [slI true false .i64 s,p64 0,p64 13]) (.ints rfl hs13 (.same (by simp only [PP,P1,P2,P3,P4,P5,P6,P7,P8,P9,P10,P11,P12,P13,P14,L1,P15,N1,N2,N3,N4,N5,N6,N7,I1,I2,I3,I4,I5,I6,I7,reduceIte,reduceCtorEq]) (.same (by simp only [PP,P1,P2,P3,P4,P5,P6,P7,P8,P9,P10,P11,P12,P13,P14,L1,P15,N1,N2,N3,N4,N5,N6,N7,I1,I2,I3,I4,I5,I6,I7,reduceIte,reduceCtorEq]) .nil))) (pivot_p T hs13 (fun a h a0 a1 hh => ⟨rfl, ?_⟩))
  have h2' : ¬ h = 2 := by omega
  simp only [PP,P1,P2,P3,P4,P5,P6,P7,P8,P9,P10,P11,P12,P13,P14,L1,P15,N1,N2,N3,N4,N5,N6,N7,I1,I2,I3,I4,I5,I6,I7,reduceIte,reduceCtorEq,h2']
  refine QIf.intro (fun c1 => ?_) (fun c1 => ?_)
  · simp only [PP,P1,P2,P3,P4,P5,P6,P7,P8,P9,P10,P11,P12,P13,P14,L1,P15,N1,N2,N3,N4,N5,N6,N7,I1,I2,I3,I4,I5,I6,I7,reduceIte,reduceCtorEq,c1]
    refine SemC_bor (args2 := [slI true false .i64 s,p64 0,p64 13]) (.ints rfl hs13 (.same (by simp only [PP,P1,P2,P3,P4,P5,P6,P7,P8,P9,P10,P11,P12,P13,P14,L1,P15,N1,N2,N3,N4,N5,N6,N7,I1,I2,I3,I4,I5,I6,I7,reduceIte,reduceCtorEq]) (.same (by simp only [PP,P1,P2,P3,P4,P5,P6,P7,P8,P9,P10,P11,P12,P13,P14,L1,P15,N1,N2,N3,N4,N5,N6,N7,I1,I2,I3,I4,I5,I6,I7,reduceIte,reduceCtorEq]) .nil))) (partial_p T (n := 13) hs13 (by omega) (by omega) (fun r hr => ⟨rfl, ?_⟩))
    cases r with
    | true =>
      simp only [PP,P1,P2,P3,P4,P5,P6,P7,P8,P9,P10,P11,P12,P13,P14,L1,P15,N1,N2,N3,N4,N5,N6,N7,I1,I2,I3,I4,I5,I6,I7,reduceIte,reduceCtorEq]
      exact hk _ s (by simpa using hp) (hr rfl)
    | false =>
      simp only [PP,P1,P2,P3,P4,P5,P6,P7,P8,P9,P10,P11,P12,P13,P14,L1,P15,N1,N2,N3,N4,N5,N6,N7,I1,I2,I3,I4,I5,I6,I7,reduceIte,reduceCtorEq]
      have ha : a = ((a.toNat : Nat) : Int) := by omega
      refine partition_p T (pv := a.toNat) hs13 (by omega) (by omega) (by omega) ha (fun v' u w x b g1 g2 g3 => ?_)
      have hlw := g1.length_eq
      rw [List.length_append,List.length_cons,hs13] at hlw
      have gp : (u ++ x :: w).Perm l := g1.trans (by simpa using hp)
      have wm : IntKind.i64.wrap (u.length : Int) = (u.length : Int) := wrap64 (by omega) (by omega)
      have wm1 : IntKind.i64.wrap ((13 : Int) - u.length) = (13 : Int) - u.length := wrap64 (by omega) (by omega)
      have wm2 : IntKind.i64.wrap ((u.length : Int) + 1) = ((u.length + 1 : Nat) : Int) := wrap_succ (by show _ < 1000000000000; omega)
      have hq : pbin .quo (.int .i64 13) (.int .i64 8) = some (.int .i64 (IntKind.i64.wrap ((13 : Int).tdiv 8))) := pbin_quo _ _ _ (by decide)
      obtain ⟨X,hX⟩ : ∃ X,X = u ++ x :: w := ⟨_,rfl⟩
      rw [← hX]
      simp only [PP,P1,P2,P3,P4,P5,P6,P7,P8,P9,P10,P11,P12,P13,P14,L1,P15,N1,N2,N3,N4,N5,N6,N7,I1,I2,I3,I4,I5,I6,I7,reduceIte,reduceCtorEq,w9,wm,wm1,hq]
      refine QIf.intro (fun c2 => ?_) (fun c2 => ?_)
      · simp only [PP,P1,P2,P3,P4,P5,P6,P7,P8,P9,P10,P11,P12,P13,P14,L1,P15,N1,N2,N3,N4,N5,N6,N7,I1,I2,I3,I4,I5,I6,I7,reduceIte,reduceCtorEq,c2]
        have e1 : u ++ x :: w = cat3 [] u (x :: w) := by simp [cat3]
        rw [hX,e1]
        refine pdqR_p T (by simp; omega) (by omega) (by omega) rfl (by simp) (fun v2 u' k1 k2 => ?_)
        have e2 : cat3 [] u' (x :: w) = cat3 (u' ++ [x]) w [] := by simp [cat3]
        rw [e2]
        have hul := k1.length_eq
        simp only [PP,P1,P2,P3,P4,P5,P6,P7,P8,P9,P10,P11,P12,P13,P14,L1,P15,N1,N2,N3,N4,N5,N6,N7,I1,I2,I3,I4,I5,I6,I7,reduceIte,reduceCtorEq,wm2]
        refine SemW_to (ih v2 (u' ++ [x]) w [] (decide (IntKind.i64.wrap (Int.tdiv 13 8) ≤ (u.length : Int))) b ⟨?_,.inl (by omega), ?_,.nil, ?_,by simp,by simp⟩ (by omega)) (by simp only [PWeak_nil,PWeak_junk,PWeak_same,Int.cast_ofNat_Int,List.length_append,List.length_cons,List.length_nil,Nat.zero_add,hul,show u.length + 1 + w.length = 13 by omega]) rfl
        · have : (u' ++ [x] ++ (w ++ [])).Perm (u ++ x :: w) := by simpa using List.Perm.append_right (x :: w) k1
          exact this.trans gp
        · rw [List.pairwise_append]
          exact ⟨k2,by simp,fun y hy z hz => by rw [List.mem_singleton] at hz; subst hz; exact g2 y (k1.mem_iff.1 hy)⟩
        · intro y hy z hz
          have hz2 := g3 z hz
          rcases List.mem_append.1 hy with hy | hy
          · have := g2 y (k1.mem_iff.1 hy); omega
          · rw [List.mem_singleton] at hy; omega
      · simp only [PP,P1,P2,P3,P4,P5,P6,P7,P8,P9,P10,P11,P12,P13,P14,L1,P15,N1,N2,N3,N4,N5,N6,N7,I1,I2,I3,I4,I5,I6,I7,reduceIte,reduceCtorEq,c2,wm2]
        have e1 : u ++ x :: w = cat3 (u ++ [x]) w [] := by simp [cat3]
        rw [hX,e1]
        refine pdqR_p T (by simp; omega) (by omega) (by omega) (by simp) (by simp; omega) (fun v2 w' k1 k2 => ?_)
        have e2 : cat3 (u ++ [x]) w' [] = cat3 [] u (x :: w') := by simp [cat3]
        rw [e2]
        have hwl := k1.length_eq
        simp only [PP,P1,P2,P3,P4,P5,P6,P7,P8,P9,P10,P11,P12,P13,P14,L1,P15,N1,N2,N3,N4,N5,N6,N7,I1,I2,I3,I4,I5,I6,I7,reduceIte,reduceCtorEq]
        refine SemW_to (ih v2 [] u (x :: w') (decide (IntKind.i64.wrap (Int.tdiv 13 8) ≤ (13 : Int) - u.length)) b ⟨?_,.inl (by omega),.nil, ?_,by simp, ?_,by simp⟩ (by omega)) (by simp only [PWeak_nil,PWeak_junk,PWeak_same,Int.cast_ofNat_Int,List.length_append,List.length_cons,List.length_nil,Nat.zero_add]) rfl
        · have : ([] ++ (u ++ (x :: w'))).Perm (u ++ x :: w) := by simpa using List.Perm.append_left u (List.Perm.cons x k1)
          exact this.trans gp
        · exact List.pairwise_cons.2 ⟨fun y hy => g3 y (k1.mem_iff.1 hy),k2⟩
        · intro y hy z hz
          have hy2 := g2 y hy
          rcases List.mem_cons.1 hz with rfl | hz
          · exact hy2
          · have := g3 z (k1.mem_iff.1 hz); omega
  · simp only [PP,P1,P2,P3,P4,P5,P6,P7,P8,P9,P10,P11,P12,P13,P14,L1,P15,N1,N2,N3,N4,N5,N6,N7,I1,I2,I3,I4,I5,I6,I7,reduceIte,reduceCtorEq,c1]
    have ha : a = ((a.toNat : Nat) : Int) := by omega
    refine partition_p T (pv := a.toNat) hs13 (by omega) (by omega) (by omega) ha (fun v' u w x b g1 g2 g3 => ?_)
    have hlw := g1.length_eq
    rw [List.length_append,List.length_cons,hs13] at hlw
    have gp : (u ++ x :: w).Perm l := g1.trans (by simpa using hp)
    have wm : IntKind.i64.wrap (u.length : Int) = (u.length : Int) := wrap64 (by omega) (by omega)
    have wm1 : IntKind.i64.wrap ((13 : Int) - u.length) = (13 : Int) - u.length := wrap64 (by omega) (by omega)
    have wm2 : IntKind.i64.wrap ((u.length : Int) + 1) = ((u.length + 1 : Nat) : Int) := wrap_succ (by show _ < 1000000000000; omega)
    have hq : pbin .quo (.int .i64 13) (.int .i64 8) = some (.int .i64 (IntKind.i64.wrap ((13 : Int).tdiv 8))) := pbin_quo _ _ _ (by decide)
    obtain ⟨X,hX⟩ : ∃ X,X = u ++ x :: w := ⟨_,rfl⟩
    rw [← hX]
    simp only [PP,P1,P2,P3,P4,P5,P6,P7,P8,P9,P10,P11,P12,P13,P14,L1,P15,N1,N2,N3,N4,N5,N6,N7,I1,I2,I3,I4,I5,I6,I7,reduceIte,reduceCtorEq,w9,wm,wm1,hq]
    refine QIf.intro (fun c2 => ?_) (fun c2 => ?_)
    · simp only [PP,P1,P2,P3,P4,P5,P6,P7,P8,P9,P10,P11,P12,P13,P14,L1,P15,N1,N2,N3,N4,N5,N6,N7,I1,I2,I3,I4,I5,I6,I7,reduceIte,reduceCtorEq,c2]
      have e1 : u ++ x :: w = cat3 [] u (x :: w) := by simp [cat3]
      rw [hX,e1]
      refine pdqR_p T (by simp; omega) (by omega) (by omega) rfl (by simp) (fun v2 u' k1 k2 => ?_)
      have e2 : cat3 [] u' (x :: w) = cat3 (u' ++ [x]) w [] := by simp [cat3]
      rw [e2]
      have hul := k1.length_eq
      simp only [PP,P1,P2,P3,P4,P5,P6,P7,P8,P9,P10,P11,P12,P13,P14,L1,P15,N1,N2,N3,N4,N5,N6,N7,I1,I2,I3,I4,I5,I6,I7,reduceIte,reduceCtorEq,wm2]
      refine SemW_to (ih v2 (u' ++ [x]) w [] (decide (IntKind.i64.wrap (Int.tdiv 13 8) ≤ (u.length : Int))) b ⟨?_,.inl (by omega), ?_,.nil, ?_,by simp,by simp⟩ (by omega)) (by simp only [PWeak_nil,PWeak_junk,PWeak_same,Int.cast_ofNat_Int,List.length_append,List.length_cons,List.length_nil,Nat.zero_add,hul,show u.length + 1 + w.length = 13 by omega]) rfl
      · have : (u' ++ [x] ++ (w ++ [])).Perm (u ++ x :: w) := by simpa using List.Perm.append_right (x :: w) k1
        exact this.trans gp
      · rw [List.pairwise_append]
        exact ⟨k2,by simp,fun y hy z hz => by rw [List.mem_singleton] at hz; subst hz; exact g2 y (k1.mem_iff.1 hy)⟩
      · intro y hy z hz
        have hz2 := g3 z hz
        rcases List.mem_append.1 hy with hy | hy
        · have := g2 y (k1.mem_iff.1 hy); omega
        · rw [List.mem_singleton] at hy; omega
    · simp only [PP,P1,P2,P3,P4,P5,P6,P7,P8,P9,P10,P11,P12,P13,P14,L1,P15,N1,N2,N3,N4,N5,N6,N7,I1,I2,I3,I4,I5,I6,I7,reduceIte,reduceCtorEq,c2,wm2]
      have e1 : u ++ x :: w = cat3 (u ++ [x]) w [] := by simp [cat3]
      rw [hX,e1]
      refine pdqR_p T (by simp; omega) (by omega) (by omega) (by simp) (by simp; omega) (fun v2 w' k1 k2 => ?_)
      have e2 : cat3 (u ++ [x]) w' [] = cat3 [] u (x :: w') := by simp [cat3]
      rw [e2]
      have hwl := k1.length_eq
      simp only [PP,P1,P2,P3,P4,P5,P6,P7,P8,P9,P10,P11,P12,P13,P14,L1,P15,N1,N2,N3,N4,N5,N6,N7,I1,I2,I3,I4,I5,I6,I7,reduceIte,reduceCtorEq]
      refine SemW_to (ih v2 [] u (x :: w') (decide (IntKind.i64.wrap (Int.tdiv 13 8) ≤ (13 : Int) - u.length)) b ⟨?_,.inl (by omega),.nil, ?_,by simp, ?_,by simp⟩ (by omega)) (by simp only [PWeak_nil,PWeak_junk,PWeak_same,Int.cast_ofNat_Int,List.length_append,List.length_cons,List.length_nil,Nat.zero_add]) rfl
      · have : ([] ++ (u ++ (x :: w'))).Perm (u ++ x :: w) := by simpa using List.Perm.append_left u (List.Perm.cons x k1)
        exact this.trans gp
      · exact List.pairwise_cons.2 ⟨fun y hy => g3 y (k1.mem_iff.1 hy),k2⟩
      · intro y hy z hz
        have hy2 := g2 y hy
        rcases List.mem_cons.1 hz with rfl | hz
        · exact hy2
        · have := g3 z (k1.mem_iff.1 hz); omega
theorem sort13_p {K : PV → Mem → Prop} {g v n : Nat} {l : List Int} (hn : l.length = n) (hb : n ≤ 13) (hk : ∀ (v' : Nat) (l' : List Int),l'.Perm l → l'.Pairwise (· ≤ ·) → K (.tuple []) [.cells g v' (l'.map p64)]) :
    SemC tab 57 [.ref 0 g 1 0 n] [.cells g v (l.map p64)] K := by
  by_cases h : n ≤ 12
  · exact sort_p T hn h hk
  have e : n = 13 := by omega
  subst e
  refine SemC_fn T.h57 ?_
  have w : IntKind.u64.wrap 13 = 13 := by decide
  simp only [af57,PP,P1,P2,P3,P4,P5,P6,P7,P8,P9,P10,P11,P12,P13,P14,L1,P15,N1,N2,N3,N4,N5,N6,N7,I1,I2,I3,I4,I5,I6,I7,reduceIte,reduceCtorEq,w]
  refine lenA_p T ?_
  simp only [PP,P1,P2,P3,P4,P5,P6,P7,P8,P9,P10,P11,P12,P13,P14,L1,P15,N1,N2,N3,N4,N5,N6,N7,I1,I2,I3,I4,I5,I6,I7,reduceIte,reduceCtorEq]
  refine pdq13_p T hn (fun v' l' h1 h2 => ?_)
  simp only [PP,P1,P2,P3,P4,P5,P6,P7,P8,P9,P10,P11,P12,P13,P14,L1,P15,N1,N2,N3,N4,N5,N6,N7,I1,I2,I3,I4,I5,I6,I7,reduceIte,reduceCtorEq]
  exact hk v' l' h1 h2
end
end Go.Am.Ar
set_option linter.unusedVariables false
namespace Go.Am.Ar
open Go.Am.PV renaming junk → Z
def itr (f : Nat → Nat) (v : Nat) : Nat → Nat
  | 0 => v
  | j + 1 => f (itr f v j)
theorem itr_lt {f : Nat → Nat} {n v : Nat} (hf : ∀ v,v < n → f v < n) (hv : v < n) : ∀ j,itr f v j < n
  | 0 => hv
  | j + 1 => hf _ (itr_lt hf hv j)
def its (f : Nat → Nat) (v m : Nat) : List Nat := (List.range m).map (itr f v)
theorem its_len (f : Nat → Nat) (v m : Nat) : (its f v m).length = m := by simp [its]
theorem its_get {f : Nat → Nat} {v m j : Nat} (h : j < m) : (its f v m)[j]? = some (itr f v j) := by simp [its,h]
theorem its_succ (f : Nat → Nat) (v m : Nat) : its f v (m + 1) = its f v m ++ [itr f v m] := by simp [its,List.range_succ]
theorem its_mem {f : Nat → Nat} {v m x : Nat} : x ∈ its f v m ↔ ∃ j,j < m ∧ itr f v j = x := by simp [its]
theorem its_lt {f : Nat → Nat} {n v m : Nat} (hf : ∀ v,v < n → f v < n) (hv : v < n) : ∀ x ∈ its f v m,x < n := by
  intro x hx
  obtain ⟨j,_,rfl⟩ := its_mem.1 hx
  exact itr_lt hf hv j
structure IsPlay (f : Nat → Nat) (v n : Nat) (p l : List Int) (m k : Nat) : Prop where
  km : k < m
  mn : m ≤ n
  nd : (its f v m).Nodup
  back : itr f v m = itr f v k
  p : p = natI ((its f v m).take k)
  l : l = natI ((its f v m).drop k)
theorem natI_inj {l : List Nat} {i : Nat} {v : Nat} (h : (natI l)[i]? = some (v : Int)) : l[i]? = some v := by
  rw [List.getElem?_map] at h
  cases h1 : l[i]? with
  | none => rw [h1] at h; cases h
  | some a =>
    rw [h1] at h
    have : (a : Int) = v := by simpa using h
    rw [show a = v by omega]
theorem playL_spec {st : List Int} {f : Nat → Nat} {n v : Nat} (hst : ∀ v,v < n → st[v]? = some ((f v : Nat) : Int)) (hf : ∀ v,v < n → f v < n) (hv : v < n) :
    ∀ (fuel m : Nat),m + fuel = n + 1 → (its f v m).Nodup → ∃ m' k,m ≤ m' ∧ IsPlay f v n (playL st fuel (itr f v m : Nat) (natI (its f v m))).1 (playL st fuel (itr f v m : Nat) (natI (its f v m))).2 m' k
  | 0,m,hm,hnd => by
    have := nodup_lenN n _ hnd (its_lt hf hv)
    rw [its_len] at this
    omega
  | fuel + 1,m,hm,hnd => by
    have hlen := nodup_lenN n _ hnd (its_lt hf hv)
    rw [its_len] at hlen
    unfold playL
    rcases idxI_spec (itr f v m : Nat) (natI (its f v m)) 0 with ⟨h1,h2⟩ | ⟨i,h1,h2,h3⟩
    · rw [h2,if_neg (by omega)]
      have hn : itr f v m ∉ its f v m := fun h => h1 (mem_natI.2 h)
      have e1 : st.getD (itr f v m : Int).toNat 0 = ((itr f v (m + 1) : Nat) : Int) := by
        rw [Int.toNat_natCast,List.getD,hst _ (itr_lt hf hv m)]; rfl
      have e2 : natI (its f v m) ++ [((itr f v m : Nat) : Int)] = natI (its f v (m + 1)) := by rw [its_succ]; simp
      rw [e1,e2]
      have hnd' : (its f v (m + 1)).Nodup := by
        rw [its_succ,List.nodup_append]
        exact ⟨hnd,by simp,fun a ha b hb e => by rw [List.mem_singleton] at hb; subst hb; subst e; exact hn ha⟩
      obtain ⟨m',k,h4,h5⟩ := playL_spec hst hf hv fuel (m + 1) (by omega) hnd'
      exact ⟨m',k,by omega,h5⟩
    · rw [h3,if_pos (by omega)]
      have h1' := natI_inj h1
      have hi := getSome_lt h1'
      rw [its_len] at hi
      rw [its_get hi] at h1'
      refine ⟨m,i,Nat.le_refl _,hi,hlen,hnd, ?_, ?_, ?_⟩
      · simp only [Option.some.injEq] at h1'; exact h1'.symm
      · simp [natI,List.map_take]
      · simp [natI,List.map_drop]
theorem play_spec {st : List Int} {f : Nat → Nat} {n v : Nat} (hst : ∀ v,v < n → st[v]? = some ((f v : Nat) : Int)) (hf : ∀ v,v < n → f v < n) (hv : v < n) :
    ∃ m k,IsPlay f v n (playL st (n + 1) v []).1 (playL st (n + 1) v []).2 m k := by
  obtain ⟨m,k,_,h⟩ := playL_spec hst hf hv (n + 1) 0 (by omega) (by simp [its])
  exact ⟨m,k,h⟩
theorem IsPlay.len {f : Nat → Nat} {n v m k : Nat} {p l : List Int} (h : IsPlay f v n p l m k) : p.length = k ∧ l.length = m - k := by
  rw [h.p,h.l]
  simp [its_len]
  have := h.km
  omega
theorem IsPlay.mem {f : Nat → Nat} {n v m k : Nat} {p l : List Int} (h : IsPlay f v n p l m k) (hf : ∀ v,v < n → f v < n) (hv : v < n) : ∀ x ∈ l,0 ≤ x ∧ x < n := by
  intro x hx
  rw [h.l] at hx
  obtain ⟨y,hy,rfl⟩ := List.mem_map.1 hx
  have := its_lt hf hv y (List.mem_of_mem_drop hy)
  omega
end Go.Am.Ar

