/- Contracts: slices.Sort of short lists, slices.Compact of sorted ones, and what goes with it. -/
import Derived.Test.YtfapjojfiaiidaaSimulateMatchesG2
import Derived.Test.YtfapjojfiaiidaaSimulateMatchesG0
import Derived.Test.YtfapjojfiaiidaaPmC
set_option linter.unusedVariables false
set_option linter.unusedSimpArgs false
set_option maxRecDepth 10000
namespace Go.Am.Ar
open Go.Am.PV renaming junk → Z
open Go.Am renaming pchk → P1,pold → P2,PKNo → P3,ppack → P4,PObj.under → P5,pput → P6,ptset → P7,ptget → P8,pev → P9,ofAV → P10,ofAV1 → P11,ppad → P12,pfill → P13,prepl → P14,AO.effect → P15
open List renaming replicate → L1
open Nat renaming reduceAdd → N1,reduceSub → N2,reduceMul → N3,reduceLT → N4,reduceLeDiff → N5,reduceEqDiff → N6,reduceBEq → N7
open Int renaming reduceToNat → I1,reduceLT → I2,reduceLE → I3,reduceEq → I4,reduceAdd → I5,reduceSub → I6,reduceNeg → I7
theorem wrapU13 {k : Nat} (h : k < 4000000000000) : IntKind.u64.wrap (k : Int) = (k : Int) := by
  simp only [IntKind.wrap,IntKind.signed,IntKind.bits]
  simp
  omega
theorem ZSome_byte {s : ByteArray} {x : Nat} (h : x < s.size) {k : UInt8 → Prop} {t : KTag k} (hk : ∀ c,k c) : ZSome s[x]? k t := by
  rw [getElem?_pos s x h,ZSome_some]; exact hk _
theorem drop_set {l : List Int} {j : Nat} {z : Int} {y : List Int} (h : j < l.length) (hy : y.length = j) : (y ++ l.drop j).set j z = (y ++ [z]) ++ l.drop (j + 1) := by
  rw [List.set_append_right _ _ (by omega),hy,Nat.sub_self,List.drop_eq_getElem_cons h]
  simp only [List.set_cons_zero,List.append_assoc,List.cons_append,List.nil_append]
section
variable {tab : FuncId → Option AF} (T : HasA tab)
include T
theorem len64_p {M : Mem} {K : PV → Mem → Prop} {x : Nat} (hx : x < 256) (hk : ∀ r : Int,K (p64 r) M) : SemC tab 99 [.int .u64 x] M K := by
  refine SemC_pure T.h99 (by simp only [PP,P1,P2,P3,P4,P5,P6,P7,P8,P9,P10,P11,P12,P13,P14,L1,P15,N1,N2,N3,N4,N5,N6,N7,I1,I2,I3,I4,I5,I6,I7,reduceIte,reduceCtorEq]) ?_
  have c1 : ¬ (4294967296 : Int) ≤ x := by omega
  have c2 : ¬ (65536 : Int) ≤ x := by omega
  have c3 : ¬ (256 : Int) ≤ x := by omega
  have w8 := wrap8 hx
  have x0 : (0 : Int) ≤ x := by omega
  simp only [af99,PP,P1,P2,P3,P4,P5,P6,P7,P8,P9,P10,P11,P12,P13,P14,L1,P15,N1,N2,N3,N4,N5,N6,N7,I1,I2,I3,I4,I5,I6,I7,reduceIte,reduceCtorEq,c1,c2,c3,w8,PS_indexStr,ZStr_str,x0]
  refine ZSome_byte hx (fun c => ?_)
  simp only [PP,P1,P2,P3,P4,P5,P6,P7,P8,P9,P10,P11,P12,P13,P14,L1,P15,N1,N2,N3,N4,N5,N6,N7,I1,I2,I3,I4,I5,I6,I7,reduceIte,reduceCtorEq]
  exact hk _
theorem len_p {M : Mem} {K : PV → Mem → Prop} {x : Nat} (hx : x < 256) (hk : ∀ r : Int,K (p64 r) M) : SemC tab 77 [.int .u64 x] M K := by
  refine SemC_pure T.h77 (by simp only [PP,P1,P2,P3,P4,P5,P6,P7,P8,P9,P10,P11,P12,P13,P14,L1,P15,N1,N2,N3,N4,N5,N6,N7,I1,I2,I3,I4,I5,I6,I7,reduceIte,reduceCtorEq]) ?_
  simp only [af77,PP,P1,P2,P3,P4,P5,P6,P7,P8,P9,P10,P11,P12,P13,P14,L1,P15,N1,N2,N3,N4,N5,N6,N7,I1,I2,I3,I4,I5,I6,I7,reduceIte,reduceCtorEq]
  refine len64_p T hx (fun r => ?_)
  simp only [PP,P1,P2,P3,P4,P5,P6,P7,P8,P9,P10,P11,P12,P13,P14,L1,P15,N1,N2,N3,N4,N5,N6,N7,I1,I2,I3,I4,I5,I6,I7,reduceIte,reduceCtorEq]
  exact hk r
theorem pdq_p {K : PV → Mem → Prop} {g v n : Nat} {l : List Int} {lim : Int} (hn : l.length = n) (hb : n ≤ 12) (hk : ∀ (v' : Nat) (l' : List Int),l'.Perm l → l'.Pairwise (· ≤ ·) → K (.tuple []) [.cells g v' (l'.map p64)]) :
    SemC tab 76 [.ref 0 g 1 0 n,p64 0,p64 n,p64 lim] [.cells g v (l.map p64)] K := by
  refine SemC_fn T.h76 ?_
  simp only [af76,PP,P1,P2,P3,P4,P5,P6,P7,P8,P9,P10,P11,P12,P13,P14,L1,P15,N1,N2,N3,N4,N5,N6,N7,I1,I2,I3,I4,I5,I6,I7,reduceIte,reduceCtorEq]
  refine loop1 (fun (k : Nat) => True) (fun k => [.ref 0 g 1 0 n,p64 0,p64 n,p64 lim,Z,Z,Z,Z,.bool true,.bool true,Z,Z,Z,Z,Z,Z,Z,Z,Z,Z,Z,Z,Z,Z,Z,Z,Z,Z,Z,Z,Z,Z,Z,Z,Z,Z,Z,Z,Z,Z,Z,Z,Z,Z,Z,Z,Z,Z,Z,Z,Z,Z,Z,Z,Z,Z,Z,Z,Z,Z,Z,Z,Z,Z,Z,Z,Z,Z,Z,Z,Z,Z,Z,Z,Z,Z,Z,Z,Z,Z,Z,Z,Z,Z,Z,Z,Z,Z,Z,Z,Z,Z,Z,Z,Z,Z,Z,Z,Z,Z,Z,Z,Z,Z,Z,Z,Z,Z,Z,Z,Z,Z,Z,Z,Z,Z,Z,Z,Z,Z,Z,Z,Z,Z,Z,Z,Z,Z,Z,Z,Z,Z,Z,Z]) (fun k => [.cells g v (l.map p64)]) (fun k => 0) 0 trivial (by simp only [PWeak_nil,PWeak_junk,PWeak_same,Int.cast_ofNat_Int,List.length_append,List.length_cons,List.length_nil,Nat.zero_add]) rfl ?_
  intro k _ ih
  have w0 : IntKind.i64.wrap ((n : Int) - 0) = n := by rw [wrap64 (by omega) (by omega)]; omega
  have c : (n : Int) ≤ 12 := by omega
  refine SemW_go (by kernel_rfl) ?_
  simp only [PP,P1,P2,P3,P4,P5,P6,P7,P8,P9,P10,P11,P12,P13,P14,L1,P15,N1,N2,N3,N4,N5,N6,N7,I1,I2,I3,I4,I5,I6,I7,reduceIte,reduceCtorEq,w0,c]
  refine isort_p T hn (by omega) (fun v' l' h1 h2 => ?_)
  simp only [PP,P1,P2,P3,P4,P5,P6,P7,P8,P9,P10,P11,P12,P13,P14,L1,P15,N1,N2,N3,N4,N5,N6,N7,I1,I2,I3,I4,I5,I6,I7,reduceIte,reduceCtorEq]
  exact hk v' l' h1 h2
theorem sort_p {K : PV → Mem → Prop} {g v n : Nat} {l : List Int} (hn : l.length = n) (hb : n ≤ 12) (hk : ∀ (v' : Nat) (l' : List Int),l'.Perm l → l'.Pairwise (· ≤ ·) → K (.tuple []) [.cells g v' (l'.map p64)]) :
    SemC tab 48 [.ref 0 g 1 0 n] [.cells g v (l.map p64)] K := by
  refine SemC_fn T.h48 ?_
  have w : IntKind.u64.wrap n = n := wrapU13 (by omega)
  simp only [af48,PP,P1,P2,P3,P4,P5,P6,P7,P8,P9,P10,P11,P12,P13,P14,L1,P15,N1,N2,N3,N4,N5,N6,N7,I1,I2,I3,I4,I5,I6,I7,reduceIte,reduceCtorEq,w]
  refine len_p T (by omega) (fun r => ?_)
  simp only [PP,P1,P2,P3,P4,P5,P6,P7,P8,P9,P10,P11,P12,P13,P14,L1,P15,N1,N2,N3,N4,N5,N6,N7,I1,I2,I3,I4,I5,I6,I7,reduceIte,reduceCtorEq]
  refine pdq_p T hn hb (fun v' l' h1 h2 => ?_)
  simp only [PP,P1,P2,P3,P4,P5,P6,P7,P8,P9,P10,P11,P12,P13,P14,L1,P15,N1,N2,N3,N4,N5,N6,N7,I1,I2,I3,I4,I5,I6,I7,reduceIte,reduceCtorEq]
  exact hk v' l' h1 h2
set_option maxHeartbeats 1000000 in
theorem compact_p {K : PV → Mem → Prop} {g v n : Nat} {l : List Int} (hn : l.length = n) (hb : n < 1000000000000) (hs : l.Pairwise (· ≤ ·)) (hk : ∀ (v' : Nat) (y pad : List Int),y.Pairwise (· < ·) → (∀ c,c ∈ y ↔ c ∈ l) → K (.ref 0 g 1 0 y.length) [.cells g v' ((y ++ pad).map p64)]) :
    SemC tab 49 [.ref 0 g 1 0 n] [.cells g v (l.map p64)] K := by
  refine SemC_fn T.h49 ?_
  simp only [af49,PP,P1,P2,P3,P4,P5,P6,P7,P8,P9,P10,P11,P12,P13,P14,L1,P15,N1,N2,N3,N4,N5,N6,N7,I1,I2,I3,I4,I5,I6,I7,reduceIte,reduceCtorEq]
  have all : l.Pairwise (· < ·) → K (.ref 0 g 1 0 n) [.cells g v (l.map p64)] := fun h => by
    have := hk v l [] h (fun c => Iff.rfl)
    rw [List.append_nil,hn] at this; exact this
  refine QIf.intro (fun c => ?_) (fun c => ?_)
  · simp only [PP,P1,P2,P3,P4,P5,P6,P7,P8,P9,P10,P11,P12,P13,P14,L1,P15,N1,N2,N3,N4,N5,N6,N7,I1,I2,I3,I4,I5,I6,I7,reduceIte,reduceCtorEq,c]
    refine all ?_
    match l,hn with
    | [],_ => simp
    | [a],_ => simp
    | a :: b :: l,h => simp at h; omega
  simp only [PP,P1,P2,P3,P4,P5,P6,P7,P8,P9,P10,P11,P12,P13,P14,L1,P15,N1,N2,N3,N4,N5,N6,N7,I1,I2,I3,I4,I5,I6,I7,reduceIte,reduceCtorEq,c]
  have w1 : IntKind.i64.wrap 1 = ((1 : Nat) : Int) := rfl
  refine loop1 (fun (k : Nat) => 1 ≤ k ∧ k ≤ n ∧ (l.take k).Pairwise (· < ·)) (fun k => [.ref 0 g 1 0 n,Z,Z,p64 k,Z,Z,Z,Z,Z,Z,Z,Z,Z,Z,Z,Z,Z,Z,Z,Z,Z,Z,Z,Z,Z,Z,Z,Z,Z,Z,Z,Z,Z,Z,Z,Z,Z,Z,Z,Z,Z,Z,Z,Z,Z,Z,Z,Z,Z,Z,Z,Z,Z,Z,Z,Z,Z,Z,Z,Z,Z]) (fun k => [.cells g v (l.map p64)]) (fun k => n - k) 1 ⟨by omega,by omega,by match l with | [] => simp | [a] => simp | a :: b :: c => simp⟩ (by simp only [PWeak_nil,PWeak_junk,PWeak_same,Int.cast_ofNat_Int,List.length_append,List.length_cons,List.length_nil,Nat.zero_add]) rfl ?_
  intro k ⟨hk1,hkn,hst⟩ ih
  refine SemW_go (by kernel_rfl) ?_
  simp only [PP,P1,P2,P3,P4,P5,P6,P7,P8,P9,P10,P11,P12,P13,P14,L1,P15,N1,N2,N3,N4,N5,N6,N7,I1,I2,I3,I4,I5,I6,I7,reduceIte,reduceCtorEq]
  refine QIf.intro (fun d => ?_) (fun d => ?_)
  rotate_left
  · simp only [PP,P1,P2,P3,P4,P5,P6,P7,P8,P9,P10,P11,P12,P13,P14,L1,P15,N1,N2,N3,N4,N5,N6,N7,I1,I2,I3,I4,I5,I6,I7,reduceIte,reduceCtorEq,d]
    exact all (by rw [List.take_of_length_le (by omega)] at hst; exact hst)
  have hk' : k < n := by omega
  obtain ⟨a,ga⟩ := some_of (xs := l) (k := k) (by omega)
  obtain ⟨b,gb⟩ := some_of (xs := l) (k := k - 1) (by omega)
  have k0 : (0 : Int) ≤ k := by omega
  have k1 : (0 : Int) ≤ ((k - 1 : Nat) : Int) := by omega
  have k2 : ((k - 1 : Nat) : Int) < n := by omega
  have wk : IntKind.i64.wrap ((k : Int) - 1) = ((k - 1 : Nat) : Int) := by rw [wrap64 (by omega) (by omega)]; omega
  have hwk := wrap_succ (k := k) (by show _ < 1000000000000; omega)
  have mono : ∀ i j a b,i < j → l[i]? = some a → l[j]? = some b → a ≤ b := fun i j a b h h1 h2 => by
    obtain ⟨h3,h4⟩ := List.getElem?_eq_some_iff.1 h1
    obtain ⟨h5,h6⟩ := List.getElem?_eq_some_iff.1 h2
    rw [← h4, ← h6]; exact List.pairwise_iff_getElem.1 hs i j h3 h5 h
  have tkm : ∀ j c,c ∈ l.take j ↔ ∃ i,i < j ∧ l[i]? = some c := fun j c => by
    constructor
    · intro h
      obtain ⟨i,hi⟩ := List.getElem?_of_mem h
      rw [List.getElem?_take] at hi
      split at hi
      · exact ⟨i,by assumption,hi⟩
      · cases hi
    · rintro ⟨i,h1,h2⟩
      exact List.mem_of_getElem? (i := i) (by rw [List.getElem?_take,if_pos h1]; exact h2)
  have hab := mono (k - 1) k b a (by omega) gb ga
  simp only [PP,P1,P2,P3,P4,P5,P6,P7,P8,P9,P10,P11,P12,P13,P14,L1,P15,N1,N2,N3,N4,N5,N6,N7,I1,I2,I3,I4,I5,I6,I7,reduceIte,reduceCtorEq,d,k0,k1,k2,wk,ga,gb]
  by_cases e : a = b
  · subst e
    have kn2 : (k : Int) ≤ n := by omega
    have sn : ((n : Int) - k).toNat = n - k := by omega
    have tk1 : ∀ c,c ∈ l.take k ↔ c ∈ l.take (k + 1) := fun c => by
      rw [tkm,tkm]
      constructor
      · rintro ⟨i,h1,h2⟩; exact ⟨i,by omega,h2⟩
      · rintro ⟨i,h1,h2⟩
        by_cases z : i = k
        · subst z; exact ⟨i - 1,by omega,by rw [gb, ← h2,ga]⟩
        · exact ⟨i,by omega,h2⟩
    have htl : (l.take k).length = k := by simp; omega
    simp only [PP,P1,P2,P3,P4,P5,P6,P7,P8,P9,P10,P11,P12,P13,P14,L1,P15,N1,N2,N3,N4,N5,N6,N7,I1,I2,I3,I4,I5,I6,I7,reduceIte,reduceCtorEq,k0,kn2,sn,w1]
    refine ⟨by omega, ?_⟩
    refine loop3 (fun (j v : Nat) (y : List Int) => 1 ≤ j ∧ k + j ≤ n ∧ y.Pairwise (· < ·) ∧ (∀ c,c ∈ y ↔ c ∈ l.take (k + j)) ∧ y.length + 1 ≤ k + j) (fun j v y => [.ref 0 g 1 0 n,Z,Z,p64 y.length,.ref 0 g 1 k (n - k),p64 j,Z,Z,Z,Z,Z,Z,Z,Z,Z,Z,Z,Z,Z,Z,Z,Z,Z,Z,Z,Z,Z,Z,Z,Z,Z,Z,Z,Z,Z,Z,Z,Z,Z,Z,Z,Z,Z,Z,Z,Z,Z,Z,Z,Z,Z,Z,Z,Z,Z,Z,Z,Z,Z,Z,Z]) (fun j v y => [.cells g v ((y ++ l.drop y.length).map p64)]) (fun j _ _ => n - j) 1 v (l.take k) ⟨by omega,by omega,hst,tk1,by omega⟩ (by rw [htl]; exact by simp only [PWeak_nil,PWeak_junk,PWeak_same,Int.cast_ofNat_Int,List.length_append,List.length_cons,List.length_nil,Nat.zero_add]) (by rw [htl,List.take_append_drop]) ?_
    intro j v y ⟨hj1,hjn,hys,hym,hyl⟩ ih2
    obtain ⟨X,hX⟩ : ∃ X,X = y ++ l.drop y.length := ⟨_,rfl⟩
    have hXl : X.length = n := by rw [hX]; simp; omega
    rw [← hX]
    refine SemW_go (by kernel_rfl) ?_
    simp only [PP,P1,P2,P3,P4,P5,P6,P7,P8,P9,P10,P11,P12,P13,P14,L1,P15,N1,N2,N3,N4,N5,N6,N7,I1,I2,I3,I4,I5,I6,I7,reduceIte,reduceCtorEq]
    refine QIf.intro (fun d2 => ?_) (fun d2 => ?_)
    rotate_left
    · have hfin : k + j = n := by omega
      have hyn : (y.length : Int) ≤ n := by omega
      have y0 : (0 : Int) ≤ y.length := by omega
      have sn2 : ((n : Int) - y.length).toNat = n - y.length := by omega
      rw [hfin,List.take_of_length_le (by omega)] at hym
      have nz : ¬ n - y.length = 0 := by omega
      have hpr : (List.replicate (n - y.length) (PV.int .i64 0)).all PV.one = true := by
        simp [PV.one]
      have n2 : ((n : Int) ≤ n) := by omega
      have e3 : (X.map p64).take y.length ++ List.replicate (n - y.length) (PV.int .i64 0) ++ (X.map p64).drop (y.length + (n - y.length)) = (y ++ List.replicate (n - y.length) 0).map p64 := by
        rw [List.drop_eq_nil_of_le (by simp; omega), ← List.map_take,hX,List.take_left' rfl,List.append_nil,List.map_append,List.map_replicate]
      simp only [PP,P1,P2,P3,P4,P5,P6,P7,P8,P9,P10,P11,P12,P13,P14,L1,P15,N1,N2,N3,N4,N5,N6,N7,I1,I2,I3,I4,I5,I6,I7,reduceIte,reduceCtorEq,d2,hyn,y0,sn2,PS_copyS,PS_clearS,ZCopy_ref,ZClear_ref,nz,hpr,n2]
      rw [e3,show ((y.length : Int) - 0).toNat = y.length by omega]
      exact ⟨by omega,hk _ _ _ hys hym⟩
    obtain ⟨p,gp⟩ := some_of (xs := l) (k := k + j) (by omega)
    obtain ⟨q,gq⟩ := some_of (xs := l) (k := k + (j - 1)) (by omega)
    have xp : X[k + j]? = some p := by rw [hX,List.getElem?_append_right (by omega),List.getElem?_drop, ← gp]; congr 1; omega
    have xq : X[k + (j - 1)]? = some q := by rw [hX,List.getElem?_append_right (by omega),List.getElem?_drop, ← gq]; congr 1; omega
    have j0 : (0 : Int) ≤ j := by omega
    have j1 : (0 : Int) ≤ ((j - 1 : Nat) : Int) := by omega
    have j2 : ((j - 1 : Nat) : Int) < ((n - k : Nat) : Int) := by omega
    have wj : IntKind.i64.wrap ((j : Int) - 1) = ((j - 1 : Nat) : Int) := by rw [wrap64 (by omega) (by omega)]; omega
    have hwj := wrap_succ (k := j) (by show _ < 1000000000000; omega)
    have hwy := wrap_succ (k := y.length) (by show _ < 1000000000000; omega)
    have hpq := mono (k + (j - 1)) (k + j) q p (by omega) gq gp
    have y0 : (0 : Int) ≤ y.length := by omega
    have yn : (y.length : Int) < n := by omega
    simp only [PP,P1,P2,P3,P4,P5,P6,P7,P8,P9,P10,P11,P12,P13,P14,L1,P15,N1,N2,N3,N4,N5,N6,N7,I1,I2,I3,I4,I5,I6,I7,reduceIte,reduceCtorEq,d2,j0,j1,j2,wj,xp,xq]
    by_cases e2 : p = q
    · simp only [PP,P1,P2,P3,P4,P5,P6,P7,P8,P9,P10,P11,P12,P13,P14,L1,P15,N1,N2,N3,N4,N5,N6,N7,I1,I2,I3,I4,I5,I6,I7,reduceIte,reduceCtorEq,e2,hwj]
      refine SemW_to (ih2 (j + 1) v y ⟨by omega,by omega,hys,fun c => ?_,by omega⟩ (by omega)) (by simp only [PWeak_nil,PWeak_junk,PWeak_same,Int.cast_ofNat_Int,List.length_append,List.length_cons,List.length_nil,Nat.zero_add]) (by rw [hX])
      rw [hym,tkm,tkm]
      constructor
      · rintro ⟨i,h1,h2⟩; exact ⟨i,by omega,h2⟩
      · rintro ⟨i,h1,h2⟩
        by_cases z : i = k + j
        · subst z; exact ⟨k + (j - 1),by omega,by rw [gq, ← h2,gp,e2]⟩
        · exact ⟨i,by omega,h2⟩
    · simp only [PP,P1,P2,P3,P4,P5,P6,P7,P8,P9,P10,P11,P12,P13,P14,L1,P15,N1,N2,N3,N4,N5,N6,N7,I1,I2,I3,I4,I5,I6,I7,reduceIte,reduceCtorEq,e2,hwj,hwy,j0,j1,j2,xp,xq,y0,yn]
      refine ⟨by omega,by omega,SemW_to (ih2 (j + 1) (v + 1) (y ++ [p]) ⟨by omega,by omega, ?_,fun c => ?_,by simp; omega⟩ (by omega)) ?_ ?_⟩
      · refine List.pairwise_append.2 ⟨hys,by simp,fun c hc z hz => ?_⟩
        simp at hz
        subst hz
        obtain ⟨i,h1,h2⟩ := (tkm _ c).1 ((hym c).1 hc)
        by_cases z : i = k + (j - 1)
        · subst z; rw [gq] at h2; cases h2; omega
        · have := mono i (k + (j - 1)) c q (by omega) h2 gq
          omega
      · rw [List.mem_append,hym,tkm,tkm,List.mem_singleton]
        constructor
        · rintro (⟨i,h1,h2⟩ | rfl)
          · exact ⟨i,by omega,h2⟩
          · exact ⟨k + j,by omega,gp⟩
        · rintro ⟨i,h1,h2⟩
          by_cases z : i = k + j
          · subst z; rw [gp] at h2; cases h2; exact .inr rfl
          · exact .inl ⟨i,by omega,h2⟩
      · rw [List.length_append,List.length_singleton]; exact by simp only [PWeak_nil,PWeak_junk,PWeak_same,Int.cast_ofNat_Int,List.length_append,List.length_cons,List.length_nil,Nat.zero_add]
      · rw [List.length_append,List.length_singleton, ← drop_set (by omega) rfl, ← hX,List.map_set]
  · simp only [PP,P1,P2,P3,P4,P5,P6,P7,P8,P9,P10,P11,P12,P13,P14,L1,P15,N1,N2,N3,N4,N5,N6,N7,I1,I2,I3,I4,I5,I6,I7,reduceIte,reduceCtorEq,e,hwk]
    refine SemW_to (ih (k + 1) ⟨by omega,by omega, ?_⟩ (by omega)) (by simp only [PWeak_nil,PWeak_junk,PWeak_same,Int.cast_ofNat_Int,List.length_append,List.length_cons,List.length_nil,Nat.zero_add]) rfl
    rw [List.take_add_one,ga]
    refine List.pairwise_append.2 ⟨hst,by simp,fun c hc z hz => ?_⟩
    obtain ⟨i,h1,h2⟩ := (tkm k c).1 hc
    simp at hz
    subst hz
    by_cases z : i = k - 1
    · subst z; rw [gb] at h2; cases h2; omega
    · have := mono i (k - 1) c b (by omega) h2 gb
      omega
end
end Go.Am.Ar
set_option linter.unusedVariables false
set_option linter.unusedSimpArgs false
set_option maxRecDepth 10000
namespace Go.Am.Ar
open Go.Am.PV renaming junk → Z
open Go.Am renaming pchk → P1,pold → P2,PKNo → P3,ppack → P4,PObj.under → P5,pput → P6,ptset → P7,ptget → P8,pev → P9,ofAV → P10,ofAV1 → P11,ppad → P12,pfill → P13,prepl → P14,AO.effect → P15
open List renaming replicate → L1
open Nat renaming reduceAdd → N1,reduceSub → N2,reduceMul → N3,reduceLT → N4,reduceLeDiff → N5,reduceEqDiff → N6,reduceBEq → N7
open Int renaming reduceToNat → I1,reduceLT → I2,reduceLE → I3,reduceEq → I4,reduceAdd → I5,reduceSub → I6,reduceNeg → I7
def clAt (l : List Int) (q : Int) : Int := (l[q.toNat]?).getD 0
def setQ (l xs : List Int) (m : Nat) : List Int := ((List.range m).filter fun (k : Nat) => xs.any fun x => clAt l x == (k : Int)).map fun (k : Nat) => (k : Int)
def edQ (l : List Int) (e : Eg) : Eg := { e with fr := clAt l e.fr,to := clAt l e.to }
def addE (acc : List Eg) (e : Eg) : List Eg := if e ∈ acc then acc else acc ++ [e]
def edsQ (l : List Int) (es : List Eg) : List Eg := es.foldl (fun acc e => addE acc (edQ l e)) []
def quoN (N : NF) (l : List Int) (m : Nat) : NF := ⟨N.vs,m,setQ l N.st m,setQ l N.fi m,edsQ l N.es⟩
theorem sorted_uniq : ∀ {y z : List Int},y.Pairwise (· < ·) → z.Pairwise (· < ·) → (∀ c,c ∈ y ↔ c ∈ z) → y = z
  | [],[],_,_,_ => rfl
  | [],b :: z,_,_,h => absurd ((h b).2 (by simp)) (by simp)
  | a :: y,[],_,_,h => absurd ((h a).1 (by simp)) (by simp)
  | a :: y,b :: z,h1,h2,h => by
    have p1 := List.pairwise_cons.1 h1
    have p2 := List.pairwise_cons.1 h2
    have e : a = b := by
      rcases List.mem_cons.1 ((h a).1 (by simp)) with x | x
      · exact x
      · rcases List.mem_cons.1 ((h b).2 (by simp)) with y | y
        · exact y.symm
        · have := p1.1 b y; have := p2.1 a x; omega
    subst e
    congr 1
    refine sorted_uniq p1.2 p2.2 fun c => ⟨fun hc => ?_,fun hc => ?_⟩
    · rcases List.mem_cons.1 ((h c).1 (List.mem_cons_of_mem _ hc)) with x | x
      · have := p1.1 c hc; omega
      · exact x
    · rcases List.mem_cons.1 ((h c).2 (List.mem_cons_of_mem _ hc)) with x | x
      · have := p2.1 c hc; omega
      · exact x
theorem setQ_sorted (l xs : List Int) (m : Nat) : (setQ l xs m).Pairwise (· < ·) := by
  unfold setQ
  rw [List.pairwise_map]
  refine List.Pairwise.filter _ ?_
  exact (List.pairwise_lt_range (n := m)).imp fun h => by omega
theorem mem_setQ {l xs : List Int} {m : Nat} {c : Int} : c ∈ setQ l xs m ↔ (0 ≤ c ∧ c < m) ∧ ∃ x ∈ xs,clAt l x = c := by
  unfold setQ
  rw [List.mem_map]
  constructor
  · rintro ⟨k,hk,rfl⟩
    rw [List.mem_filter,List.mem_range,List.any_eq_true] at hk
    obtain ⟨h1,x,h2,h3⟩ := hk
    exact ⟨by omega,x,h2,by simpa using h3⟩
  · rintro ⟨h1,x,h2,h3⟩
    refine ⟨c.toNat,List.mem_filter.2 ⟨List.mem_range.2 (by omega),List.any_eq_true.2 ⟨x,h2, ?_⟩⟩,by omega⟩
    rw [h3]; simp; omega
theorem clAt_some {l : List Int} {x c : Int} (h : l[x.toNat]? = some c) : clAt l x = c := by unfold clAt; rw [h]; rfl
theorem setQ_of {l xs y : List Int} {m : Nat} (h1 : y.Pairwise (· < ·)) (h2 : ∀ c,c ∈ y ↔ c ∈ xs.map (clAt l)) (h3 : ∀ x ∈ xs,0 ≤ clAt l x ∧ clAt l x < m) : y = setQ l xs m := by
  refine sorted_uniq h1 (setQ_sorted _ _ _) fun c => ?_
  rw [h2,mem_setQ,List.mem_map]
  exact ⟨fun ⟨x,a,e⟩ => ⟨by rw [← e]; exact h3 x a,x,a,e⟩,fun ⟨_,x,a,e⟩ => ⟨x,a,e⟩⟩
section
variable {tab : FuncId → Option AF} (T : HasA tab)
include T
theorem quo1_p {M : Mem} {K : PV → Mem → Prop} {f o f2 o2 : Bool} {l xs : List Int} {m : Nat} (hx : xs.length ≤ 12) (hl : l.length < 1000000000000) (hb : ∀ x ∈ xs,0 ≤ x ∧ x < l.length) (hc : ∀ c ∈ l,0 ≤ c ∧ c < m) (hk : K (slI false true .i64 (setQ l xs m)) M) :
    SemC tab 47 [slI f o .i64 xs,.cp [slI f2 o2 .i64 l] 0] M K := by
  refine SemC_pure T.h47 (by simp only [PP,P1,P2,P3,P4,P5,P6,P7,P8,P9,P10,P11,P12,P13,P14,L1,P15,N1,N2,N3,N4,N5,N6,N7,I1,I2,I3,I4,I5,I6,I7,reduceIte,reduceCtorEq,PV.under]) ?_
  simp only [af47,PP,P1,P2,P3,P4,P5,P6,P7,P8,P9,P10,P11,P12,P13,P14,L1,P15,N1,N2,N3,N4,N5,N6,N7,I1,I2,I3,I4,I5,I6,I7,reduceIte,reduceCtorEq]
  refine SemW_re (GStep.nil 4 1 rfl rfl rfl) ?_
  simp only [ptset,List.cons_append,List.nil_append,List.length_cons,List.length_nil,Nat.reduceAdd]
  refine loop3 (fun (k g v : Nat) => k ≤ xs.length) (fun k g v => [Z,.cp [slI f2 o2 .i64 l] 0,Z,Z,.ref 0 g 1 0 k,Z,Z,slI f o .i64 xs,p64 xs.length,p64 k,Z,Z,Z,Z,Z,Z,Z,Z,Z,Z,Z,Z,Z,Z,Z]) (fun k g v => [.cells g v (((xs.take k).map (clAt l)).map p64)]) (fun k _ _ => xs.length - k) 0 0 0 (by omega) (by simp only [PWeak_nil,PWeak_junk,PWeak_same,Int.cast_ofNat_Int,List.length_append,List.length_cons,List.length_nil,Nat.zero_add]) rfl ?_
  intro k g v hle ih
  refine SemW_go (by kernel_rfl) ?_
  simp only [PP,P1,P2,P3,P4,P5,P6,P7,P8,P9,P10,P11,P12,P13,P14,L1,P15,N1,N2,N3,N4,N5,N6,N7,I1,I2,I3,I4,I5,I6,I7,reduceIte,reduceCtorEq]
  refine QIf.intro (fun d => ?_) (fun d => ?_)
  · have hk' : k < xs.length := by omega
    obtain ⟨x,gx⟩ := some_of hk'
    obtain ⟨x0,xl⟩ := hb x (List.mem_of_getElem? gx)
    obtain ⟨c,gc⟩ := some_of (xs := l) (k := x.toNat) (by omega)
    have k0 : (0 : Int) ≤ k := by omega
    have hwk := wrap_succ (k := k) (by show _ < 1000000000000; omega)
    have b8 : (k + 1) * 8 ≤ 140737488355328 := by omega
    have b1 : k ≤ 9223372036854775806 := by omega
    have hln : ((xs.take k).map (clAt l)).length = k := by simp; omega
    have hps : psub (((xs.take k).map (clAt l)).map p64) 0 k = ((xs.take k).map (clAt l)).map p64 := psub_all _ _ (by rw [List.length_map,hln])
    have hkl : k ≤ xs.length := by omega
    simp only [PP,P1,P2,P3,P4,P5,P6,P7,P8,P9,P10,P11,P12,P13,P14,L1,P15,N1,N2,N3,N4,N5,N6,N7,I1,I2,I3,I4,I5,I6,I7,reduceIte,reduceCtorEq,d,k0,gx,x0,xl,gc,hwk,b8,b1,hps,hln]
    have htk : ((xs.take (k + 1)).map (clAt l)).map p64 = ((xs.take k).map (clAt l)).map p64 ++ [p64 c] := by
      rw [List.take_add_one,gx]; simp [clAt_some gc]
    exact SemW_to (ih (k + 1) (g + 1) 0 (by omega) (by omega)) (by simp only [PWeak_nil,PWeak_junk,PWeak_same,Int.cast_ofNat_Int,List.length_append,List.length_cons,List.length_nil,Nat.zero_add]) (by rw [htk])
  · have hkn : k = xs.length := by omega
    subst hkn
    rw [List.take_of_length_le (Nat.le_refl _)]
    simp only [PP,P1,P2,P3,P4,P5,P6,P7,P8,P9,P10,P11,P12,P13,P14,L1,P15,N1,N2,N3,N4,N5,N6,N7,I1,I2,I3,I4,I5,I6,I7,reduceIte,reduceCtorEq,d]
    refine sort_p T (l := xs.map (clAt l)) (by simp) hx (fun v' l' h1 h2 => ?_)
    simp only [PP,P1,P2,P3,P4,P5,P6,P7,P8,P9,P10,P11,P12,P13,P14,L1,P15,N1,N2,N3,N4,N5,N6,N7,I1,I2,I3,I4,I5,I6,I7,reduceIte,reduceCtorEq]
    have hl' : l'.length = xs.length := by rw [h1.length_eq]; simp
    refine compact_p T hl' (by omega) h2 (fun v2 y pad h3 h4 => ?_)
    have hy : y = setQ l xs m := setQ_of h3 (fun c => by rw [h4,h1.mem_iff]) fun x hx => by
      obtain ⟨x0,xl⟩ := hb x hx
      obtain ⟨c,gc⟩ := some_of (xs := l) (k := x.toNat) (by omega)
      rw [clAt_some gc]; exact hc c (List.mem_of_getElem? gc)
    subst hy
    have hfr : frzO (some (.cells g v2 ((setQ l xs m).map p64 ++ pad.map p64))) g 1 0 (setQ l xs m).length = some (slI false true .i64 (setQ l xs m)) := by
      rw [← List.map_append,frzO_cells (by simp) (underL_map _ p64 (fun x => by simp [PV.under]) _),Nat.mul_one]
      unfold psub
      rw [List.drop_zero,List.map_append,List.take_left' (by simp)]
    simp only [PP,P1,P2,P3,P4,P5,P6,P7,P8,P9,P10,P11,P12,P13,P14,L1,P15,N1,N2,N3,N4,N5,N6,N7,I1,I2,I3,I4,I5,I6,I7,reduceIte,reduceCtorEq,hfr]
    exact hk
end
end Go.Am.Ar
set_option linter.unusedVariables false
set_option linter.unusedSimpArgs false
set_option maxRecDepth 10000
namespace Go.Am.Ar
open Go.Am.PV renaming junk → Z
open Go.Am renaming pchk → P1,pold → P2,PKNo → P3,ppack → P4,PObj.under → P5,pput → P6,ptset → P7,ptget → P8,pev → P9,ofAV → P10,ofAV1 → P11,ppad → P12,pfill → P13,prepl → P14,AO.effect → P15
open List renaming replicate → L1
open Nat renaming reduceAdd → N1,reduceSub → N2,reduceMul → N3,reduceLT → N4,reduceLeDiff → N5,reduceEqDiff → N6,reduceBEq → N7
open Int renaming reduceToNat → I1,reduceLT → I2,reduceLE → I3,reduceEq → I4,reduceAdd → I5,reduceSub → I6,reduceNeg → I7
theorem edsQ_snoc (l : List Int) (es : List Eg) (e : Eg) : edsQ l (es ++ [e]) = addE (edsQ l es) (edQ l e) := by unfold edsQ; rw [List.foldl_append]; rfl
theorem addE_len (acc : List Eg) (e : Eg) : (addE acc e).length ≤ acc.length + 1 := by unfold addE; split <;> simp
theorem edsQ_len (l : List Int) (es : List Eg) : (edsQ l es).length ≤ es.length := by
  have key : ∀ (es acc : List Eg),(es.foldl (fun acc e => addE acc (edQ l e)) acc).length ≤ acc.length + es.length := by
    intro es
    induction es with
    | nil => intro acc; simp
    | cons e es ih =>
      intro acc
      have := ih (addE acc (edQ l e))
      have := addE_len acc (edQ l e)
      simp only [List.foldl_cons,List.length_cons]; omega
  have := key es []
  simpa [edsQ] using this
theorem mem_edsQ {l : List Int} {es : List Eg} {x : Eg} : x ∈ edsQ l es ↔ ∃ e ∈ es,edQ l e = x := by
  have key : ∀ (es acc : List Eg),x ∈ es.foldl (fun acc e => addE acc (edQ l e)) acc ↔ x ∈ acc ∨ ∃ e ∈ es,edQ l e = x := by
    intro es
    induction es with
    | nil => intro acc; simp
    | cons e es ih =>
      intro acc
      rw [List.foldl_cons,ih]
      have ha : x ∈ addE acc (edQ l e) ↔ x ∈ acc ∨ edQ l e = x := by
        unfold addE
        split
        · rename_i h
          exact ⟨.inl,fun q => q.elim id fun z => by rw [← z]; exact h⟩
        · rw [List.mem_append,List.mem_singleton]
          exact ⟨fun q => q.imp id Eq.symm,fun q => q.imp id Eq.symm⟩
      rw [ha]
      simp only [List.mem_cons]
      constructor
      · rintro ((h | h) | ⟨e',h1,h2⟩)
        · exact .inl h
        · exact .inr ⟨e,.inl rfl,h⟩
        · exact .inr ⟨e',.inr h1,h2⟩
      · rintro (h | ⟨e',rfl | h1,h2⟩)
        · exact .inl (.inl h)
        · exact .inl (.inr h2)
        · exact .inr ⟨e',h1,h2⟩
  have := key es []
  simpa [edsQ] using this
section
variable {tab : FuncId → Option AF} (T : HasA tab)
include T
theorem idxE_p {M : Mem} {K : PV → Mem → Prop} {f o : Bool} {es : List Eg} {e : Eg} (hb : es.length < 1000000000000) (hf : ∀ x ∈ es,x.fit) (he : e.fit) (hk1 : e ∈ es → ∀ k : Nat,K (p64 k) M) (hk2 : e ∉ es → K (p64 (-1)) M) :
    SemC tab 78 [slE f o es,.agg (egC e)] M K := by
  refine SemC_pure T.h78 (by simp only [PP,P1,P2,P3,P4,P5,P6,P7,P8,P9,P10,P11,P12,P13,P14,L1,P15,N1,N2,N3,N4,N5,N6,N7,I1,I2,I3,I4,I5,I6,I7,reduceIte,reduceCtorEq,under_slE]) ?_
  simp only [af78,PP,P1,P2,P3,P4,P5,P6,P7,P8,P9,P10,P11,P12,P13,P14,L1,P15,N1,N2,N3,N4,N5,N6,N7,I1,I2,I3,I4,I5,I6,I7,reduceIte,reduceCtorEq]
  refine loop1 (fun (k : Nat) => k ≤ es.length ∧ e ∉ es.take k) (fun k => [slE f o es,Z,Z,.ptr 0 0 0,Z,Z,Z,p64 es.length,p64 k,Z,Z,Z,Z,Z,Z,Z,Z,Z,Z]) (fun _ => [.cells 0 0 (egC e)]) (fun k => es.length - k) 0 ⟨by omega,by simp⟩ (by simp only [PWeak_nil,PWeak_junk,PWeak_same,Int.cast_ofNat_Int,List.length_append,List.length_cons,List.length_nil,Nat.zero_add]) rfl ?_
  intro k ⟨hle,hn⟩ ih
  refine SemW_go (by kernel_rfl) ?_
  simp only [PP,P1,P2,P3,P4,P5,P6,P7,P8,P9,P10,P11,P12,P13,P14,L1,P15,N1,N2,N3,N4,N5,N6,N7,I1,I2,I3,I4,I5,I6,I7,reduceIte,reduceCtorEq]
  refine QIf.intro (fun c => ?_) (fun c => ?_)
  · have hk' : k < es.length := by omega
    obtain ⟨x,gx⟩ := some_of hk'
    have hw := wrap_succ (k := k) (by show _ < 1000000000000; omega)
    have h0 : (0 : Int) ≤ k := by omega
    have h4 := psub_egL gx
    have hl4 : k * 4 + 4 ≤ (egL es).length := by rw [egL_len]; exact eg_le gx
    have hq := peq_eg he (hf x (List.mem_of_getElem? gx))
    have hs : psub (egC e) 0 4 = egC e := rfl
    simp only [PP,P1,P2,P3,P4,P5,P6,P7,P8,P9,P10,P11,P12,P13,P14,L1,P15,N1,N2,N3,N4,N5,N6,N7,I1,I2,I3,I4,I5,I6,I7,reduceIte,reduceCtorEq,c,h0,h4,hl4,hq,hs]
    by_cases q : e = x
    · subst q
      simp only [PP,P1,P2,P3,P4,P5,P6,P7,P8,P9,P10,P11,P12,P13,P14,L1,P15,N1,N2,N3,N4,N5,N6,N7,I1,I2,I3,I4,I5,I6,I7,reduceIte,reduceCtorEq]
      exact hk1 (List.mem_of_getElem? gx) k
    · simp only [PP,P1,P2,P3,P4,P5,P6,P7,P8,P9,P10,P11,P12,P13,P14,L1,P15,N1,N2,N3,N4,N5,N6,N7,I1,I2,I3,I4,I5,I6,I7,reduceIte,reduceCtorEq,q,hw]
      refine SemW_weak (ih (k + 1) ⟨by omega, ?_⟩ (by omega)) (by simp only [PWeak_nil,PWeak_junk,PWeak_same,Int.cast_ofNat_Int,List.length_append,List.length_cons,List.length_nil,Nat.zero_add])
      rw [List.take_add_one,gx]
      simp only [Option.toList_some,List.mem_append,List.mem_singleton,not_or]
      exact ⟨hn,q⟩
  · simp only [PP,P1,P2,P3,P4,P5,P6,P7,P8,P9,P10,P11,P12,P13,P14,L1,P15,N1,N2,N3,N4,N5,N6,N7,I1,I2,I3,I4,I5,I6,I7,reduceIte,reduceCtorEq,c]
    rw [List.take_of_length_le (by omega)] at hn
    exact hk2 hn
theorem contE_p {M : Mem} {K : PV → Mem → Prop} {f o : Bool} {es : List Eg} {e : Eg} (hb : es.length < 1000000000000) (hf : ∀ x ∈ es,x.fit) (he : e.fit) (hk : K (.bool (decide (e ∈ es))) M) :
    SemC tab 50 [slE f o es,.agg (egC e)] M K := by
  refine SemC_pure T.h50 (by simp only [PP,P1,P2,P3,P4,P5,P6,P7,P8,P9,P10,P11,P12,P13,P14,L1,P15,N1,N2,N3,N4,N5,N6,N7,I1,I2,I3,I4,I5,I6,I7,reduceIte,reduceCtorEq,under_slE]) ?_
  have hs : psub (egC e) 0 4 = egC e := rfl
  simp only [af50,PP,P1,P2,P3,P4,P5,P6,P7,P8,P9,P10,P11,P12,P13,P14,L1,P15,N1,N2,N3,N4,N5,N6,N7,I1,I2,I3,I4,I5,I6,I7,reduceIte,reduceCtorEq,hs]
  refine idxE_p T hb hf he (fun h k => ?_) (fun h => ?_)
  · have k0 : (0 : Int) ≤ k := by omega
    rw [decide_eq_true h] at hk
    simp only [PP,P1,P2,P3,P4,P5,P6,P7,P8,P9,P10,P11,P12,P13,P14,L1,P15,N1,N2,N3,N4,N5,N6,N7,I1,I2,I3,I4,I5,I6,I7,reduceIte,reduceCtorEq,k0]
    exact hk
  · have k0 : ¬ (0 : Int) ≤ -1 := by omega
    rw [decide_eq_false h] at hk
    simp only [PP,P1,P2,P3,P4,P5,P6,P7,P8,P9,P10,P11,P12,P13,P14,L1,P15,N1,N2,N3,N4,N5,N6,N7,I1,I2,I3,I4,I5,I6,I7,reduceIte,reduceCtorEq,k0]
    exact hk
end
end Go.Am.Ar
set_option linter.unusedVariables false
set_option linter.unusedSimpArgs false
set_option maxRecDepth 10000
namespace Go.Am.Ar
open Go.Am.PV renaming junk → Z
open Go.Am renaming pchk → P1,pold → P2,PKNo → P3,ppack → P4,PObj.under → P5,pput → P6,ptset → P7,ptget → P8,pev → P9,ofAV → P10,ofAV1 → P11,ppad → P12,pfill → P13,prepl → P14,AO.effect → P15
open List renaming replicate → L1
open Nat renaming reduceAdd → N1,reduceSub → N2,reduceMul → N3,reduceLT → N4,reduceLeDiff → N5,reduceEqDiff → N6,reduceBEq → N7
open Int renaming reduceToNat → I1,reduceLT → I2,reduceLE → I3,reduceEq → I4,reduceAdd → I5,reduceSub → I6,reduceNeg → I7
theorem posM_len' {n : Int} {l : List Int} (h : posM n (-1) l = true) (hn : 0 ≤ n) : (l.length : Int) ≤ n := by
  obtain ⟨h1,h2⟩ := posM_rise h
  have key : ∀ (l : List Int) (a : Int),l.Pairwise (· < ·) → (∀ x ∈ l,a < x ∧ x < n) → (l.length : Int) ≤ max 0 (n - a - 1) := by
    intro l
    induction l with
    | nil => intro a _ _; simp; omega
    | cons x l ih =>
      intro a hp hx
      have h1 := List.pairwise_cons.1 hp
      have h2 := ih x h1.2 fun z hz => ⟨h1.1 z hz,(hx z (by simp [hz])).2⟩
      have h3 := hx x (by simp)
      rw [List.length_cons]; omega
  have := key l (-1) h1 h2
  omega
section
variable {tab : FuncId → Option AF} (T : HasA tab)
include T
set_option maxHeartbeats 2000000 in
theorem quotient_p {M : Mem} {K : PV → Mem → Prop} {f1 o1 f2 o2 f3 o3 : Bool} {N : NF} (B : BnN N) (h12 : checkN N = 0 → N.n ≤ 12) (hk1 : checkN N ≠ 0 → K (.tuple [.agg [p64 0,p64 0,.nils,.nils,.nils],p64 (checkN N)]) M)
    (hk2 : checkN N = 0 → ∀ rs l m,RelOk N rs → ClsI rs N.n.toNat l m → K (.tuple [.agg (nfC false true false true false true (quoN N l m)),p64 0]) M) :
    SemC tab 20 [.agg (nfC f1 o1 f2 o2 f3 o3 N)] M K := by
  refine SemC_pureS T.h20 (by simp only [PP,P1,P2,P3,P4,P5,P6,P7,P8,P9,P10,P11,P12,P13,P14,L1,P15,N1,N2,N3,N4,N5,N6,N7,I1,I2,I3,I4,I5,I6,I7,reduceIte,reduceCtorEq,under_slE]) ?_
  simp only [af20]
  refine SemW_seq (SemW_of ?_)
  simp only [PP,P1,P2,P3,P4,P5,P6,P7,P8,P9,P10,P11,P12,P13,P14,L1,P15,N1,N2,N3,N4,N5,N6,N7,I1,I2,I3,I4,I5,I6,I7,reduceIte,reduceCtorEq]
  refine SemW_seq (SemW_of ?_)
  simp only [PP,P1,P2,P3,P4,P5,P6,P7,P8,P9,P10,P11,P12,P13,P14,L1,P15,N1,N2,N3,N4,N5,N6,N7,I1,I2,I3,I4,I5,I6,I7,reduceIte,reduceCtorEq]
  refine classes_p T B (fun c => ?_) (fun c_ rs l m R hC => ?_)
  · simp only [PP,P1,P2,P3,P4,P5,P6,P7,P8,P9,P10,P11,P12,P13,P14,L1,P15,N1,N2,N3,N4,N5,N6,N7,I1,I2,I3,I4,I5,I6,I7,reduceIte,reduceCtorEq]
    refine SemW_of ?_
    simp only [PP,P1,P2,P3,P4,P5,P6,P7,P8,P9,P10,P11,P12,P13,P14,L1,P15,N1,N2,N3,N4,N5,N6,N7,I1,I2,I3,I4,I5,I6,I7,reduceIte,reduceCtorEq,c]
    exact hk1 c
  have C := nok_of c_
  have n0 := C.n0
  have hn12 := h12 c_
  obtain ⟨n,hn⟩ : ∃ n : Nat,N.n = n := ⟨N.n.toNat,by omega⟩
  rw [hn,Int.toNat_natCast] at hC
  have hll := hC.len
  obtain ⟨hml,hcl⟩ := hC.lt
  simp only [PP,P1,P2,P3,P4,P5,P6,P7,P8,P9,P10,P11,P12,P13,P14,L1,P15,N1,N2,N3,N4,N5,N6,N7,I1,I2,I3,I4,I5,I6,I7,reduceIte,reduceCtorEq]
  refine SemW_seq (SemW_of ?_)
  simp only [PP,P1,P2,P3,P4,P5,P6,P7,P8,P9,P10,P11,P12,P13,P14,L1,P15,N1,N2,N3,N4,N5,N6,N7,I1,I2,I3,I4,I5,I6,I7,reduceIte,reduceCtorEq]
  refine SemW_re (GStep.freezeP (b := [Z,.ptr 0 0 0,.ptr 1 0 0,Z,.cp [slI false true .i64 l] 0,Z,Z,Z,Z,Z,Z,Z,Z,Z,Z,Z,Z,Z,Z,Z,Z,Z,Z,Z,Z,Z,Z,Z,Z,Z,Z,Z,Z,Z,Z,Z,Z,Z,Z,Z,Z,Z,Z,Z,Z,Z,Z,Z,Z,Z,Z,Z,Z,Z,Z,Z,Z,Z,Z,Z,Z,Z,Z,Z,Z,Z,Z,Z,Z,Z,Z,Z,Z,Z,Z,Z]) 2 (Nat.zero_le _) rfl (by simp only [PFrzP_nil,PFrzP_junk,PFrzP_same,PFrzP_ptr]) rfl) ?_
  refine SemW_seq (SemW_of ?_)
  simp only [PP,P1,P2,P3,P4,P5,P6,P7,P8,P9,P10,P11,P12,P13,P14,L1,P15,N1,N2,N3,N4,N5,N6,N7,I1,I2,I3,I4,I5,I6,I7,reduceIte,reduceCtorEq]
  refine SemW_seq (SemW_of ?_)
  simp only [PP,P1,P2,P3,P4,P5,P6,P7,P8,P9,P10,P11,P12,P13,P14,L1,P15,N1,N2,N3,N4,N5,N6,N7,I1,I2,I3,I4,I5,I6,I7,reduceIte,reduceCtorEq]
  have hst := posM_mem C.st
  have hfi := posM_mem C.fi
  have hsl := posM_len' C.st n0
  have hfl := posM_len' C.fi n0
  refine quo1_p T (m := m) (by omega) (by omega) (fun x hx => by have := hst x hx; omega) hcl ?_
  simp only [PP,P1,P2,P3,P4,P5,P6,P7,P8,P9,P10,P11,P12,P13,P14,L1,P15,N1,N2,N3,N4,N5,N6,N7,I1,I2,I3,I4,I5,I6,I7,reduceIte,reduceCtorEq]
  refine quo1_p T (m := m) (by omega) (by omega) (fun x hx => by have := hfi x hx; omega) hcl ?_
  simp only [PP,P1,P2,P3,P4,P5,P6,P7,P8,P9,P10,P11,P12,P13,P14,L1,P15,N1,N2,N3,N4,N5,N6,N7,I1,I2,I3,I4,I5,I6,I7,reduceIte,reduceCtorEq]
  obtain ⟨S,hS⟩ : ∃ S,setQ l N.st m = S := ⟨_,rfl⟩
  obtain ⟨F,hF⟩ : ∃ F,setQ l N.fi m = F := ⟨_,rfl⟩
  rw [hS,hF]
  refine SemW_re (GStep.nilbox 1 4 4 rfl rfl rfl) ?_
  simp only [List.cons_append,List.nil_append,List.length_cons,List.length_nil,Nat.reduceAdd,List.set_cons_succ,List.set_cons_zero]
  refine SemW_of ?_
  simp only [PP,P1,P2,P3,P4,P5,P6,P7,P8,P9,P10,P11,P12,P13,P14,L1,P15,N1,N2,N3,N4,N5,N6,N7,I1,I2,I3,I4,I5,I6,I7,reduceIte,reduceCtorEq]
  refine loop3 (fun (k s v : Nat) => k ≤ n ∧ s ≤ m ∧ (∀ c ∈ l.take k,c + 1 ≤ s)) (fun k s v => [Z,.ptr 0 0 0,.ptr 1 0 0,Z,.cp [slI false true .i64 l] 0,Z,Z,Z,Z,Z,Z,Z,Z,Z,Z,Z,Z,Z,Z,Z,Z,Z,Z,Z,Z,Z,Z,Z,Z,Z,Z,slI false true .i64 l,p64 n,p64 k,Z,Z,Z,Z,Z,Z,Z,Z,Z,Z,Z,Z,Z,Z,Z,Z,Z,Z,Z,Z,Z,Z,Z,Z,Z,Z,Z,Z,Z,Z,Z,Z,Z,Z,Z,Z,Z,Z,Z,Z,Z,Z]) (fun k s v => [.cells 0 0 (nfC f1 o1 f2 o2 f3 o3 N),.cells 0 v [p64 N.vs,p64 s,slI false true .i64 S,slI false true .i64 F,.ref 3 0 4 0 0],.gone,.cells 0 0 []]) (fun k _ _ => n - k) 0 0 1 ⟨by omega,by omega,fun c h => by cases h⟩ (by subst hll; exact by simp only [PWeak_nil,PWeak_junk,PWeak_same,Int.cast_ofNat_Int,List.length_append,List.length_cons,List.length_nil,Nat.zero_add]) rfl ?_
  intro k s v ⟨hkn,hsm,hd⟩ ih
  refine SemW_go (by kernel_rfl) ?_
  simp only [PP,P1,P2,P3,P4,P5,P6,P7,P8,P9,P10,P11,P12,P13,P14,L1,P15,N1,N2,N3,N4,N5,N6,N7,I1,I2,I3,I4,I5,I6,I7,reduceIte,reduceCtorEq]
  refine QIf.intro (fun d => ?_) (fun d => ?_)
  · have hk' : k < n := by omega
    obtain ⟨x,gx⟩ := some_of (xs := l) (k := k) (by omega)
    have hx := hcl x (List.mem_of_getElem? gx)
    have k0 : (0 : Int) ≤ k := by omega
    have kl : (k : Int) < l.length := by omega
    have hwk := wrap_succ (k := k) (by show _ < 1000000000000; omega)
    have hwx : IntKind.i64.wrap (x + 1) = x + 1 := wrap64 (by omega) (by omega)
    simp only [PP,P1,P2,P3,P4,P5,P6,P7,P8,P9,P10,P11,P12,P13,P14,L1,P15,N1,N2,N3,N4,N5,N6,N7,I1,I2,I3,I4,I5,I6,I7,reduceIte,reduceCtorEq,d,k0,kl,gx,hwk,hwx]
    have hmx : max (s : Int) (x + 1) = ((max s (x + 1).toNat : Nat) : Int) := by omega
    rw [hmx]
    refine SemW_to (ih (k + 1) (max s (x + 1).toNat) (v + 1) ⟨by omega,by omega,fun c hc => ?_⟩ (by omega)) (by simp only [PWeak_nil,PWeak_junk,PWeak_same,Int.cast_ofNat_Int,List.length_append,List.length_cons,List.length_nil,Nat.zero_add]) rfl
    rw [List.take_add_one,gx] at hc
    rcases List.mem_append.1 hc with hc | hc
    · have := hd c hc; omega
    · simp at hc; subst hc; omega
  · have hkn : k = n := by omega
    subst hkn
    rw [List.take_of_length_le (by omega)] at hd
    simp only [PP,P1,P2,P3,P4,P5,P6,P7,P8,P9,P10,P11,P12,P13,P14,L1,P15,N1,N2,N3,N4,N5,N6,N7,I1,I2,I3,I4,I5,I6,I7,reduceIte,reduceCtorEq,d]
    have hsm2 : s = m := by
      rcases Nat.eq_zero_or_pos m with e | e
      · omega
      · have := hd _ (hC.surj (m - 1) (by omega)); omega
    subst hsm2
    have hbE := B.e
    have hfit : ∀ e ∈ N.es,(edQ l e).fit ∧ (0 ≤ e.fr ∧ e.fr < l.length ∧ 0 ≤ e.to ∧ e.to < l.length) ∧ ∃ a b,l[e.fr.toNat]? = some a ∧ l[e.to.toNat]? = some b ∧ edQ l e = ⟨a,b,e.ps,e.ng⟩ := fun e he => by
      obtain ⟨q1,q2,q3,q4,_⟩ := C.ed e he
      obtain ⟨a,ga⟩ := some_of (xs := l) (k := e.fr.toNat) (by omega)
      obtain ⟨b,gb⟩ := some_of (xs := l) (k := e.to.toNat) (by omega)
      have ha := hcl a (List.mem_of_getElem? ga)
      have hb := hcl b (List.mem_of_getElem? gb)
      have e1 := clAt_some ga
      have e2 := clAt_some gb
      obtain ⟨b1,b2⟩ := B.b e he
      refine ⟨?_,by omega,a,b,ga,gb,by unfold edQ; rw [e1,e2]⟩
      refine ⟨⟨by show _ ≤ clAt l e.fr; omega,by show clAt l e.fr ≤ _; omega⟩,⟨by show _ ≤ clAt l e.to; omega,by show clAt l e.to ≤ _; omega⟩,b1,b2⟩
    refine loop5 (fun (k g v v2 : Nat) (G : Mem) => k ≤ N.es.length) (fun k g v v2 G => [Z,Z,.ptr 1 0 0,Z,.cp [slI false true .i64 l] 0,Z,Z,Z,Z,Z,Z,Z,Z,Z,Z,Z,Z,Z,Z,Z,Z,Z,Z,Z,Z,Z,Z,Z,Z,Z,Z,Z,Z,Z,Z,Z,Z,Z,Z,Z,Z,Z,Z,Z,Z,slE f3 o3 N.es,p64 N.es.length,p64 k,Z,Z,Z,Z,Z,Z,Z,Z,Z,Z,Z,Z,Z,Z,Z,Z,Z,Z,Z,Z,Z,Z,Z,Z,Z,Z,Z,Z]) (fun k g v v2 G => .cells 0 0 (nfC f1 o1 f2 o2 f3 o3 N) :: .cells 0 v [p64 N.vs,p64 s,slI false true .i64 S,slI false true .i64 F,.ref 3 g 4 0 (edsQ l (N.es.take k)).length] :: .gone :: .cells g v2 (egL (edsQ l (N.es.take k))) :: G) (fun k _ _ _ _ => N.es.length - k) 0 0 v 0 [] (by omega) (by simp only [PWeak_nil,PWeak_junk,PWeak_same,Int.cast_ofNat_Int,List.length_append,List.length_cons,List.length_nil,Nat.zero_add]) rfl ?_
    intro k2 g v1 v2 G hle2 ih3
    obtain ⟨acc,hacc⟩ : ∃ acc,edsQ l (N.es.take k2) = acc := ⟨_,rfl⟩
    have hal : acc.length ≤ k2 := by rw [← hacc]; exact Nat.le_trans (edsQ_len _ _) (by simp; omega)
    have hbE' : N.es.length < 1000000000000 := hbE
    rw [hacc]
    refine SemW_go (by kernel_rfl) ?_
    simp only [PP,P1,P2,P3,P4,P5,P6,P7,P8,P9,P10,P11,P12,P13,P14,L1,P15,N1,N2,N3,N4,N5,N6,N7,I1,I2,I3,I4,I5,I6,I7,reduceIte,reduceCtorEq]
    refine QIf.intro (fun c => ?_) (fun c => ?_)
    · have hk' : k2 < N.es.length := by omega
      obtain ⟨e,ge⟩ := some_of hk'
      have hem := List.mem_of_getElem? ge
      obtain ⟨hft,⟨q1,q2,q3,q4⟩,a,b,ga,gb,heq⟩ := hfit e hem
      have hw := wrap_succ (k := k2) (by show _ < 1000000000000; omega)
      have k0 : (0 : Int) ≤ k2 := by omega
      have h4 := psub_egL ge
      have hl4 : k2 * 4 + 4 ≤ (egL N.es).length := by rw [egL_len]; exact eg_le ge
      simp only [PP,P1,P2,P3,P4,P5,P6,P7,P8,P9,P10,P11,P12,P13,P14,L1,P15,N1,N2,N3,N4,N5,N6,N7,I1,I2,I3,I4,I5,I6,I7,reduceIte,reduceCtorEq,c,k0,h4,hl4,gk0,sk0,q1,q2,q3,q4,ga,gb]
      have hfa : ∀ x ∈ acc,x.fit := fun x hx => by
        rw [← hacc] at hx
        obtain ⟨e',h1,rfl⟩ := mem_edsQ.1 hx
        exact (hfit e' (List.mem_of_mem_take h1)).1
      have htk : edsQ l (N.es.take (k2 + 1)) = addE acc ⟨a,b,e.ps,e.ng⟩ := by
        rw [List.take_add_one,ge]
        show edsQ l (_ ++ [e]) = _
        rw [edsQ_snoc,hacc,heq]
      rw [heq] at hft
      refine SemC_bor (.ref rfl (by rw [egL_len]; omega) (egL_und _ _) (psub_egAll rfl) (.same (by simp only [PP,P1,P2,P3,P4,P5,P6,P7,P8,P9,P10,P11,P12,P13,P14,L1,P15,N1,N2,N3,N4,N5,N6,N7,I1,I2,I3,I4,I5,I6,I7,reduceIte,reduceCtorEq]) .nil)) (contE_p T (e := ⟨a,b,e.ps,e.ng⟩) (by omega) hfa hft ⟨rfl, ?_⟩)
      by_cases q : (⟨a,b,e.ps,e.ng⟩ : Eg) ∈ acc
      · rw [decide_eq_true q]
        simp only [PP,P1,P2,P3,P4,P5,P6,P7,P8,P9,P10,P11,P12,P13,P14,L1,P15,N1,N2,N3,N4,N5,N6,N7,I1,I2,I3,I4,I5,I6,I7,reduceIte,reduceCtorEq,hw]
        have ha : edsQ l (N.es.take (k2 + 1)) = acc := by rw [htk,addE,if_pos q]
        exact SemW_to (ih3 (k2 + 1) g v1 v2 (G ++ [.cells 0 3 (egC ⟨a,b,e.ps,e.ng⟩)]) (by omega) (by omega)) (by simp only [PWeak_nil,PWeak_junk,PWeak_same,Int.cast_ofNat_Int,List.length_append,List.length_cons,List.length_nil,Nat.zero_add]) (by rw [ha])
      · rw [decide_eq_false q]
        have b8 : (acc.length + 1) * 24 ≤ 140737488355328 := by omega
        have b1 : acc.length ≤ 9223372036854775806 := by omega
        have hps := psub_egAll (l := acc) rfl
        have hl5 : acc.length * 4 ≤ (egL acc).length := by rw [egL_len]; omega
        simp only [PP,P1,P2,P3,P4,P5,P6,P7,P8,P9,P10,P11,P12,P13,P14,L1,P15,N1,N2,N3,N4,N5,N6,N7,I1,I2,I3,I4,I5,I6,I7,reduceIte,reduceCtorEq,gk0,sk0,hw,b8,b1,hps,hl5]
        have ha : edsQ l (N.es.take (k2 + 1)) = acc ++ [⟨a,b,e.ps,e.ng⟩] := by rw [htk,addE,if_neg q]
        exact SemW_to (ih3 (k2 + 1) (g + 1) (v1 + 1) 0 (G ++ [.cells 0 3 (egC ⟨a,b,e.ps,e.ng⟩)]) (by omega) (by omega)) (by simp only [PWeak_nil,PWeak_junk,PWeak_same,Int.cast_ofNat_Int,List.length_append,List.length_cons,List.length_nil,Nat.zero_add]) (by rw [ha, ← egL_app,List.length_append]; rfl)
    · have hk2 : k2 = N.es.length := by omega
      subst hk2
      rw [List.take_of_length_le (Nat.le_refl _)] at hacc
      simp only [PP,P1,P2,P3,P4,P5,P6,P7,P8,P9,P10,P11,P12,P13,P14,L1,P15,N1,N2,N3,N4,N5,N6,N7,I1,I2,I3,I4,I5,I6,I7,reduceIte,reduceCtorEq,c]
      have hfr := frzO_egL (g := g) (v := v2) (l := acc) rfl
      simp only [PP,P1,P2,P3,P4,P5,P6,P7,P8,P9,P10,P11,P12,P13,P14,L1,P15,N1,N2,N3,N4,N5,N6,N7,I1,I2,I3,I4,I5,I6,I7,reduceIte,reduceCtorEq,c,hfr]
      have := hk2 c_ rs l s R (by rw [hn]; exact hC)
      unfold quoN at this
      rw [hS,hF,hacc] at this
      exact this
end
end Go.Am.Ar
set_option linter.unusedVariables false
set_option linter.unusedSimpArgs false
set_option maxRecDepth 10000
namespace Go.Am.Ar
open Go.Am.PV renaming junk → Z
def RelA (N : NF) (rs : List (List Bool)) (e : Int) : Prop := (checkN N ≠ 0 ∧ rs = [] ∧ e = checkN N) ∨ (checkN N = 0 ∧ RelOk N rs ∧ e = 0)
theorem RelA.eq {N : NF} {rs rs' : List (List Bool)} {e e' : Int} (h : RelA N rs e) (h' : RelA N rs' e') : rs = rs' ∧ e = e' := by
  rcases h with ⟨h1,h2,h3⟩ | ⟨h1,h2,h3⟩ <;> rcases h' with ⟨g1,g2,g3⟩ | ⟨g1,g2,g3⟩ <;> first | contradiction | (subst_vars; exact ⟨rfl,rfl⟩) | (subst_vars; exact ⟨RelOk.unique (nok_of h1) h2 g2,rfl⟩)
theorem wk_two {a b x : PV} (h : PvWk a b) : PvWk (.tuple [a,x]) (.tuple [b,x]) := by
  refine PvWk.tuple rfl fun i y z h1 h2 => ?_
  match i with
  | 0 => cases h1; cases h2; exact h
  | 1 => cases h1; cases h2; exact PvWk.refl _
  | i + 2 => cases h1
theorem rel_at {N : NF} {rs : List (List Bool)} (D : DimOk N rs) {p q : Int} (p0 : 0 ≤ p) (pn : p < N.n) (q0 : 0 ≤ q) (qn : q < N.n) : ∃ row,rs[p.toNat]? = some row ∧ row[q.toNat]? = some (rAt rs p q) ∧ (row.length : Int) = N.n ∧ (rs.length : Int) = N.n := by
  have := D.1
  obtain ⟨row,g1⟩ := some_of (xs := rs) (k := p.toNat) (by omega)
  have h1 := D.2 row (List.mem_of_getElem? g1)
  obtain ⟨b,g2⟩ := some_of (xs := row) (k := q.toNat) (by omega)
  exact ⟨row,g1,by rw [g2]; simp [rAt,List.getD,g1,g2],h1,this⟩
section
variable {tab : FuncId → Option AF} (T : HasA tab)
include T
theorem relationZ_p {M : Mem} {K : PV → Mem → Prop} {f1 o1 f2 o2 f3 o3 : Bool} {N : NF} (B : BnN N) (hk : ∀ rs e,RelA N rs e → K (.tuple [slBr false true false true rs,p64 e]) M) :
    SemC tab 18 [.agg (nfC f1 o1 f2 o2 f3 o3 N)] M K :=
  SemC_wk (relationW_p T B (fun h => ⟨_,wk_two (PvWk.nils _ _ _),hk [] _ (.inl ⟨h,rfl,rfl⟩)⟩) fun h rs R => ⟨_,PvWk.refl _,hk rs 0 (.inr ⟨h,R,rfl⟩)⟩)
end
end Go.Am.Ar
set_option linter.unusedVariables false
set_option linter.unusedSimpArgs false
set_option maxRecDepth 10000
namespace Go.Am.Ar
open Go.Am.PV renaming junk → Z
def zeroN : NF := ⟨0,0,[],[],[]⟩
def ClsA (N : NF) (l : List Int) (e : Int) : Prop := (checkN N ≠ 0 ∧ l = [] ∧ e = checkN N) ∨ (checkN N = 0 ∧ e = 0 ∧ ∃ rs m,RelOk N rs ∧ ClsI rs N.n.toNat l m)
def QuoA (N Q : NF) (e : Int) : Prop := (checkN N ≠ 0 ∧ Q = zeroN ∧ e = checkN N) ∨ (checkN N = 0 ∧ e = 0 ∧ ∃ rs l m,RelOk N rs ∧ ClsI rs N.n.toNat l m ∧ Q = quoN N l m)
theorem ClsA.eq {N : NF} {l l' : List Int} {e e' : Int} (h : ClsA N l e) (h' : ClsA N l' e') : l = l' ∧ e = e' := by
  rcases h with ⟨h1,h2,h3⟩ | ⟨h1,h3,rs,m,h4,h5⟩ <;> rcases h' with ⟨g1,g2,g3⟩ | ⟨g1,g3,rs',m',g4,g5⟩ <;> first | contradiction | skip
  · subst_vars; exact ⟨rfl,rfl⟩
  · obtain rfl := RelOk.unique (nok_of h1) h4 g4
    exact ⟨(h5.eq g5).1,by rw [h3,g3]⟩
theorem QuoA.eq {N Q Q' : NF} {e e' : Int} (h : QuoA N Q e) (h' : QuoA N Q' e') : Q = Q' ∧ e = e' := by
  rcases h with ⟨h1,h2,h3⟩ | ⟨h1,h3,rs,l,m,h4,h5,h6⟩ <;> rcases h' with ⟨g1,g2,g3⟩ | ⟨g1,g3,rs',l',m',g4,g5,g6⟩ <;> first | contradiction | skip
  · subst_vars; exact ⟨rfl,rfl⟩
  · obtain rfl := RelOk.unique (nok_of h1) h4 g4
    obtain ⟨rfl,rfl⟩ := h5.eq g5
    exact ⟨by rw [h6,g6],by rw [h3,g3]⟩
theorem wk_zeroN : PvWk (.agg [p64 0,p64 0,.nils,.nils,.nils]) (.agg (nfC false true false true false true zeroN)) := by
  refine PvWk.agg rfl fun i y z h1 h2 => ?_
  match i with
  | 0 => cases h1; cases h2; exact PvWk.refl _
  | 1 => cases h1; cases h2; exact PvWk.refl _
  | 2 => cases h1; cases h2; exact PvWk.nils _ _ _
  | 3 => cases h1; cases h2; exact PvWk.nils _ _ _
  | 4 => cases h1; cases h2; exact PvWk.nils _ _ _
  | i + 5 => cases h1
section
variable {tab : FuncId → Option AF} (T : HasA tab)
include T
theorem classesZ_p {M : Mem} {K : PV → Mem → Prop} {f1 o1 f2 o2 f3 o3 : Bool} {N : NF} (B : BnN N) (hk : ∀ l e,ClsA N l e → K (.tuple [slI false true .i64 l,p64 e]) M) :
    SemC tab 19 [.agg (nfC f1 o1 f2 o2 f3 o3 N)] M K :=
  SemC_wk (classes_p T B (fun h => ⟨_,wk_two (PvWk.nils _ _ _),hk [] _ (.inl ⟨h,rfl,rfl⟩)⟩) fun h rs l m R hC => ⟨_,PvWk.refl _,hk l 0 (.inr ⟨h,rfl,rs,m,R,hC⟩)⟩)
theorem quotientZ_p {M : Mem} {K : PV → Mem → Prop} {f1 o1 f2 o2 f3 o3 : Bool} {N : NF} (B : BnN N) (h12 : checkN N = 0 → N.n ≤ 12) (hk : ∀ Q e,QuoA N Q e → K (.tuple [.agg (nfC false true false true false true Q),p64 e]) M) :
    SemC tab 20 [.agg (nfC f1 o1 f2 o2 f3 o3 N)] M K :=
  SemC_wk (quotient_p T B h12 (fun h => ⟨_,wk_two wk_zeroN,hk zeroN _ (.inl ⟨h,rfl,rfl⟩)⟩) fun h rs l m R hC => ⟨_,PvWk.refl _,hk _ 0 (.inr ⟨h,rfl,rs,l,m,R,hC,rfl⟩)⟩)
end
end Go.Am.Ar
set_option linter.unusedVariables false
set_option linter.unusedSimpArgs false
set_option maxRecDepth 10000
namespace Go.Am.Ar
open Go.Am.PV renaming junk → Z
open Go.Am renaming pchk → P1,pold → P2,PKNo → P3,ppack → P4,PObj.under → P5,pput → P6,ptset → P7,ptget → P8,pev → P9,ofAV → P10,ofAV1 → P11,ppad → P12,pfill → P13,prepl → P14,AO.effect → P15
open List renaming replicate → L1
open Nat renaming reduceAdd → N1,reduceSub → N2,reduceMul → N3,reduceLT → N4,reduceLeDiff → N5,reduceEqDiff → N6,reduceBEq → N7
open Int renaming reduceToNat → I1,reduceLT → I2,reduceLE → I3,reduceEq → I4,reduceAdd → I5,reduceSub → I6,reduceNeg → I7
def tfB (j n : Nat) : List Bool := List.replicate j true ++ List.replicate (n - j) false
theorem tfB_len {j n : Nat} (h : j ≤ n) : (tfB j n).length = n := by simp [tfB]; omega
theorem tfB_set {j n : Nat} (h : j < n) : (tfB j n).set j true = tfB (j + 1) n := by
  unfold tfB
  rw [List.set_append_right _ _ (by simp),List.length_replicate,Nat.sub_self,show n - j = (n - (j + 1)) + 1 by omega,List.replicate_succ,List.set_cons_zero,List.replicate_succ',List.append_assoc]
  rfl
theorem cntR_allT (n : Nat) : cntR (allT n) = n * n := by
  unfold allT
  have : ∀ k,cntR (List.replicate k (List.replicate n true)) = k * n := by
    intro k
    induction k with
    | zero => simp [cntR]
    | succ k ih =>
      rw [List.replicate_succ,cntR,ih,Nat.succ_mul]
      simp; omega
  exact this n
section
variable {tab : FuncId → Option AF} (T : HasA tab)
include T
abbrev stQ (vR n : Nat) (l : List (Nat × List Bool)) : Mem := .gone :: .cells 0 vR (refsR 2 n) :: rowsO l
set_option maxHeartbeats 1000000 in
theorem refRelation_p {M : Mem} {K : PV → Mem → Prop} {f1 o1 f2 o2 f3 o3 : Bool} {N : NF} (C : NOk N) (B : BnN N) (hk : ∀ rs,RelOk N rs → K (slBr false true false true rs) M) :
    SemC tab 15 [.agg (nfC f1 o1 f2 o2 f3 o3 N)] M K := by
  have n0 := C.n0
  have n64 := C.n64
  obtain ⟨n,hn⟩ : ∃ n : Nat,N.n = n := ⟨N.n.toNat,by omega⟩
  have b0 : (0 : Int) ≤ n := by omega
  have b1 : (n : Int) * 24 ≤ 140737488355328 := by omega
  have b3 : (n : Int) * 1 ≤ 140737488355328 := by omega
  have b2 : (n : Int) ≤ 9223372036854775807 := by omega
  refine SemC_pureS T.h15 (by simp only [PP,P1,P2,P3,P4,P5,P6,P7,P8,P9,P10,P11,P12,P13,P14,L1,P15,N1,N2,N3,N4,N5,N6,N7,I1,I2,I3,I4,I5,I6,I7,reduceIte,reduceCtorEq,under_slE]) ?_
  simp only [af15]
  refine SemW_seq (SemW_of ?_)
  simp only [PP,P1,P2,P3,P4,P5,P6,P7,P8,P9,P10,P11,P12,P13,P14,L1,P15,N1,N2,N3,N4,N5,N6,N7,I1,I2,I3,I4,I5,I6,I7,reduceIte,reduceCtorEq]
  refine SemW_re (GStep.freezeP (b := [Z,.cp (nfC f1 o1 f2 o2 f3 o3 N) 0,Z,Z,Z,Z,Z,Z,Z,Z,Z,Z,Z,Z,Z,Z,Z,Z,Z,Z,Z,Z,Z,Z,Z,Z,Z,Z,Z,Z,Z,Z,Z,Z,Z,Z,Z,Z,Z,Z,Z,Z,Z,Z,Z,Z,Z,Z,Z,Z,Z,Z,Z,Z,Z,Z,Z,Z,Z,Z,Z,Z,Z,Z,Z,Z,Z,Z,Z,Z,Z,Z,Z,Z,Z,Z,Z,Z,Z,Z,Z,Z]) 0 (Nat.zero_le _) rfl (by simp only [PFrzP_nil,PFrzP_junk,PFrzP_same,PFrzP_ptr]) rfl) ?_
  refine SemW_seq (SemW_of ?_)
  simp only [PP,P1,P2,P3,P4,P5,P6,P7,P8,P9,P10,P11,P12,P13,P14,L1,P15,N1,N2,N3,N4,N5,N6,N7,I1,I2,I3,I4,I5,I6,I7,reduceIte,reduceCtorEq,hn]
  refine ⟨⟨b0,Int.le_refl _,b1,b2⟩, ?_⟩
  refine SemW_seq (SemW_of ?_)
  simp only [PP,P1,P2,P3,P4,P5,P6,P7,P8,P9,P10,P11,P12,P13,P14,L1,P15,N1,N2,N3,N4,N5,N6,N7,I1,I2,I3,I4,I5,I6,I7,reduceIte,reduceCtorEq]
  refine loop3 (fun (k vR : Nat) (l : List (Nat × List Bool)) => k ≤ n ∧ l.length = k ∧ ∀ x ∈ l,x.2 = List.replicate n true) (fun k _ _ => [Z,.cp (nfC f1 o1 f2 o2 f3 o3 N) 0,Z,.ref 1 0 1 0 n,p64 k,Z,Z,Z,Z,Z,Z,Z,Z,Z,Z,Z,Z,Z,Z,Z,Z,Z,Z,Z,Z,Z,Z,Z,Z,Z,Z,Z,Z,Z,Z,Z,Z,Z,Z,Z,Z,Z,Z,Z,Z,Z,Z,Z,Z,Z,Z,Z,Z,Z,Z,Z,Z,Z,Z,Z,Z,Z,Z,Z,Z,Z,Z,Z,Z,Z,Z,Z,Z,Z,Z,Z,Z,Z,Z,Z,Z,Z]) (fun k vR l => .gone :: .cells 0 vR (tabA n fun u => if u < k then .ref (u + 2) 0 1 0 n else .nils) :: rowsO l) (fun k _ _ => n - k) 0 0 [] ⟨by omega,rfl,by simp⟩ (by simp only [PWeak_nil,PWeak_junk,PWeak_same,Int.cast_ofNat_Int,List.length_append,List.length_cons,List.length_nil,Nat.zero_add]) (by rw [tabA_rep]; rfl) ?_
  intro k vR l ⟨hkn,hl,hall⟩ ih
  refine SemW_go (by kernel_rfl) ?_
  simp only [PP,P1,P2,P3,P4,P5,P6,P7,P8,P9,P10,P11,P12,P13,P14,L1,P15,N1,N2,N3,N4,N5,N6,N7,I1,I2,I3,I4,I5,I6,I7,reduceIte,reduceCtorEq,hn]
  refine QIf.intro (fun c => ?_) (fun c => ?_)
  · have hk' : k < n := by omega
    have k0 : (0 : Int) ≤ k := by omega
    have kn : (k : Int) < n := by omega
    have hwk := wrap_succ (k := k) (by show _ < 1000000000000; omega)
    have htl := tabA_len n fun u => if u < k then PV.ref (u + 2) 0 1 0 n else .nils
    have hrl : (rowsO l).length = k := by simp [rowsO,hl]
    have k1 : k + 1 ≤ n := hk'
    simp only [PP,P1,P2,P3,P4,P5,P6,P7,P8,P9,P10,P11,P12,P13,P14,L1,P15,N1,N2,N3,N4,N5,N6,N7,I1,I2,I3,I4,I5,I6,I7,reduceIte,reduceCtorEq,c,hn,b0,b2,b3,k0,kn,htl,k1,tabA_set _ hk',Int.le_refl,hrl]
    have e1 : (tabA n fun v => if v = k then PV.ref (k + 1 + 1) 0 1 0 n else if v < k then .ref (v + 2) 0 1 0 n else .nils) = tabA n fun u => if u < k + 1 then .ref (u + 2) 0 1 0 n else .nils := tabA_congr fun u hu => by
      by_cases q : u = k
      · subst q; rw [if_pos rfl,if_pos (by omega)]
      · rw [if_neg q]
        by_cases q2 : u < k
        · rw [if_pos q2,if_pos (by omega)]
        · rw [if_neg q2,if_neg (by omega)]
    obtain ⟨R,hR⟩ : ∃ R,R = tabA n fun u => if u < k + 1 then PV.ref (u + 2) 0 1 0 n else .nils := ⟨_,rfl⟩
    have hRk : R[k]? = some (.ref (k + 2) 0 1 0 n) := by rw [hR,tabA_get hk',if_pos (by omega)]
    have hRl : R.length = n := by rw [hR]; exact tabA_len _ _
    rw [e1, ← hR]
    refine loop2 (fun (j v : Nat) => j ≤ n) (fun j v => [Z,.cp (nfC f1 o1 f2 o2 f3 o3 N) 0,Z,.ref 1 0 1 0 n,p64 k,p64 j,Z,Z,Z,Z,Z,Z,Z,Z,Z,Z,Z,Z,Z,Z,Z,Z,Z,Z,Z,Z,Z,Z,Z,Z,Z,Z,Z,Z,Z,Z,Z,Z,Z,Z,Z,Z,Z,Z,Z,Z,Z,Z,Z,Z,Z,Z,Z,Z,Z,Z,Z,Z,Z,Z,Z,Z,Z,Z,Z,Z,Z,Z,Z,Z,Z,Z,Z,Z,Z,Z,Z,Z,Z,Z,Z,Z]) (fun j v => .gone :: .cells 0 (vR + 1) R :: rowsO (l ++ [(v,tfB j n)])) (fun j _ => n - j) 0 0 (by omega) (by simp only [PWeak_nil,PWeak_junk,PWeak_same,Int.cast_ofNat_Int,List.length_append,List.length_cons,List.length_nil,Nat.zero_add]) (by simp [rowsO,tfB]) ?_
    intro j v hj ih2
    refine SemW_go (by kernel_rfl) ?_
    simp only [PP,P1,P2,P3,P4,P5,P6,P7,P8,P9,P10,P11,P12,P13,P14,L1,P15,N1,N2,N3,N4,N5,N6,N7,I1,I2,I3,I4,I5,I6,I7,reduceIte,reduceCtorEq,hn]
    refine QIf.intro (fun d => ?_) (fun d => ?_)
    · have hj' : j < n := by omega
      have j0 : (0 : Int) ≤ j := by omega
      have jn : (j : Int) < n := by omega
      have hwj := wrap_succ (k := j) (by show _ < 1000000000000; omega)
      have hat : (rowsO (l ++ [(v,tfB j n)]))[k]? = some (.cells 0 v ((tfB j n).map PV.bool)) := by
        have := rowsO_at (l := l ++ [(v,tfB j n)]) (p := k) (v := v) (r := tfB j n) (by rw [List.getElem?_append_right (by omega),hl,Nat.sub_self]; rfl) []
        simpa using this
      have hset : (rowsO (l ++ [(v,tfB j n)])).set k (.cells 0 (v + 1) (((tfB j n).map PV.bool).set j (.bool true))) = rowsO (l ++ [(v + 1,tfB (j + 1) n)]) := by
        rw [← tfB_set hj', ← List.map_set]
        have := rowsO_set (l := l ++ [(v,tfB j n)]) (p := k) (by simp [hl]) (v + 1) ((tfB j n).set j true) []
        simp only [List.append_nil] at this
        rw [this,List.set_append_right _ _ (by omega),hl,Nat.sub_self]; rfl
      have htl2 := tfB_len hj
      have j1 : j + 1 ≤ n := hj'
      simp only [PP,P1,P2,P3,P4,P5,P6,P7,P8,P9,P10,P11,P12,P13,P14,L1,P15,N1,N2,N3,N4,N5,N6,N7,I1,I2,I3,I4,I5,I6,I7,reduceIte,reduceCtorEq,d,k0,kn,hRk,hRl,hat,hset,j0,jn,hwj,htl2,j1]
      exact SemW_to (ih2 (j + 1) (v + 1) (by omega) (by omega)) (by simp only [PWeak_nil,PWeak_junk,PWeak_same,Int.cast_ofNat_Int,List.length_append,List.length_cons,List.length_nil,Nat.zero_add]) rfl
    have hjn : j = n := by omega
    subst hjn
    simp only [PP,P1,P2,P3,P4,P5,P6,P7,P8,P9,P10,P11,P12,P13,P14,L1,P15,N1,N2,N3,N4,N5,N6,N7,I1,I2,I3,I4,I5,I6,I7,reduceIte,reduceCtorEq,d,hwk]
    refine SemW_to (ih (k + 1) (vR + 1) (l ++ [(v,tfB j j)]) ⟨by omega,by simp [hl],fun x hx => ?_⟩ (by omega)) (by simp only [PWeak_nil,PWeak_junk,PWeak_same,Int.cast_ofNat_Int,List.length_append,List.length_cons,List.length_nil,Nat.zero_add]) (by rw [hR])
    rcases List.mem_append.1 hx with q | q
    · exact hall x q
    · rw [List.mem_singleton] at q; subst q; simp [tfB]
  have hkl : k = n := by omega
  subst hkl
  have e1 : (tabA k fun u => if u < k then PV.ref (u + 2) 0 1 0 k else .nils) = refsR 2 k := tabA_congr fun u hu => by rw [if_pos hu]
  have hrs : rsO l = allT k := by
    unfold allT rsO
    refine List.eq_replicate_iff.2 ⟨by rw [List.length_map]; exact hl,fun x hx => ?_⟩
    obtain ⟨y,hy,rfl⟩ := List.mem_map.1 hx
    exact hall y hy
  rw [e1]
  simp only [PP,P1,P2,P3,P4,P5,P6,P7,P8,P9,P10,P11,P12,P13,P14,L1,P15,N1,N2,N3,N4,N5,N6,N7,I1,I2,I3,I4,I5,I6,I7,reduceIte,reduceCtorEq,c]
  refine SemW_seq (SemW_gh ?_)
  refine SemW_of ?_
  simp only [PP,P1,P2,P3,P4,P5,P6,P7,P8,P9,P10,P11,P12,P13,P14,L1,P15,N1,N2,N3,N4,N5,N6,N7,I1,I2,I3,I4,I5,I6,I7,reduceIte,reduceCtorEq]
  have fin : ∀ (vR : Nat) (l : List (Nat × List Bool)),RelOk N (rsO l) → (rsO l).length = k → ∀ Q : List PV → Mem → Prop,(∀ M',M'[1]? = some (.cells 0 vR ((rsO l).map (slB false true))) → Q [Z,Z,Z,.ref 1 0 1 0 k,Z,Z,Z,Z,Z,Z,Z,Z,Z,Z,Z,Z,Z,Z,Z,Z,Z,Z,Z,Z,Z,Z,Z,Z,Z,Z,Z,Z,Z,Z,Z,Z,Z,Z,Z,Z,Z,Z,Z,Z,Z,Z,Z,Z,Z,Z,Z,Z,Z,Z,Z,Z,Z,Z,Z,Z,Z,Z,Z,Z,Z,Z,Z,Z,Z,Z,Z,Z,Z,Z,Z,Z,Z,Z,Z,Z,Z,Z] M') → Gh 0 Q [Z,Z,Z,.ref 1 0 1 0 k,Z,Z,Z,Z,Z,Z,Z,Z,Z,Z,Z,Z,Z,Z,Z,Z,Z,Z,Z,Z,Z,Z,Z,Z,Z,Z,Z,Z,Z,Z,Z,Z,Z,Z,Z,Z,Z,Z,Z,Z,Z,Z,Z,Z,Z,Z,Z,Z,Z,Z,Z,Z,Z,Z,Z,Z,Z,Z,Z,Z,Z,Z,Z,Z,Z,Z,Z,Z,Z,Z,Z,Z,Z,Z,Z,Z,Z,Z] (stQ vR k l) := fun vR l R hll Q hQ => by
    obtain ⟨M',g,h1,h3⟩ := freezeRows (a := [Z,Z,Z,.ref 1 0 1 0 k,Z,Z,Z,Z,Z,Z,Z,Z,Z,Z,Z,Z,Z,Z,Z,Z,Z,Z,Z,Z,Z,Z,Z,Z,Z,Z,Z,Z,Z,Z,Z,Z,Z,Z,Z,Z,Z,Z,Z,Z,Z,Z,Z,Z,Z,Z,Z,Z,Z,Z,Z,Z,Z,Z,Z,Z,Z,Z,Z,Z,Z,Z,Z,Z,Z,Z,Z,Z,Z,Z,Z,Z,Z,Z,Z,Z,Z,Z]) (M := stQ vR k l) (r := 1) (b := 2) (n := k) (vR := vR) (rs := rsO l) (by omega) hll rfl (fun u row hu => by
      rw [List.getElem?_map,Option.map_eq_some_iff] at hu
      obtain ⟨⟨v',r2⟩,h1,rfl⟩ := hu
      have := R.d.2 r2 (List.mem_map.2 ⟨_,List.mem_of_getElem? h1,rfl⟩)
      refine ⟨by show r2.length = k; omega,v', ?_⟩
      simp only [List.getElem?_cons_succ]
      have := rowsO_at h1 []
      simpa using this)
    exact Gh.step g (Gh.same (hQ M' h1))
  have hfr : ∀ (vR : Nat) (rs : List (List Bool)),rs.length = k → frzO (some (.cells 0 vR (rs.map (slB false true)))) 0 1 0 k = some (slBr false true false true rs) := fun vR rs h => by
    subst h
    rw [frzO_cells (by simp) (underL_map _ (slB false true) (fun x => under_slB _ _ _ _ _ _) _),Nat.mul_one,psub_all _ _ (by simp)]
  refine loop3 (fun (rd vR : Nat) (l : List (Nat × List Bool)) => DimOk N (rsO l) ∧ UpR N (rsO l) ∧ cntR (rsO l) + rd ≤ k * k) (fun rd _ _ => [Z,.cp (nfC f1 o1 f2 o2 f3 o3 N) 0,Z,.ref 1 0 1 0 k,Z,Z,p64 rd,Z,Z,Z,Z,Z,Z,Z,Z,Z,Z,Z,Z,Z,Z,Z,Z,Z,Z,Z,Z,Z,Z,Z,Z,Z,Z,Z,Z,Z,Z,Z,Z,Z,Z,Z,Z,Z,Z,Z,Z,Z,Z,Z,Z,Z,Z,Z,Z,Z,Z,Z,Z,Z,Z,Z,Z,Z,Z,Z,Z,Z,Z,Z,Z,Z,Z,Z,Z,Z,Z,Z,Z,Z,Z,Z]) (fun _ vR l => stQ vR k l) (fun rd _ _ => k * k - rd) 0 vR l ⟨by rw [hrs]; exact allT_dim hn,by rw [hrs]; exact allT_up hn,by rw [hrs,cntR_allT]; omega⟩ (by simp only [PWeak_nil,PWeak_junk,PWeak_same,Int.cast_ofNat_Int,List.length_append,List.length_cons,List.length_nil,Nat.zero_add]) rfl ?_
  intro rd vR l ⟨D,U,hcnt⟩ ih
  have hkk : k * k ≤ 64 * 64 := Nat.mul_le_mul (by omega) (by omega)
  have wm : IntKind.i64.wrap ((k : Int) * k) = ((k * k : Nat) : Int) := by rw [show (k : Int) * k = ((k * k : Nat) : Int) by simp]; exact wrap64 (by omega) (by omega)
  have hll0 : (rsO l).length = k := by have := D.1; omega
  refine SemW_go (by kernel_rfl) ?_
  simp only [PP,P1,P2,P3,P4,P5,P6,P7,P8,P9,P10,P11,P12,P13,P14,L1,P15,N1,N2,N3,N4,N5,N6,N7,I1,I2,I3,I4,I5,I6,I7,reduceIte,reduceCtorEq,hn,wm]
  refine QIf.intro (fun c => ?_) (fun c => ?_)
  rotate_left
  · have hz : cntR (rsO l) = 0 := by omega
    have hk0 : k = 0 := Classical.byContradiction fun h => by
      have := cntR_pos U (by omega)
      omega
    subst hk0
    have R : RelOk N (rsO l) := ⟨D,fun p q hp => by omega,U⟩
    simp only [PP,P1,P2,P3,P4,P5,P6,P7,P8,P9,P10,P11,P12,P13,P14,L1,P15,N1,N2,N3,N4,N5,N6,N7,I1,I2,I3,I4,I5,I6,I7,reduceIte,reduceCtorEq,c]
    refine Gh.step (GStep.weak (b := [Z,Z,Z,.ref 1 0 1 0 0,Z,Z,Z,Z,Z,Z,Z,Z,Z,Z,Z,Z,Z,Z,Z,Z,Z,Z,Z,Z,Z,Z,Z,Z,Z,Z,Z,Z,Z,Z,Z,Z,Z,Z,Z,Z,Z,Z,Z,Z,Z,Z,Z,Z,Z,Z,Z,Z,Z,Z,Z,Z,Z,Z,Z,Z,Z,Z,Z,Z,Z,Z,Z,Z,Z,Z,Z,Z,Z,Z,Z,Z,Z,Z,Z,Z,Z,Z]) (by simp only [PWeak_nil,PWeak_junk,PWeak_same,Int.cast_ofNat_Int,List.length_append,List.length_cons,List.length_nil,Nat.zero_add]) rfl) (fin vR l R hll0 _ fun M' h1 => SemW_of ?_)
    simp only [PP,P1,P2,P3,P4,P5,P6,P7,P8,P9,P10,P11,P12,P13,P14,L1,P15,N1,N2,N3,N4,N5,N6,N7,I1,I2,I3,I4,I5,I6,I7,reduceIte,reduceCtorEq,h1,hfr _ _ hll0]
    exact hk _ R
  simp only [PP,P1,P2,P3,P4,P5,P6,P7,P8,P9,P10,P11,P12,P13,P14,L1,P15,N1,N2,N3,N4,N5,N6,N7,I1,I2,I3,I4,I5,I6,I7,reduceIte,reduceCtorEq,c]
  have hwr := wrap_succ (k := rd) (by show _ < 1000000000000; omega)
  refine loop4 (fun (p vR : Nat) (ch : Bool) (l' : List (Nat × List Bool)) => p ≤ k ∧ PrI N (rsO l) (rsO l') ch (fun u v => u < p ∧ (v : Int) < N.n)) (fun p vR ch l' => [Z,.cp (nfC f1 o1 f2 o2 f3 o3 N) 0,Z,.ref 1 0 1 0 k,Z,Z,p64 rd,.bool ch,p64 p,Z,Z,Z,Z,Z,Z,Z,Z,Z,Z,Z,Z,Z,Z,Z,Z,Z,Z,Z,Z,Z,Z,Z,Z,Z,Z,Z,Z,Z,Z,Z,Z,Z,Z,Z,Z,Z,Z,Z,Z,Z,Z,Z,Z,Z,Z,Z,Z,Z,Z,Z,Z,Z,Z,Z,Z,Z,Z,Z,Z,Z,Z,Z,Z,Z,Z,Z,Z,Z,Z,Z,Z,Z]) (fun _ vR _ l' => stQ vR k l') (fun p _ _ _ => k - p) 0 vR false l ⟨by omega,(PrI.start D U).weak fun p q h => by omega⟩ (by simp only [PWeak_nil,PWeak_junk,PWeak_same,Int.cast_ofNat_Int,List.length_append,List.length_cons,List.length_nil,Nat.zero_add]) rfl ?_
  intro p vR ch l' ⟨hpn,I⟩ ih1
  refine SemW_go (by kernel_rfl) ?_
  simp only [PP,P1,P2,P3,P4,P5,P6,P7,P8,P9,P10,P11,P12,P13,P14,L1,P15,N1,N2,N3,N4,N5,N6,N7,I1,I2,I3,I4,I5,I6,I7,reduceIte,reduceCtorEq,hn]
  have hll : l'.length = k := by have := I.d.1; simp only [List.length_map] at this; omega
  refine QIf.intro (fun d => ?_) (fun d => ?_)
  rotate_left
  · have I2 := I.weak (done' := fun u v => (u : Int) < N.n ∧ (v : Int) < N.n) fun u v h => ⟨by omega,h.2⟩
    simp only [PP,P1,P2,P3,P4,P5,P6,P7,P8,P9,P10,P11,P12,P13,P14,L1,P15,N1,N2,N3,N4,N5,N6,N7,I1,I2,I3,I4,I5,I6,I7,reduceIte,reduceCtorEq,d]
    cases ch with
    | true =>
      have := I2.ye rfl
      simp only [PP,P1,P2,P3,P4,P5,P6,P7,P8,P9,P10,P11,P12,P13,P14,L1,P15,N1,N2,N3,N4,N5,N6,N7,I1,I2,I3,I4,I5,I6,I7,reduceIte,reduceCtorEq,hwr]
      exact SemW_weak (ih (rd + 1) vR l' ⟨I2.d,I2.u,by omega⟩ (by omega)) (by simp only [PWeak_nil,PWeak_junk,PWeak_same,Int.cast_ofNat_Int,List.length_append,List.length_cons,List.length_nil,Nat.zero_add])
    | false =>
      have R := I2.fin
      have hlr : (rsO l').length = k := by rw [List.length_map]; exact hll
      simp only [PP,P1,P2,P3,P4,P5,P6,P7,P8,P9,P10,P11,P12,P13,P14,L1,P15,N1,N2,N3,N4,N5,N6,N7,I1,I2,I3,I4,I5,I6,I7,reduceIte,reduceCtorEq]
      refine Gh.step (GStep.weak (b := [Z,Z,Z,.ref 1 0 1 0 k,Z,Z,Z,Z,Z,Z,Z,Z,Z,Z,Z,Z,Z,Z,Z,Z,Z,Z,Z,Z,Z,Z,Z,Z,Z,Z,Z,Z,Z,Z,Z,Z,Z,Z,Z,Z,Z,Z,Z,Z,Z,Z,Z,Z,Z,Z,Z,Z,Z,Z,Z,Z,Z,Z,Z,Z,Z,Z,Z,Z,Z,Z,Z,Z,Z,Z,Z,Z,Z,Z,Z,Z,Z,Z,Z,Z,Z,Z]) (by simp only [PWeak_nil,PWeak_junk,PWeak_same,Int.cast_ofNat_Int,List.length_append,List.length_cons,List.length_nil,Nat.zero_add]) rfl) (fin vR l' R hlr _ fun M' h1 => SemW_of ?_)
      simp only [PP,P1,P2,P3,P4,P5,P6,P7,P8,P9,P10,P11,P12,P13,P14,L1,P15,N1,N2,N3,N4,N5,N6,N7,I1,I2,I3,I4,I5,I6,I7,reduceIte,reduceCtorEq,h1,hfr _ _ hlr]
      exact hk _ R
  have hp' : p < k := by omega
  have hwp := wrap_succ (k := p) (by show _ < 1000000000000; omega)
  simp only [PP,P1,P2,P3,P4,P5,P6,P7,P8,P9,P10,P11,P12,P13,P14,L1,P15,N1,N2,N3,N4,N5,N6,N7,I1,I2,I3,I4,I5,I6,I7,reduceIte,reduceCtorEq,d]
  refine loop4 (fun (q vR : Nat) (ch : Bool) (l' : List (Nat × List Bool)) => q ≤ k ∧ PrI N (rsO l) (rsO l') ch (fun u v => (u < p ∧ (v : Int) < N.n) ∨ (u = p ∧ v < q))) (fun q vR ch l' => [Z,.cp (nfC f1 o1 f2 o2 f3 o3 N) 0,Z,.ref 1 0 1 0 k,Z,Z,p64 rd,.bool ch,p64 p,p64 q,Z,Z,Z,Z,Z,Z,Z,Z,Z,Z,Z,Z,Z,Z,Z,Z,Z,Z,Z,Z,Z,Z,Z,Z,Z,Z,Z,Z,Z,Z,Z,Z,Z,Z,Z,Z,Z,Z,Z,Z,Z,Z,Z,Z,Z,Z,Z,Z,Z,Z,Z,Z,Z,Z,Z,Z,Z,Z,Z,Z,Z,Z,Z,Z,Z,Z,Z,Z,Z,Z,Z,Z]) (fun _ vR _ l' => stQ vR k l') (fun q _ _ _ => k - q) 0 vR ch l' ⟨by omega,I.weak fun p q h => h.elim id fun h => by omega⟩ (by simp only [PWeak_nil,PWeak_junk,PWeak_same,Int.cast_ofNat_Int,List.length_append,List.length_cons,List.length_nil,Nat.zero_add]) rfl ?_
  intro q vR ch l' ⟨hqn,I⟩ ih2
  refine SemW_go (by kernel_rfl) ?_
  simp only [PP,P1,P2,P3,P4,P5,P6,P7,P8,P9,P10,P11,P12,P13,P14,L1,P15,N1,N2,N3,N4,N5,N6,N7,I1,I2,I3,I4,I5,I6,I7,reduceIte,reduceCtorEq,hn]
  have hll : l'.length = k := by have := I.d.1; simp only [List.length_map] at this; omega
  refine QIf.intro (fun d2 => ?_) (fun d2 => ?_)
  rotate_left
  · simp only [PP,P1,P2,P3,P4,P5,P6,P7,P8,P9,P10,P11,P12,P13,P14,L1,P15,N1,N2,N3,N4,N5,N6,N7,I1,I2,I3,I4,I5,I6,I7,reduceIte,reduceCtorEq,d2,hwp]
    refine SemW_weak (ih1 (p + 1) vR ch l' ⟨by omega,I.weak fun u v h => ?_⟩ (by omega)) (by simp only [PWeak_nil,PWeak_junk,PWeak_same,Int.cast_ofNat_Int,List.length_append,List.length_cons,List.length_nil,Nat.zero_add])
    by_cases e : u = p
    · exact .inr ⟨e,by omega⟩
    · exact .inl ⟨by omega,h.2⟩
  have hq' : q < k := by omega
  have p0 : (0 : Int) ≤ p := by omega
  have pk : (p : Int) < k := by omega
  have q0 : (0 : Int) ≤ q := by omega
  have qk : (q : Int) < k := by omega
  have hwq := wrap_succ (k := q) (by show _ < 1000000000000; omega)
  have hrk := refsR_at (b := 2) hp'
  have hrl := refsR_len 2 k
  obtain ⟨⟨v,row⟩,hlk⟩ := some_of (xs := l') (k := p) (by omega)
  have hrowl : (row.length : Int) = N.n := I.d.2 row (List.mem_map.2 ⟨_,List.mem_of_getElem? hlk,rfl⟩)
  obtain ⟨b,gb⟩ := some_of (xs := row) (k := q) (by omega)
  have hat : (rowsO l')[p]? = some (.cells 0 v (row.map PV.bool)) := by simpa using rowsO_at hlk []
  have hrv : rAt (rsO l') p q = b := by simp [rAt,List.getD,hlk,gb]
  have hrl2 : row.length = k := by omega
  have stepD : ∀ u w : Nat,(u < p ∧ (w : Int) < N.n) ∨ (u = p ∧ w < q + 1) → ((u < p ∧ (w : Int) < N.n) ∨ (u = p ∧ w < q)) ∨ (u = p ∧ w = q) := fun u w h => by
    rcases h with h | ⟨h1,h2⟩
    · exact .inl (.inl h)
    · by_cases e : w = q
      · exact .inr ⟨h1,e⟩
      · exact .inl (.inr ⟨h1,by omega⟩)
  cases b with
  | false =>
    simp only [PP,P1,P2,P3,P4,P5,P6,P7,P8,P9,P10,P11,P12,P13,P14,L1,P15,N1,N2,N3,N4,N5,N6,N7,I1,I2,I3,I4,I5,I6,I7,reduceIte,reduceCtorEq,d2,p0,pk,q0,qk,hrk,hrl,hat,gb,hrl2,hwq]
    exact SemW_weak (ih2 (q + 1) vR ch l' ⟨by omega,(I.keep (p := p) (q := q) (fun h => by rw [hrv] at h; cases h)).weak stepD⟩ (by omega)) (by simp only [PWeak_nil,PWeak_junk,PWeak_same,Int.cast_ofNat_Int,List.length_append,List.length_cons,List.length_nil,Nat.zero_add])
  | true =>
    simp only [PP,P1,P2,P3,P4,P5,P6,P7,P8,P9,P10,P11,P12,P13,P14,L1,P15,N1,N2,N3,N4,N5,N6,N7,I1,I2,I3,I4,I5,I6,I7,reduceIte,reduceCtorEq,d2,p0,pk,q0,qk,hrk,hrl,hat,gb,hrl2]
    refine SemC_bor (args2 := [.agg (nfC f1 o1 f2 o2 f3 o3 N),slBr true false true false (rsO l'),p64 p,p64 q]) (.same (by simp only [PP,P1,P2,P3,P4,P5,P6,P7,P8,P9,P10,P11,P12,P13,P14,L1,P15,N1,N2,N3,N4,N5,N6,N7,I1,I2,I3,I4,I5,I6,I7,reduceIte,reduceCtorEq,under_slE]) (PBor.mat (by simp [hll]) rfl (fun j' r' hr' => ?_) (.same rfl (.same rfl .nil)))) (refHolds_p T C B I.d (by omega) (by omega) (fun b hb => ⟨rfl, ?_⟩))
    · rw [List.getElem?_map,Option.map_eq_some_iff] at hr'
      obtain ⟨⟨v',r2⟩,h1,rfl⟩ := hr'
      have := I.d.2 r2 (List.mem_map.2 ⟨_,List.mem_of_getElem? h1,rfl⟩)
      refine ⟨by show r2.length = k; omega,v', ?_⟩
      simp only [List.getElem?_cons_succ]
      simpa using rowsO_at h1 []
    cases b with
    | true =>
      simp only [PP,P1,P2,P3,P4,P5,P6,P7,P8,P9,P10,P11,P12,P13,P14,L1,P15,N1,N2,N3,N4,N5,N6,N7,I1,I2,I3,I4,I5,I6,I7,reduceIte,reduceCtorEq,hwq]
      exact SemW_weak (ih2 (q + 1) vR ch l' ⟨by omega,(I.keep (p := p) (q := q) (fun _ => hb.1 rfl)).weak stepD⟩ (by omega)) (by simp only [PWeak_nil,PWeak_junk,PWeak_same,Int.cast_ofNat_Int,List.length_append,List.length_cons,List.length_nil,Nat.zero_add])
    | false =>
      have hset := rowsO_set (l := l') (p := p) (by omega) (v + 1) (row.set q false) []
      rw [List.map_set] at hset
      simp only [List.append_nil] at hset
      have q1 : q + 1 ≤ k := hq'
      simp only [PP,P1,P2,P3,P4,P5,P6,P7,P8,P9,P10,P11,P12,P13,P14,L1,P15,N1,N2,N3,N4,N5,N6,N7,I1,I2,I3,I4,I5,I6,I7,reduceIte,reduceCtorEq,d2,p0,pk,q0,qk,q1,hrk,hrl,hat,gb,hrl2,hwq,hset]
      have I2 : PrI N (rsO l) (setAt (rsO l') p q) true (fun u v => (u < p ∧ (v : Int) < N.n) ∨ (u = p ∧ v < q + 1)) := I.cut C (by omega) (by omega) hrv fun h => by have := hb.2 h; cases this
      rw [rsO_setAt hlk] at I2
      exact SemW_weak (ih2 (q + 1) vR true _ ⟨by omega,I2⟩ (by omega)) (by simp only [PWeak_nil,PWeak_junk,PWeak_same,Int.cast_ofNat_Int,List.length_append,List.length_cons,List.length_nil,Nat.zero_add])
end
end Go.Am.Ar
set_option linter.unusedVariables false
set_option linter.unusedSimpArgs false
set_option maxRecDepth 10000
namespace Go.Am.Ar
open Go.Am.PV renaming junk → Z
open Go.Am renaming pchk → P1,pold → P2,PKNo → P3,ppack → P4,PObj.under → P5,pput → P6,ptset → P7,ptget → P8,pev → P9,ofAV → P10,ofAV1 → P11,ppad → P12,pfill → P13,prepl → P14,AO.effect → P15
open List renaming replicate → L1
open Nat renaming reduceAdd → N1,reduceSub → N2,reduceMul → N3,reduceLT → N4,reduceLeDiff → N5,reduceEqDiff → N6,reduceBEq → N7
open Int renaming reduceToNat → I1,reduceLT → I2,reduceLE → I3,reduceEq → I4,reduceAdd → I5,reduceSub → I6,reduceNeg → I7
theorem setQ_succ (l xs : List Int) (k : Nat) : setQ l xs (k + 1) = setQ l xs k ++ if xs.any (fun x => clAt l x == (k : Int)) = true then [(k : Int)] else [] := by
  unfold setQ
  rw [List.range_succ,List.filter_append,List.map_append]
  congr 1
  by_cases q : xs.any (fun x => clAt l x == (k : Int)) = true
  · rw [if_pos q]; simp [q]
  · rw [if_neg q]; simp [q]
section
variable {tab : FuncId → Option AF} (T : HasA tab)
include T
set_option maxHeartbeats 1000000 in
theorem refClasses_p {M : Mem} {K : PV → Mem → Prop} {f1 o1 f2 o2 f3 o3 : Bool} {N : NF} (B : BnN N) (hk : ∀ l e,ClsA N l e → K (.tuple [slI false true .i64 l,p64 e]) M) :
    SemC tab 16 [.agg (nfC f1 o1 f2 o2 f3 o3 N)] M K := by
  refine SemC_wk ?_
  refine SemC_pureS T.h16 (by simp only [PP,P1,P2,P3,P4,P5,P6,P7,P8,P9,P10,P11,P12,P13,P14,L1,P15,N1,N2,N3,N4,N5,N6,N7,I1,I2,I3,I4,I5,I6,I7,reduceIte,reduceCtorEq,under_slE]) ?_
  simp only [af16]
  refine SemW_seq (SemW_of ?_)
  simp only [PP,P1,P2,P3,P4,P5,P6,P7,P8,P9,P10,P11,P12,P13,P14,L1,P15,N1,N2,N3,N4,N5,N6,N7,I1,I2,I3,I4,I5,I6,I7,reduceIte,reduceCtorEq]
  refine SemW_seq (SemW_of ?_)
  simp only [PP,P1,P2,P3,P4,P5,P6,P7,P8,P9,P10,P11,P12,P13,P14,L1,P15,N1,N2,N3,N4,N5,N6,N7,I1,I2,I3,I4,I5,I6,I7,reduceIte,reduceCtorEq]
  refine checkR_p T B ?_
  simp only [PP,P1,P2,P3,P4,P5,P6,P7,P8,P9,P10,P11,P12,P13,P14,L1,P15,N1,N2,N3,N4,N5,N6,N7,I1,I2,I3,I4,I5,I6,I7,reduceIte,reduceCtorEq]
  by_cases c : checkN N = 0
  rotate_left
  · refine SemW_of ?_
    simp only [PP,P1,P2,P3,P4,P5,P6,P7,P8,P9,P10,P11,P12,P13,P14,L1,P15,N1,N2,N3,N4,N5,N6,N7,I1,I2,I3,I4,I5,I6,I7,reduceIte,reduceCtorEq,c]
    exact ⟨_,wk_two (PvWk.nils _ _ _),hk [] _ (.inl ⟨c,rfl,rfl⟩)⟩
  have C := nok_of c
  have n0 := C.n0
  have n64 := C.n64
  obtain ⟨n,hn⟩ : ∃ n : Nat,N.n = n := ⟨N.n.toNat,by omega⟩
  rw [c]
  refine SemW_seq (SemW_of ?_)
  simp only [PP,P1,P2,P3,P4,P5,P6,P7,P8,P9,P10,P11,P12,P13,P14,L1,P15,N1,N2,N3,N4,N5,N6,N7,I1,I2,I3,I4,I5,I6,I7,reduceIte,reduceCtorEq]
  refine SemW_seq (SemW_of ?_)
  simp only [PP,P1,P2,P3,P4,P5,P6,P7,P8,P9,P10,P11,P12,P13,P14,L1,P15,N1,N2,N3,N4,N5,N6,N7,I1,I2,I3,I4,I5,I6,I7,reduceIte,reduceCtorEq]
  refine refRelation_p T C B (fun rs R => ?_)
  have D := R.d
  simp only [PP,P1,P2,P3,P4,P5,P6,P7,P8,P9,P10,P11,P12,P13,P14,L1,P15,N1,N2,N3,N4,N5,N6,N7,I1,I2,I3,I4,I5,I6,I7,reduceIte,reduceCtorEq]
  refine SemW_seq (SemW_of ?_)
  simp only [PP,P1,P2,P3,P4,P5,P6,P7,P8,P9,P10,P11,P12,P13,P14,L1,P15,N1,N2,N3,N4,N5,N6,N7,I1,I2,I3,I4,I5,I6,I7,reduceIte,reduceCtorEq]
  refine SemW_re (GStep.nil 6 1 rfl rfl rfl) ?_
  simp only [ptset,List.cons_append,List.nil_append,List.length_cons,List.length_nil,Nat.reduceAdd]
  refine SemW_of ?_
  simp only [PP,P1,P2,P3,P4,P5,P6,P7,P8,P9,P10,P11,P12,P13,P14,L1,P15,N1,N2,N3,N4,N5,N6,N7,I1,I2,I3,I4,I5,I6,I7,reduceIte,reduceCtorEq]
  refine loop5 (fun (k m g v : Nat) (l : List Int) => k ≤ n ∧ ClsI rs k l m) (fun k m g v l => [Z,.ptr 0 0 0,Z,Z,Z,slBr false true false true rs,.ref 1 g 1 0 l.length,p64 m,p64 k,Z,Z,Z,Z,Z,Z,Z,Z,Z,Z,Z,Z,Z,Z,Z,Z,Z,Z,Z,Z,Z,Z,Z,Z,Z,Z,Z,Z,Z,Z,Z,Z,Z,Z,Z,Z,Z,Z,Z,Z,Z,Z,Z,Z,Z,Z,Z,Z,Z,Z]) (fun k m g v l => [.cells 0 0 (nfC f1 o1 f2 o2 f3 o3 N),.cells g v (l.map p64)]) (fun k _ _ _ _ => n - k) 0 0 0 0 [] ⟨by omega,.nil⟩ (by simp only [PWeak_nil,PWeak_junk,PWeak_same,Int.cast_ofNat_Int,List.length_append,List.length_cons,List.length_nil,Nat.zero_add]) rfl ?_
  intro k m g v l ⟨hle,hC⟩ ih
  refine SemW_go (by kernel_rfl) ?_
  simp only [PP,P1,P2,P3,P4,P5,P6,P7,P8,P9,P10,P11,P12,P13,P14,L1,P15,N1,N2,N3,N4,N5,N6,N7,I1,I2,I3,I4,I5,I6,I7,reduceIte,reduceCtorEq,hn]
  have hll := hC.len
  have hml := hC.lt.1
  refine QIf.intro (fun d => ?_) (fun d => ?_)
  rotate_left
  · have hkn : k = n := by omega
    subst hkn
    have hfr : frzO (some (.cells g v (l.map p64))) g 1 0 l.length = some (slI false true .i64 l) := by
      rw [frzO_cells (by simp) (underL_map _ p64 (fun x => by simp [PV.under]) _),Nat.mul_one,psub_all _ _ (by simp)]
    simp only [PP,P1,P2,P3,P4,P5,P6,P7,P8,P9,P10,P11,P12,P13,P14,L1,P15,N1,N2,N3,N4,N5,N6,N7,I1,I2,I3,I4,I5,I6,I7,reduceIte,reduceCtorEq,d,hfr]
    exact ⟨_,PvWk.refl _,hk l 0 (.inr ⟨c,rfl,rs,m,R,by rw [hn]; exact hC⟩)⟩
  have hk' : k < n := by omega
  have hwk := wrap_succ (k := k) (by show _ < 1000000000000; omega)
  simp only [PP,P1,P2,P3,P4,P5,P6,P7,P8,P9,P10,P11,P12,P13,P14,L1,P15,N1,N2,N3,N4,N5,N6,N7,I1,I2,I3,I4,I5,I6,I7,reduceIte,reduceCtorEq,d]
  refine loop1 (fun (q : Nat) => q ≤ k ∧ ∀ j,j < q → simB rs k j = false) (fun q => [Z,.ptr 0 0 0,Z,Z,Z,slBr false true false true rs,.ref 1 g 1 0 l.length,p64 m,p64 k,p64 q,Z,Z,Z,Z,Z,Z,Z,Z,Z,Z,Z,Z,Z,Z,Z,Z,Z,Z,Z,Z,Z,Z,Z,Z,Z,Z,Z,Z,Z,Z,Z,Z,Z,Z,Z,Z,Z,Z,Z,Z,Z,Z,Z,Z,Z,Z,Z,Z,Z]) (fun q => [.cells 0 0 (nfC f1 o1 f2 o2 f3 o3 N),.cells g v (l.map p64)]) (fun q => k - q) 0 ⟨by omega,fun j h => by omega⟩ (by simp only [PWeak_nil,PWeak_junk,PWeak_same,Int.cast_ofNat_Int,List.length_append,List.length_cons,List.length_nil,Nat.zero_add]) rfl ?_
  intro q ⟨hq,hd⟩ ih2
  have q0 : (0 : Int) ≤ q := by omega
  have k0 : (0 : Int) ≤ k := by omega
  obtain ⟨row,g1,g2,g4,hrl⟩ := rel_at D (p := k) (q := q) (by omega) (by omega) (by omega) (by omega)
  obtain ⟨row2,g5,g6,g8,_⟩ := rel_at D (p := q) (q := k) (by omega) (by omega) (by omega) (by omega)
  simp only [Int.toNat_natCast] at g1 g2 g5 g6
  have kn : (k : Int) < rs.length := by omega
  have qn : (q : Int) < rs.length := by omega
  have kn2 : (k : Int) < row2.length := by omega
  have qn2 : (q : Int) < row.length := by omega
  have hwq := wrap_succ (k := q) (by show _ < 1000000000000; omega)
  have hs : simB rs k q = (rAt rs k q && rAt rs q k) := rfl
  have b8 : (l.length + 1) * 8 ≤ 140737488355328 := by omega
  have b1 : l.length ≤ 9223372036854775806 := by omega
  have hps : psub (l.map p64) 0 l.length = l.map p64 := psub_all _ _ (by simp)
  have hwm := wrap_succ (k := m) (by show _ < 1000000000000; omega)
  have nxt : simB rs k q = false → q < k ∧ ∀ j,j < q + 1 → simB rs k j = false := fun h => by
    constructor
    · refine Nat.lt_of_le_of_ne hq fun e => ?_
      subst e
      have := R.refl (p := q) (by omega)
      rw [hs,this] at h
      cases h
    · intro j hj
      by_cases z : j = q
      · subst z; exact h
      · exact hd j (by omega)
  refine SemW_go (by kernel_rfl) ?_
  simp only [PP,P1,P2,P3,P4,P5,P6,P7,P8,P9,P10,P11,P12,P13,P14,L1,P15,N1,N2,N3,N4,N5,N6,N7,I1,I2,I3,I4,I5,I6,I7,reduceIte,reduceCtorEq,k0,kn,g1,q0,qn2,g2]
  cases h1 : rAt rs k q with
  | false =>
    obtain ⟨hqk,hd2⟩ := nxt (by rw [hs,h1]; rfl)
    simp only [PP,P1,P2,P3,P4,P5,P6,P7,P8,P9,P10,P11,P12,P13,P14,L1,P15,N1,N2,N3,N4,N5,N6,N7,I1,I2,I3,I4,I5,I6,I7,reduceIte,reduceCtorEq,hwq]
    exact SemW_weak (ih2 (q + 1) ⟨by omega,hd2⟩ (by omega)) (by simp only [PWeak_nil,PWeak_junk,PWeak_same,Int.cast_ofNat_Int,List.length_append,List.length_cons,List.length_nil,Nat.zero_add])
  | true =>
    simp only [PP,P1,P2,P3,P4,P5,P6,P7,P8,P9,P10,P11,P12,P13,P14,L1,P15,N1,N2,N3,N4,N5,N6,N7,I1,I2,I3,I4,I5,I6,I7,reduceIte,reduceCtorEq,q0,qn,g5,k0,kn2,g6]
    cases h2 : rAt rs q k with
    | false =>
      obtain ⟨hqk,hd2⟩ := nxt (by rw [hs,h1,h2]; rfl)
      simp only [PP,P1,P2,P3,P4,P5,P6,P7,P8,P9,P10,P11,P12,P13,P14,L1,P15,N1,N2,N3,N4,N5,N6,N7,I1,I2,I3,I4,I5,I6,I7,reduceIte,reduceCtorEq,hwq]
      exact SemW_weak (ih2 (q + 1) ⟨by omega,hd2⟩ (by omega)) (by simp only [PWeak_nil,PWeak_junk,PWeak_same,Int.cast_ofNat_Int,List.length_append,List.length_cons,List.length_nil,Nat.zero_add])
    | true =>
      simp only [PP,P1,P2,P3,P4,P5,P6,P7,P8,P9,P10,P11,P12,P13,P14,L1,P15,N1,N2,N3,N4,N5,N6,N7,I1,I2,I3,I4,I5,I6,I7,reduceIte,reduceCtorEq]
      refine QIf.intro (fun e => ?_) (fun e => ?_)
      · obtain ⟨cc,gc⟩ := some_of (xs := l) (k := q) (by omega)
        have ql : (q : Int) < l.length := by omega
        simp only [PP,P1,P2,P3,P4,P5,P6,P7,P8,P9,P10,P11,P12,P13,P14,L1,P15,N1,N2,N3,N4,N5,N6,N7,I1,I2,I3,I4,I5,I6,I7,reduceIte,reduceCtorEq,e,q0,ql,gc,hwk,b8,b1,hps]
        refine SemW_to (ih (k + 1) m (g + 1) 0 (l ++ [cc]) ⟨by omega,.old hC (by omega) hd (by rw [hs,h1,h2]; rfl) gc⟩ (by omega)) (by simp only [PWeak_nil,PWeak_junk,PWeak_same,Int.cast_ofNat_Int,List.length_append,List.length_cons,List.length_nil,Nat.zero_add]) (by simp)
      · have hqk : q = k := by omega
        subst hqk
        simp only [PP,P1,P2,P3,P4,P5,P6,P7,P8,P9,P10,P11,P12,P13,P14,L1,P15,N1,N2,N3,N4,N5,N6,N7,I1,I2,I3,I4,I5,I6,I7,reduceIte,reduceCtorEq,e,hwk,hwm,b8,b1,hps]
        refine SemW_to (ih (q + 1) (m + 1) (g + 1) 0 (l ++ [(m : Int)]) ⟨by omega,.new hC hd⟩ (by omega)) (by simp only [PWeak_nil,PWeak_junk,PWeak_same,Int.cast_ofNat_Int,List.length_append,List.length_cons,List.length_nil,Nat.zero_add]) (by simp)
set_option maxHeartbeats 1000000 in
theorem setR_p {M : Mem} {K : PV → Mem → Prop} {f o f2 o2 : Bool} {l xs : List Int} {m : Nat} (hm : m ≤ 64) (hx : xs.length < 1000000000000) (hl : l.length < 1000000000000) (hb : ∀ x ∈ xs,0 ≤ x ∧ x < l.length) (hk : K (slI false true .i64 (setQ l xs m)) M) :
    SemC tab 45 [slI f o .i64 l,slI f2 o2 .i64 xs,p64 m] M K := by
  refine SemC_pure T.h45 (by simp only [PP,P1,P2,P3,P4,P5,P6,P7,P8,P9,P10,P11,P12,P13,P14,L1,P15,N1,N2,N3,N4,N5,N6,N7,I1,I2,I3,I4,I5,I6,I7,reduceIte,reduceCtorEq]) ?_
  simp only [af45,PP,P1,P2,P3,P4,P5,P6,P7,P8,P9,P10,P11,P12,P13,P14,L1,P15,N1,N2,N3,N4,N5,N6,N7,I1,I2,I3,I4,I5,I6,I7,reduceIte,reduceCtorEq]
  refine SemW_re (GStep.nil 7 1 rfl rfl rfl) ?_
  simp only [ptset,List.cons_append,List.nil_append,List.length_cons,List.length_nil,Nat.reduceAdd]
  refine loop3 (fun (k g v : Nat) => k ≤ m) (fun k g v => [slI f o .i64 l,slI f2 o2 .i64 xs,p64 m,Z,Z,Z,Z,.ref 0 g 1 0 (setQ l xs k).length,p64 k,Z,Z,Z,Z,Z,Z,Z,Z,Z,Z,Z,Z,Z,Z,Z,Z,Z,Z,Z,Z,Z,Z,Z,Z,Z,Z,Z,Z,Z,Z,Z,Z]) (fun k g v => [.cells g v ((setQ l xs k).map p64)]) (fun k _ _ => m - k) 0 0 0 (by omega) (by rw [show (setQ l xs 0).length = 0 from rfl]; exact by simp only [PWeak_nil,PWeak_junk,PWeak_same,Int.cast_ofNat_Int,List.length_append,List.length_cons,List.length_nil,Nat.zero_add]) rfl ?_
  intro k g v hkm ih
  have hlen : ∀ k,(setQ l xs k).length ≤ k := fun k => by
    unfold setQ; rw [List.length_map]; exact Nat.le_trans (List.length_filter_le _ _) (by simp)
  have hlk := hlen k
  refine SemW_go (by kernel_rfl) ?_
  simp only [PP,P1,P2,P3,P4,P5,P6,P7,P8,P9,P10,P11,P12,P13,P14,L1,P15,N1,N2,N3,N4,N5,N6,N7,I1,I2,I3,I4,I5,I6,I7,reduceIte,reduceCtorEq]
  refine QIf.intro (fun d => ?_) (fun d => ?_)
  rotate_left
  · have hkm : k = m := by omega
    subst hkm
    have hfr : frzO (some (.cells g v ((setQ l xs k).map p64))) g 1 0 (setQ l xs k).length = some (slI false true .i64 (setQ l xs k)) := by
      rw [frzO_cells (by simp) (underL_map _ p64 (fun x => by simp [PV.under]) _),Nat.mul_one,psub_all _ _ (by simp)]
    simp only [PP,P1,P2,P3,P4,P5,P6,P7,P8,P9,P10,P11,P12,P13,P14,L1,P15,N1,N2,N3,N4,N5,N6,N7,I1,I2,I3,I4,I5,I6,I7,reduceIte,reduceCtorEq,d,hfr]
    exact hk
  have hk' : k < m := by omega
  have hwk := wrap_succ (k := k) (by show _ < 1000000000000; omega)
  simp only [PP,P1,P2,P3,P4,P5,P6,P7,P8,P9,P10,P11,P12,P13,P14,L1,P15,N1,N2,N3,N4,N5,N6,N7,I1,I2,I3,I4,I5,I6,I7,reduceIte,reduceCtorEq,d]
  refine loop4 (fun (i g v : Nat) (o : List Int) => i ≤ xs.length ∧ o = setQ l xs k ++ if (xs.take i).any (fun x => clAt l x == (k : Int)) = true then [(k : Int)] else []) (fun i g v o' => [slI f o .i64 l,slI f2 o2 .i64 xs,p64 m,Z,Z,Z,Z,.ref 0 g 1 0 o'.length,p64 k,p64 i,Z,Z,Z,Z,Z,Z,Z,Z,Z,Z,Z,Z,Z,Z,Z,Z,Z,Z,Z,Z,Z,Z,Z,Z,Z,Z,Z,Z,Z,Z,Z]) (fun i g v o => [.cells g v (o.map p64)]) (fun i _ _ _ => xs.length - i) 0 g v (setQ l xs k) ⟨by omega,by simp⟩ (by simp only [PWeak_nil,PWeak_junk,PWeak_same,Int.cast_ofNat_Int,List.length_append,List.length_cons,List.length_nil,Nat.zero_add]) rfl ?_
  intro i g v out ⟨hi,ho⟩ ih2
  refine SemW_go (by kernel_rfl) ?_
  simp only [PP,P1,P2,P3,P4,P5,P6,P7,P8,P9,P10,P11,P12,P13,P14,L1,P15,N1,N2,N3,N4,N5,N6,N7,I1,I2,I3,I4,I5,I6,I7,reduceIte,reduceCtorEq]
  refine QIf.intro (fun e => ?_) (fun e => ?_)
  rotate_left
  · have hil : i = xs.length := by omega
    subst hil
    rw [List.take_of_length_le (Nat.le_refl _), ← setQ_succ] at ho
    subst ho
    simp only [PP,P1,P2,P3,P4,P5,P6,P7,P8,P9,P10,P11,P12,P13,P14,L1,P15,N1,N2,N3,N4,N5,N6,N7,I1,I2,I3,I4,I5,I6,I7,reduceIte,reduceCtorEq,e,hwk]
    exact SemW_to (ih (k + 1) g v (by omega) (by omega)) (by simp only [PWeak_nil,PWeak_junk,PWeak_same,Int.cast_ofNat_Int,List.length_append,List.length_cons,List.length_nil,Nat.zero_add]) rfl
  have hi' : i < xs.length := by omega
  obtain ⟨x,gx⟩ := some_of hi'
  obtain ⟨x0,xl⟩ := hb x (List.mem_of_getElem? gx)
  obtain ⟨cc,gc⟩ := some_of (xs := l) (k := x.toNat) (by omega)
  have hcc := clAt_some gc
  have i0 : (0 : Int) ≤ i := by omega
  have hwi := wrap_succ (k := i) (by show _ < 1000000000000; omega)
  have htk : (xs.take (i + 1)).any (fun x => clAt l x == (k : Int)) = ((xs.take i).any (fun x => clAt l x == (k : Int)) || (cc == (k : Int))) := by
    rw [List.take_add_one,gx,List.any_append]
    simp [hcc]
  have hol : out.length ≤ k + 1 := by
    rw [ho]
    have := hlk
    split <;> simp <;> omega
  have hmem : (k : Int) ∈ out ↔ (xs.take i).any (fun x => clAt l x == (k : Int)) = true := by
    rw [ho,List.mem_append]
    constructor
    · rintro (h | h)
      · have := (mem_setQ.1 h).1; omega
      · by_cases q : (xs.take i).any (fun x => clAt l x == (k : Int)) = true
        · exact q
        · rw [if_neg q] at h; cases h
    · intro h
      rw [if_pos h]; exact .inr (by simp)
  simp only [PP,P1,P2,P3,P4,P5,P6,P7,P8,P9,P10,P11,P12,P13,P14,L1,P15,N1,N2,N3,N4,N5,N6,N7,I1,I2,I3,I4,I5,I6,I7,reduceIte,reduceCtorEq,e,i0,gx,x0,xl,gc]
  refine QIf.intro (fun h => ?_) (fun h => ?_)
  · simp only [PP,P1,P2,P3,P4,P5,P6,P7,P8,P9,P10,P11,P12,P13,P14,L1,P15,N1,N2,N3,N4,N5,N6,N7,I1,I2,I3,I4,I5,I6,I7,reduceIte,reduceCtorEq,h]
    refine SemC_bor (.ints rfl rfl (.same rfl .nil)) (hasInt_p T (by show _ < 1000000000000; omega) ⟨rfl, ?_⟩)
    by_cases q : (k : Int) ∈ out
    · have q2 := hmem.1 q
      simp only [PP,P1,P2,P3,P4,P5,P6,P7,P8,P9,P10,P11,P12,P13,P14,L1,P15,N1,N2,N3,N4,N5,N6,N7,I1,I2,I3,I4,I5,I6,I7,reduceIte,reduceCtorEq,q,hwi]
      refine SemW_weak (ih2 (i + 1) g v out ⟨by omega, ?_⟩ (by omega)) (by simp only [PWeak_nil,PWeak_junk,PWeak_same,Int.cast_ofNat_Int,List.length_append,List.length_cons,List.length_nil,Nat.zero_add])
      rw [htk,q2,ho,q2]; rfl
    · have q2 : (xs.take i).any (fun x => clAt l x == (k : Int)) = false := by
        rw [Bool.eq_false_iff]; exact fun z => q (hmem.2 z)
      have b8 : (out.length + 1) * 8 ≤ 140737488355328 := by omega
      have b1 : out.length ≤ 9223372036854775806 := by omega
      have hps : psub (out.map p64) 0 out.length = out.map p64 := psub_all _ _ (by simp)
      simp only [PP,P1,P2,P3,P4,P5,P6,P7,P8,P9,P10,P11,P12,P13,P14,L1,P15,N1,N2,N3,N4,N5,N6,N7,I1,I2,I3,I4,I5,I6,I7,reduceIte,reduceCtorEq,q,b8,b1,hps,hwi]
      refine SemW_to (ih2 (i + 1) (g + 1) 0 (out ++ [(k : Int)]) ⟨by omega, ?_⟩ (by omega)) (by simp only [PWeak_nil,PWeak_junk,PWeak_same,Int.cast_ofNat_Int,List.length_append,List.length_cons,List.length_nil,Nat.zero_add]) (by simp)
      rw [htk,q2,ho,q2,h]; simp
  · simp only [PP,P1,P2,P3,P4,P5,P6,P7,P8,P9,P10,P11,P12,P13,P14,L1,P15,N1,N2,N3,N4,N5,N6,N7,I1,I2,I3,I4,I5,I6,I7,reduceIte,reduceCtorEq,h,hwi]
    refine SemW_weak (ih2 (i + 1) g v out ⟨by omega, ?_⟩ (by omega)) (by simp only [PWeak_nil,PWeak_junk,PWeak_same,Int.cast_ofNat_Int,List.length_append,List.length_cons,List.length_nil,Nat.zero_add])
    have : (cc == (k : Int)) = false := by simp [h]
    rw [htk,this,Bool.or_false]; exact ho
end
end Go.Am.Ar
set_option linter.unusedVariables false
set_option linter.unusedSimpArgs false
set_option maxRecDepth 10000
namespace Go.Am.Ar
open Go.Am.PV renaming junk → Z
section
variable {N : NF} {rs : List (List Bool)} {l : List Int} {m : Nat}
theorem cl_at (C : NOk N) (hC : ClsI rs N.n.toNat l m) {p : Int} (h0 : 0 ≤ p) (hn : p < N.n) : l[p.toNat]? = some (clAt l p) ∧ 0 ≤ clAt l p ∧ clAt l p < m := by
  have := hC.len
  obtain ⟨c,gc⟩ := some_of (xs := l) (k := p.toNat) (by omega)
  have := hC.lt.2 c (List.mem_of_getElem? gc)
  rw [clAt_some gc]; exact ⟨gc,this⟩
theorem setQ_ok (xs : List Int) : posM m (-1) (setQ l xs m) = true := posM_of (setQ_sorted l xs m) fun x hx => by
  have := (mem_setQ.1 hx).1; omega
theorem quo_nok (C : NOk N) (hC : ClsI rs N.n.toNat l m) : NOk (quoN N l m) := by
  have n64 := C.n64
  have e5 := C.e512
  have := hC.lt.1
  refine ⟨C.v0,C.v6,by show (0 : Int) ≤ (m : Int); omega,by show (m : Int) ≤ 64; omega,Nat.le_trans (edsQ_len _ _) e5,setQ_ok _,setQ_ok _,fun e he => ?_⟩
  obtain ⟨x,hx,rfl⟩ := mem_edsQ.1 he
  obtain ⟨q1,q2,q3,q4,q5⟩ := C.ed x hx
  have a1 := (cl_at C hC q1 q2).2
  have a2 := (cl_at C hC q3 q4).2
  exact ⟨a1.1,a1.2,a2.1,a2.2,q5⟩
theorem quo_fit (C : NOk N) (B : BnN N) (hC : ClsI rs N.n.toNat l m) : ∀ y ∈ (quoN N l m).es,y.fit := by
  have n64 := C.n64
  have := hC.lt.1
  intro y hy
  obtain ⟨x,hx,rfl⟩ := mem_edsQ.1 hy
  obtain ⟨q1,q2,q3,q4,q5⟩ := C.ed x hx
  have a1 := (cl_at C hC q1 q2).2
  have a2 := (cl_at C hC q3 q4).2
  obtain ⟨b1,b2⟩ := B.b x hx
  exact ⟨⟨by show _ ≤ clAt l x.fr; omega,by show clAt l x.fr ≤ _; omega⟩,⟨by show _ ≤ clAt l x.to; omega,by show clAt l x.to ≤ _; omega⟩,b1,b2⟩
end
theorem nok_bn {N : NF} (C : NOk N) (hb : ∀ x ∈ N.es,x.fit) : BnN N := by
  have n64 := C.n64
  have h1 := posM_len C.st n64
  have h2 := posM_len C.fi n64
  have h3 := C.e512
  exact ⟨by show _ < 1000000000000; omega,by show _ < 1000000000000; omega,by show _ < 1000000000000; omega,fun x hx => ⟨(hb x hx).2.2.1,(hb x hx).2.2.2⟩⟩
theorem QuoA.fit {N Q : NF} {e : Int} (B : BnN N) (h : QuoA N Q e) : BnN Q ∧ ∀ y ∈ Q.es,y.fit := by
  rcases h with ⟨_,rfl,_⟩ | ⟨h1,_,rs,l,m,R,hC,rfl⟩
  · exact ⟨⟨by decide,by decide,by decide,fun x hx => by cases hx⟩,fun y hy => by cases hy⟩
  · have f := quo_fit (nok_of h1) B hC
    exact ⟨nok_bn (quo_nok (nok_of h1) hC) f,f⟩
end Go.Am.Ar

