/- Contracts: slices.Sort of up to 13 numbers: the pivot, and whether it is sorted already, and what goes with it. -/
import Derived.Test.YtgapkfaikhlipaaImproveValuationMatchesG1
import Derived.Test.YtgapkfaikhlipaaPmC
import Derived.Test.YtgapkfaikhlipaaImproveValuationMatchesG0
set_option linter.unusedVariables false
set_option linter.unusedSimpArgs false
set_option maxRecDepth 10000
namespace Go.Am.Ar
open Go.Am.PV renaming junk→Zj
open Go.Am renaming pchk→P1,pold→P2,PKNo→P3,ppack→P4,PObj.under→P5,pput→P6,ptset→P7,q55→P8,pev→P9,ofAV→P10,q31→P11,ppad→P12,pfill→P13,q30→P14,AO.effect→P15
open List renaming replicate→L1
open Nat renaming reduceAdd→N1,reduceSub→N2,reduceMul→N3,reduceLT→N4,reduceLeDiff→N5,reduceEqDiff→N6,reduceBEq→N7
open Int renaming reduceToNat→I1,reduceLT→I2,reduceLE→I3,reduceEq→I4,reduceAdd→I5,reduceSub→I6,reduceNeg→I7
section
variable {tab:FuncId→Option AF} (T:HasA tab)
include T
theorem order2_p {K:PV→Mem→Prop} {f o:Bool} {l:List Int} {ver:Nat} {s a b:Int} (s0:0≤s) (s1:s<100) (a0:0≤a) (a1:a<l.length) (b0:0≤b) (b1:b<l.length)
  (hk:∀(ver':Nat) (s' a' b':Int),0≤s'→s'≤s+1→0≤a'→a'<l.length→0≤b'→b'<l.length→K (.tuple [p64 a',p64 b']) [.cells 0 ver' [p64 s']]):
  SemC tab 119 [slI f o .i64 l,p64 a,p64 b,.ptr 0 0 0] [.cells 0 ver [p64 s]] K:=by
 refine q33 T.h119 ?_
 obtain⟨x,gx⟩:=q13 (xs:=l) (k:=a.toNat) (by omega)
 obtain⟨y,gy⟩:=q13 (xs:=l) (k:=b.toNat) (by omega)
 have hw:IntKind.i64.wrap (s+1)=s+1:=q57 (by omega) (by omega)
 simp only[af119,PP,P1,P2,P3,P4,P5,P6,P7,P8,P9,P10,P11,P12,P13,P14,L1,P15,N1,N2,N3,N4,N5,N6,N7,I1,I2,I3,I4,I5,I6,I7,reduceIte,reduceCtorEq,a0,a1,b0,b1,gx,gy]
 refine less13_p T ?_
 simp only[PP,P1,P2,P3,P4,P5,P6,P7,P8,P9,P10,P11,P12,P13,P14,L1,P15,N1,N2,N3,N4,N5,N6,N7,I1,I2,I3,I4,I5,I6,I7,reduceIte,reduceCtorEq]
 refine QIf.intro (fun c=>?_) (fun c=>?_)
 ·simp only[PP,P1,P2,P3,P4,P5,P6,P7,P8,P9,P10,P11,P12,P13,P14,L1,P15,N1,N2,N3,N4,N5,N6,N7,I1,I2,I3,I4,I5,I6,I7,reduceIte,reduceCtorEq,c,hw]
  exact hk _ _ _ _ (by omega) (by omega) b0 b1 a0 a1
 ·simp only[PP,P1,P2,P3,P4,P5,P6,P7,P8,P9,P10,P11,P12,P13,P14,L1,P15,N1,N2,N3,N4,N5,N6,N7,I1,I2,I3,I4,I5,I6,I7,reduceIte,reduceCtorEq,c]
  exact hk _ _ _ _ (by omega) (by omega) a0 a1 b0 b1
theorem median_p {K:PV→Mem→Prop} {f o:Bool} {l:List Int} {ver:Nat} {s a b c:Int} (s0:0≤s) (s1:s<90) (a0:0≤a) (a1:a<l.length) (b0:0≤b) (b1:b<l.length) (c0:0≤c) (c1:c<l.length)
  (hk:∀(ver':Nat) (s' a':Int),0≤s'→s'≤s+3→0≤a'→a'<l.length→K (p64 a') [.cells 0 ver' [p64 s']]):
  SemC tab 114 [slI f o .i64 l,p64 a,p64 b,p64 c,.ptr 0 0 0] [.cells 0 ver [p64 s]] K:=by
 refine q33 T.h114 ?_
 simp only[af114,PP,P1,P2,P3,P4,P5,P6,P7,P8,P9,P10,P11,P12,P13,P14,L1,P15,N1,N2,N3,N4,N5,N6,N7,I1,I2,I3,I4,I5,I6,I7,reduceIte,reduceCtorEq]
 refine order2_p T s0 (by omega) a0 a1 b0 b1 fun v1 s2 a2 b2 h1 h2 h3 h4 h5 h6=>?_
 simp only[PP,P1,P2,P3,P4,P5,P6,P7,P8,P9,P10,P11,P12,P13,P14,L1,P15,N1,N2,N3,N4,N5,N6,N7,I1,I2,I3,I4,I5,I6,I7,reduceIte,reduceCtorEq]
 refine order2_p T h1 (by omega) h5 h6 c0 c1 fun v2 s3 b3 c3 g1 g2 g3 g4 g5 g6=>?_
 simp only[PP,P1,P2,P3,P4,P5,P6,P7,P8,P9,P10,P11,P12,P13,P14,L1,P15,N1,N2,N3,N4,N5,N6,N7,I1,I2,I3,I4,I5,I6,I7,reduceIte,reduceCtorEq]
 refine order2_p T g1 (by omega) h3 h4 g3 g4 fun v3 s4 a4 b4 k1 k2 k3 k4 k5 k6=>?_
 simp only[PP,P1,P2,P3,P4,P5,P6,P7,P8,P9,P10,P11,P12,P13,P14,L1,P15,N1,N2,N3,N4,N5,N6,N7,I1,I2,I3,I4,I5,I6,I7,reduceIte,reduceCtorEq]
 exact hk _ _ _ (by omega) (by omega) k5 k6
theorem pivot_p {M:Mem} {K:PV→Mem→Prop} {f o:Bool} {l:List Int} (hl:l.length=13)
  (hk:∀(a h:Int),0≤a→a<13→(h=0∨h=1)→K (.tuple [p64 a,p64 h]) M):
  SemC tab 100 [slI f o .i64 l,p64 0,p64 13] M K:=by
 refine q11 T.h100 (by simp only[PP,P1,P2,P3,P4,P5,P6,P7,P8,P9,P10,P11,P12,P13,P14,L1,P15,N1,N2,N3,N4,N5,N6,N7,I1,I2,I3,I4,I5,I6,I7,reduceIte,reduceCtorEq]) ?_
 have w0:IntKind.i64.wrap 13=13:=by decide
 have q0:(13:Int).tdiv 4=3:=by decide
 have w1:IntKind.i64.wrap 3=3:=by decide
 have w2:IntKind.i64.wrap 6=6:=by decide
 have w3:IntKind.i64.wrap 9=9:=by decide
 have hq:∀x:Int,pbin .quo (.int .i64 x) (.int .i64 4)=some (.int .i64 (IntKind.i64.wrap (x.tdiv 4))):=fun x=>pbin_quo _ _ _ (by decide)
 simp only[af100,PP,P1,P2,P3,P4,P5,P6,P7,P8,P9,P10,P11,P12,P13,P14,L1,P15,N1,N2,N3,N4,N5,N6,N7,I1,I2,I3,I4,I5,I6,I7,reduceIte,reduceCtorEq,w0,hq,q0,w1,w2,w3,Int.reduceMul,Int.reduceSub,Int.reduceAdd]
 refine median_p T (by omega) (by omega) (by omega) (by omega) (by omega) (by omega) (by omega) (by omega) fun v s a h1 h2 h3 h4=>?_
 have n12:¬s=12:=by omega
 simp only[PP,P1,P2,P3,P4,P5,P6,P7,P8,P9,P10,P11,P12,P13,P14,L1,P15,N1,N2,N3,N4,N5,N6,N7,I1,I2,I3,I4,I5,I6,I7,reduceIte,reduceCtorEq,n12]
 refine QIf.intro (fun c=>?_) (fun c=>?_)
 ·simp only[PP,P1,P2,P3,P4,P5,P6,P7,P8,P9,P10,P11,P12,P13,P14,L1,P15,N1,N2,N3,N4,N5,N6,N7,I1,I2,I3,I4,I5,I6,I7,reduceIte,reduceCtorEq,c]
  exact hk _ _ h3 (by omega) (.inr rfl)
 ·simp only[PP,P1,P2,P3,P4,P5,P6,P7,P8,P9,P10,P11,P12,P13,P14,L1,P15,N1,N2,N3,N4,N5,N6,N7,I1,I2,I3,I4,I5,I6,I7,reduceIte,reduceCtorEq,c,n12]
  exact hk _ _ h3 (by omega) (.inl rfl)
theorem partial_p {M:Mem} {K:PV→Mem→Prop} {f o:Bool} {l:List Int} {n:Nat} (hl:l.length=n) (h50:n<50) (hn:0<n)
  (hk:∀r:Bool,(r=true→l.Pairwise (·≤·))→K (.bool r) M):
  SemC tab 102 [slI f o .i64 l,p64 0,p64 n] M K:=by
 refine q11 T.h102 (by simp only[PP,P1,P2,P3,P4,P5,P6,P7,P8,P9,P10,P11,P12,P13,P14,L1,P15,N1,N2,N3,N4,N5,N6,N7,I1,I2,I3,I4,I5,I6,I7,reduceIte,reduceCtorEq]) ?_
 have w1:IntKind.i64.wrap 1=((1:Nat):Int):=rfl
 have w0:IntKind.i64.wrap ((n:Int)-0)=n:=by rw[q57 (by omega) (by omega)];omega
 simp only[af102,PP,P1,P2,P3,P4,P5,P6,P7,P8,P9,P10,P11,P12,P13,P14,L1,P15,N1,N2,N3,N4,N5,N6,N7,I1,I2,I3,I4,I5,I6,I7,reduceIte,reduceCtorEq,w1]
 refine loop1 (fun(k:Nat)=>True) (fun k=>[slI f o .i64 l,p64 0,p64 n,Zj,Zj,Zj,Zj,p64 1,p64 0,Zj,Zj,Zj,Zj,Zj,Zj,Zj,Zj,Zj,Zj,Zj,Zj,Zj,Zj,Zj,Zj,Zj,Zj,Zj,Zj,Zj,Zj,Zj,Zj,Zj,Zj,Zj,Zj,Zj,Zj,Zj,Zj,Zj,Zj,Zj,Zj,Zj,Zj,Zj,Zj,Zj,Zj,Zj,Zj,Zj,Zj,Zj,Zj,Zj,Zj,Zj,Zj,Zj,Zj,Zj,Zj,Zj,Zj,Zj,Zj,Zj,Zj,Zj,Zj,Zj,Zj,Zj,Zj,Zj,Zj,Zj,Zj,Zj,Zj,Zj,Zj,Zj,Zj,Zj,Zj,Zj,Zj,Zj,Zj,Zj,Zj,Zj,Zj,Zj,Zj,Zj,Zj,Zj,Zj,Zj,Zj,Zj,Zj,Zj,Zj,Zj,Zj,Zj,Zj,Zj,Zj,Zj,Zj,Zj,Zj,Zj,Zj,Zj,Zj,Zj,Zj,Zj,Zj,Zj,Zj,Zj,Zj,Zj,Zj]) (fun _=>[]) (fun k=>0) 0 trivial (by simp only[PW]) rfl ?_
 intro _ _ _
 refine q15 (by kernel_rfl) ?_
 simp only[PP,P1,P2,P3,P4,P5,P6,P7,P8,P9,P10,P11,P12,P13,P14,L1,P15,N1,N2,N3,N4,N5,N6,N7,I1,I2,I3,I4,I5,I6,I7,reduceIte,reduceCtorEq]
 refine loop1 (fun(i:Nat)=>1≤i∧i≤n∧(l.take i).Pairwise (·≤·)) (fun i=>[slI f o .i64 l,p64 0,p64 n,Zj,Zj,Zj,Zj,p64 i,p64 0,Zj,Zj,Zj,Zj,Zj,Zj,Zj,Zj,Zj,Zj,Zj,Zj,Zj,Zj,Zj,Zj,Zj,Zj,Zj,Zj,Zj,Zj,Zj,Zj,Zj,Zj,Zj,Zj,Zj,Zj,Zj,Zj,Zj,Zj,Zj,Zj,Zj,Zj,Zj,Zj,Zj,Zj,Zj,Zj,Zj,Zj,Zj,Zj,Zj,Zj,Zj,Zj,Zj,Zj,Zj,Zj,Zj,Zj,Zj,Zj,Zj,Zj,Zj,Zj,Zj,Zj,Zj,Zj,Zj,Zj,Zj,Zj,Zj,Zj,Zj,Zj,Zj,Zj,Zj,Zj,Zj,Zj,Zj,Zj,Zj,Zj,Zj,Zj,Zj,Zj,Zj,Zj,Zj,Zj,Zj,Zj,Zj,Zj,Zj,Zj,Zj,Zj,Zj,Zj,Zj,Zj,Zj,Zj,Zj,Zj,Zj,Zj,Zj,Zj,Zj,Zj,Zj,Zj,Zj,Zj,Zj,Zj,Zj,Zj]) (fun _=>[]) (fun i=>n-i) 1 ⟨by omega,by omega,by match l with | []=>simp | [a]=>simp | a::b::c=>simp⟩ (by simp only[PW]) rfl ?_
 intro i ⟨hi,hin,hs⟩ ih
 refine q15 (by kernel_rfl) ?_
 simp only[PP,P1,P2,P3,P4,P5,P6,P7,P8,P9,P10,P11,P12,P13,P14,L1,P15,N1,N2,N3,N4,N5,N6,N7,I1,I2,I3,I4,I5,I6,I7,reduceIte,reduceCtorEq]
 refine QIf.intro (fun c=>?_) (fun c=>?_)
 ·have hi':i<n:=by omega
  obtain⟨x,gx⟩:=q13 (xs:=l) (k:=i) (by omega)
  obtain⟨y,gy⟩:=q13 (xs:=l) (k:=i-1) (by omega)
  have i0:(0:Int)≤i:=by omega
  have i1:(i:Int)<l.length:=by omega
  have wi:IntKind.i64.wrap ((i:Int)-1)=((i-1:Nat):Int):=by rw[q57 (by omega) (by omega)];omega
  have j0:(0:Int)≤((i-1:Nat):Int):=by omega
  have j1:((i-1:Nat):Int)<l.length:=by omega
  have hwi:=q10 (k:=i) (by show _<1000000000000;omega)
  simp only[PP,P1,P2,P3,P4,P5,P6,P7,P8,P9,P10,P11,P12,P13,P14,L1,P15,N1,N2,N3,N4,N5,N6,N7,I1,I2,I3,I4,I5,I6,I7,reduceIte,reduceCtorEq,c,gx,gy,i0,i1,wi,j0,j1]
  refine less13_p T ?_
  simp only[PP,P1,P2,P3,P4,P5,P6,P7,P8,P9,P10,P11,P12,P13,P14,L1,P15,N1,N2,N3,N4,N5,N6,N7,I1,I2,I3,I4,I5,I6,I7,reduceIte,reduceCtorEq]
  by_cases d:x<y
  ·have nin:¬(i:Int)=n:=by omega
   have l50:(n:Int)<50:=by omega
   simp only[PP,P1,P2,P3,P4,P5,P6,P7,P8,P9,P10,P11,P12,P13,P14,L1,P15,N1,N2,N3,N4,N5,N6,N7,I1,I2,I3,I4,I5,I6,I7,reduceIte,reduceCtorEq,d,nin,w0,l50]
   exact hk false (fun h=>by cases h)
  ·simp only[PP,P1,P2,P3,P4,P5,P6,P7,P8,P9,P10,P11,P12,P13,P14,L1,P15,N1,N2,N3,N4,N5,N6,N7,I1,I2,I3,I4,I5,I6,I7,reduceIte,reduceCtorEq,d,hwi]
   refine q8 (ih (i+1) ⟨by omega,by omega,?_⟩ (by omega)) (by simp only[PW])
   rw[take_some gx,List.pairwise_append]
   refine⟨hs,by simp,fun a ha b hb=>?_⟩
   rw[List.mem_singleton]at hb
   subst hb
   obtain⟨m,hm⟩:=List.getElem?_of_mem ha
   have hm2:=q12 hm
   rw[List.length_take]at hm2
   by_cases e:m=i-1
   ·subst e
    rw[List.getElem?_take,if_pos (by omega),gy]at hm
    cases hm;omega
   ·have gy2:(l.take i)[i-1]? =some y:=by rw[List.getElem?_take,if_pos (by omega),gy]
    have h1:=List.pairwise_iff_getElem.1 hs m (i-1) (q12 hm) (q12 gy2) (by omega)
    have h2:=(List.getElem?_eq_some_iff.1 hm).2
    have h3:=(List.getElem?_eq_some_iff.1 gy2).2
    rw[h2,h3]at h1
    omega
 ·have e:i=n:=by omega
  subst e
  rw[List.take_of_length_le (by omega)]at hs
  simp only[PP,P1,P2,P3,P4,P5,P6,P7,P8,P9,P10,P11,P12,P13,P14,L1,P15,N1,N2,N3,N4,N5,N6,N7,I1,I2,I3,I4,I5,I6,I7,reduceIte,reduceCtorEq,c]
  exact hk true fun _=>hs
end
structure PtI (l0 l:List Int) (n:Nat) (x:Int) (i j:Nat):Prop where
 pm:l.Perm l0
 ln:l.length=n
 hx:l[0]? =some x
 lo:∀k y,1≤k→k<i→l[k]? =some y→y<x
 hi:∀k y,j<k→l[k]? =some y→x≤y
 i1:1≤i
 jn:j<n
 ij:i≤j+1
theorem PtI.swap {l0 l:List Int} {n:Nat} {x:Int} {i j:Nat} (h:PtI l0 l n x i j) {y z:Int} (h1:l[i]? =some y) (h2:l[j]? =some z) (hy:x≤y) (hz:z<x) (hij:i≤j):PtI l0 ((l.set i z).set j y) n x (i+1) (j-1)∧i+1≤j:=by
 have hne:i≠j:=by rintro rfl;rw[h1]at h2;cases h2;omega
 have g:=swap_get h1 h2
 have i1:=h.i1
 have jn:=h.jn
 refine⟨⟨(swap_perm h1 h2).trans h.pm,by simp[h.ln],?_,fun k w hk1 hk hw=>?_,fun k w hk hw=>?_,by omega,by omega,by omega⟩,by omega⟩
 ·rw[g,if_neg (by omega),if_neg (by omega)];exact h.hx
 ·rw[g]at hw
  rw[if_neg (by omega)]at hw
  split at hw
  ·cases hw;exact hz
  ·exact h.lo k w hk1 (by omega) hw
 ·rw[g]at hw
  split at hw
  ·cases hw;exact hy
  ·rw[if_neg (by omega)]at hw
   exact h.hi k w (by omega) hw
theorem PtI.fin {l0 l:List Int} {n:Nat} {x:Int} {i j:Nat} (h:PtI l0 l n x i j) (hij:j<i) {y:Int} (h2:l[j]? =some y):∃u w,(l.set j x).set 0 y=u++x::w∧u.length=j∧(u++x::w).Perm l0∧(∀z∈u,z≤x)∧∀z∈w,x≤z:=by
 have e:i=j+1:=by have:=h.ij;omega
 have g:=swap_get h2 h.hx
 have gp:=swap_perm h2 h.hx
 obtain⟨L,hL⟩:∃L,L=(l.set j x).set 0 y:=⟨_,rfl⟩
 rw[←hL]at g gp
 have hLl:L.length=n:=by rw[hL];simp[h.ln]
 have jn:=h.jn
 have gj:L[j]? =some x:=by
  rw[g];split
  ·rename_i e0;subst e0;rw[h.hx]at h2;exact h2.symm
  ·rw[if_pos rfl]
 obtain⟨hjl,hjx⟩:=List.getElem?_eq_some_iff.1 gj
 have hsp:L=L.take j++x::L.drop (j+1):=by
  conv=>lhs;rw[←List.take_append_drop j L,List.drop_eq_getElem_cons hjl,hjx]
 refine⟨L.take j,L.drop (j+1),by rw[←hL];exact hsp,by simp;omega,by rw[←hsp];exact gp.trans h.pm,fun z hz=>?_,fun z hz=>?_⟩
 ·obtain⟨k,hk⟩:=List.getElem?_of_mem hz
  have hkj:=q12 hk
  rw[List.length_take]at hkj
  rw[List.getElem?_take,if_pos (by omega),g]at hk
  split at hk
  ·cases hk
   have:=h.lo j _ (by omega) (by omega) h2;omega
  ·rw[if_neg (by omega)]at hk
   have:=h.lo k z (by omega) (by omega) hk;omega
 ·obtain⟨k,hk⟩:=List.getElem?_of_mem hz
  rw[List.getElem?_drop,g]at hk
  rw[if_neg (by omega),if_neg (by omega)]at hk
  exact h.hi _ z (by omega) hk
section
variable {tab:FuncId→Option AF} (T:HasA tab)
include T
set_option maxHeartbeats 2000000 in
theorem partition_p {K:PV→Mem→Prop} {g v n pv:Nat} {l:List Int} {epv:Int} (hn:l.length=n) (hb:n<1000000000000) (h1:1<n) (hpv:pv<n) (he:epv=pv)
  (hk:∀(v':Nat) (u w:List Int) (x:Int) (b:Bool),(u++x::w).Perm l→(∀z∈u,z≤x)→(∀z∈w,x≤z)→K (.tuple [p64 u.length,.bool b]) [.cells g v' ((u++x::w).map p64)]):
  SemC tab 105 [.ref 0 g 1 0 n,p64 0,p64 n,p64 epv] [.cells g v (l.map p64)] K:=by
 subst he
 refine q33 T.h105 ?_
 obtain⟨x,gx⟩:=q13 (xs:=l) (k:=pv) (by omega)
 obtain⟨y,gy⟩:=q13 (xs:=l) (k:=0) (by omega)
 have n0:(0:Int)<n:=by omega
 have p0:(0:Int)≤pv:=by omega
 have p1:(pv:Int)<n:=by omega
 have w1:IntKind.i64.wrap 1=((1:Nat):Int):=rfl
 have wn:IntKind.i64.wrap ((n:Int)-1)=((n-1:Nat):Int):=by rw[q57 (by omega) (by omega)];omega
 have hset:((l.map p64).set 0 (p64 x)).set pv (p64 y)=((l.set 0 x).set pv y).map p64:=by rw[List.map_set,List.map_set]
 have hl0:0<l.length:=by omega
 have hpl:pv<l.length:=by omega
 simp only[af105,PP,P1,P2,P3,P4,P5,P6,P7,P8,P9,P10,P11,P12,P13,P14,L1,P15,N1,N2,N3,N4,N5,N6,N7,I1,I2,I3,I4,I5,I6,I7,reduceIte,reduceCtorEq,gx,gy,n0,p0,p1,w1,wn,hn,hset,hl0,hpl]
 have I0:PtI l ((l.set 0 x).set pv y) n x 1 (n-1):=by
  have g:=swap_get gy gx
  refine⟨swap_perm gy gx,by simp[hn],?_,fun k z a b=>by omega,fun k z a b=>?_,by omega,by omega,by omega⟩
  ·rw[g];split
   ·rename_i e;subst e;rw[gy]at gx;exact gx
   ·rw[if_pos rfl]
  ·have:=q12 b;simp at this;omega
 --the two inner loops,for any list
 have get:∀{l':List Int} {x:Int} {i j:Nat} (k:Nat),PtI l l' n x i j→k<n→∃z,l'[k]? =some z∧(0:Int)≤k∧(k:Int)<n∧k<l'.length:=fun k I hkn=>by
  obtain⟨z,hz⟩:=q13 (xs:=_) (k:=k) (show k<_ by rw[I.ln];exact hkn)
  exact⟨z,hz,by omega,by omega,by rw[I.ln];exact hkn⟩
 refine⟨by omega,by omega,?_⟩
 obtain⟨l1,hl1⟩:∃l1,l1=(l.set 0 x).set pv y:=⟨_,rfl⟩
 rw[←hl1]at I0 ⊢
 have upd:∀{l':List Int} {i j:Nat} {z:Int},PtI l l' n x i j→l'[i]? =some z→z<x→i≤j→PtI l l' n x (i+1) j:=fun {l'} {i} {j} {z} I hz hlt hij=>⟨I.pm,I.ln,I.hx,fun k y a b hy=>by
  by_cases e:k=i
  ·subst e;rw[hz]at hy;cases hy;exact hlt
  ·exact I.lo k y a (by omega) hy,I.hi,by omega,I.jn,by omega⟩
 have dnd:∀{l':List Int} {i j:Nat} {z:Int},PtI l l' n x i j→l'[j]? =some z→x≤z→i≤j→PtI l l' n x i (j-1):=fun {l'} {i} {j} {z} I hz hlt hij=>⟨I.pm,I.ln,I.hx,I.lo,fun k y a hy=>by
  by_cases e:k=j
  ·subst e;rw[hz]at hy;cases hy;exact hlt
  ·exact I.hi k y (by have:=I.i1;omega) hy,I.i1,by have:=I.jn;omega,by have:=I.i1;omega⟩
 refine loop1 (fun(i:Nat)=>PtI l l1 n x i (n-1)∧1≤i) (fun i=>[.ref 0 g 1 0 n,p64 0,Zj,Zj,Zj,Zj,Zj,Zj,Zj,Zj,p64 i,p64 (((n-1):Nat):Int),Zj,Zj,Zj,Zj,Zj,Zj,Zj,Zj,Zj,Zj,Zj,Zj,Zj,Zj,Zj,Zj,Zj,Zj,Zj,Zj,Zj,Zj,Zj,Zj,Zj,Zj,Zj,Zj,Zj,Zj,Zj,Zj,Zj,Zj,Zj,Zj,Zj,Zj,Zj,Zj,Zj,Zj,Zj,Zj,Zj,Zj,Zj,Zj,Zj,Zj,Zj,Zj,Zj,Zj,Zj,Zj,Zj,Zj,Zj,Zj,Zj,Zj,Zj,Zj,Zj,Zj,Zj,Zj,Zj,Zj,Zj,Zj,Zj,Zj,Zj,Zj,Zj,Zj,Zj,Zj,Zj,Zj,Zj,Zj,Zj,Zj,Zj,Zj,Zj,Zj,Zj,Zj,Zj,Zj,Zj,Zj,Zj,Zj,Zj,Zj,Zj,Zj,Zj,Zj,Zj,Zj,Zj,Zj,Zj,Zj,Zj,Zj,Zj,Zj,Zj,Zj,Zj,Zj,Zj,Zj,Zj,Zj,Zj,Zj,Zj,Zj,Zj,Zj,Zj,Zj,Zj,Zj,Zj,Zj,Zj,Zj,Zj,Zj,Zj,Zj,Zj,Zj,Zj,Zj,Zj,Zj,Zj,Zj,Zj,Zj,Zj,Zj,Zj,Zj,Zj,Zj]) (fun _=>[.cells g (v+1+1) (l1.map p64)]) (fun i=>n-i) 1 ⟨I0,Nat.le_refl _⟩ (by simp only[PW]) rfl ?_
 intro i1 ⟨IA1,gA1⟩ ihA
 have jnA:=IA1.jn
 have l0A:=IA1.hx
 have lnA:=IA1.ln
 refine q15 (by kernel_rfl) ?_
 simp only[PP,P1,P2,P3,P4,P5,P6,P7,P8,P9,P10,P11,P12,P13,P14,L1,P15,N1,N2,N3,N4,N5,N6,N7,I1,I2,I3,I4,I5,I6,I7,reduceIte,reduceCtorEq]
 by_cases hc1:i1≤(n-1)∧∃z,l1[i1]? =some z∧z<x
 ·obtain⟨c,z,gz,d⟩:=hc1
  obtain⟨_,_,z0,z1,z2⟩:=get i1 IA1 (by omega)
  have hwi:=q10 (k:=i1) (by show _<1000000000000;omega)
  have c':(i1:Int)≤((n-1):Nat):=by omega
  simp only[PP,P1,P2,P3,P4,P5,P6,P7,P8,P9,P10,P11,P12,P13,P14,L1,P15,N1,N2,N3,N4,N5,N6,N7,I1,I2,I3,I4,I5,I6,I7,reduceIte,reduceCtorEq,c',gz,z0,z1,z2,l0A,n0]
  refine less13_p T ?_
  simp only[PP,P1,P2,P3,P4,P5,P6,P7,P8,P9,P10,P11,P12,P13,P14,L1,P15,N1,N2,N3,N4,N5,N6,N7,I1,I2,I3,I4,I5,I6,I7,reduceIte,reduceCtorEq,d,hwi]
  exact q8 (ihA (i1+1) ⟨upd IA1 gz d c,by omega⟩ (by omega)) (by simp only[PW])
 apply QIf_both
 ·intro c
  obtain⟨z,gz,z0,z1,z2⟩:=get i1 IA1 (by omega)
  have d:¬z<x:=fun q=>hc1 ⟨by omega,z,gz,q⟩
  intro gg
  simp only[PP,P1,P2,P3,P4,P5,P6,P7,P8,P9,P10,P11,P12,P13,P14,L1,P15,N1,N2,N3,N4,N5,N6,N7,I1,I2,I3,I4,I5,I6,I7,reduceIte,reduceCtorEq,c,gz,z0,z1,z2,l0A,n0]
  refine less13_p T ?_
  simp only[PP,P1,P2,P3,P4,P5,P6,P7,P8,P9,P10,P11,P12,P13,P14,L1,P15,N1,N2,N3,N4,N5,N6,N7,I1,I2,I3,I4,I5,I6,I7,reduceIte,reduceCtorEq,d]
  exact q20 (b:=[.ref 0 g 1 0 n,p64 0,Zj,Zj,Zj,Zj,Zj,Zj,Zj,Zj,p64 i1,p64 (((n-1):Nat):Int),Zj,Zj,Zj,Zj,Zj,Zj,Zj,Zj,Zj,Zj,Zj,Zj,Zj,Zj,Zj,Zj,Zj,Zj,Zj,Zj,Zj,Zj,Zj,Zj,Zj,Zj,Zj,Zj,Zj,Zj,Zj,Zj,Zj,Zj,Zj,Zj,Zj,Zj,Zj,Zj,Zj,Zj,Zj,Zj,Zj,Zj,Zj,Zj,Zj,Zj,Zj,Zj,Zj,Zj,Zj,Zj,Zj,Zj,Zj,Zj,Zj,Zj,Zj,Zj,Zj,Zj,Zj,Zj,Zj,Zj,Zj,Zj,Zj,Zj,Zj,Zj,Zj,Zj,Zj,Zj,Zj,Zj,Zj,Zj,Zj,Zj,Zj,Zj,Zj,Zj,Zj,Zj,Zj,Zj,Zj,Zj,Zj,Zj,Zj,Zj,Zj,Zj,Zj,Zj,Zj,Zj,Zj,Zj,Zj,Zj,Zj,Zj,Zj,Zj,Zj,Zj,Zj,Zj,Zj,Zj,Zj,Zj,Zj,Zj,Zj,Zj,Zj,Zj,Zj,Zj,Zj,Zj,Zj,Zj,Zj,Zj,Zj,Zj,Zj,Zj,Zj,Zj,Zj,Zj,Zj,Zj,Zj,Zj,Zj,Zj,Zj,Zj,Zj,Zj,Zj,Zj]) (N:=[.cells g (v+1+1) (l1.map p64)]) gg (by simp only[PW]) rfl
 ·intro c gg
  simp only[PP,P1,P2,P3,P4,P5,P6,P7,P8,P9,P10,P11,P12,P13,P14,L1,P15,N1,N2,N3,N4,N5,N6,N7,I1,I2,I3,I4,I5,I6,I7,reduceIte,reduceCtorEq,c]
  exact q20 (b:=[.ref 0 g 1 0 n,p64 0,Zj,Zj,Zj,Zj,Zj,Zj,Zj,Zj,p64 i1,p64 (((n-1):Nat):Int),Zj,Zj,Zj,Zj,Zj,Zj,Zj,Zj,Zj,Zj,Zj,Zj,Zj,Zj,Zj,Zj,Zj,Zj,Zj,Zj,Zj,Zj,Zj,Zj,Zj,Zj,Zj,Zj,Zj,Zj,Zj,Zj,Zj,Zj,Zj,Zj,Zj,Zj,Zj,Zj,Zj,Zj,Zj,Zj,Zj,Zj,Zj,Zj,Zj,Zj,Zj,Zj,Zj,Zj,Zj,Zj,Zj,Zj,Zj,Zj,Zj,Zj,Zj,Zj,Zj,Zj,Zj,Zj,Zj,Zj,Zj,Zj,Zj,Zj,Zj,Zj,Zj,Zj,Zj,Zj,Zj,Zj,Zj,Zj,Zj,Zj,Zj,Zj,Zj,Zj,Zj,Zj,Zj,Zj,Zj,Zj,Zj,Zj,Zj,Zj,Zj,Zj,Zj,Zj,Zj,Zj,Zj,Zj,Zj,Zj,Zj,Zj,Zj,Zj,Zj,Zj,Zj,Zj,Zj,Zj,Zj,Zj,Zj,Zj,Zj,Zj,Zj,Zj,Zj,Zj,Zj,Zj,Zj,Zj,Zj,Zj,Zj,Zj,Zj,Zj,Zj,Zj,Zj,Zj,Zj,Zj,Zj,Zj,Zj,Zj,Zj,Zj,Zj,Zj,Zj,Zj]) (N:=[.cells g (v+1+1) (l1.map p64)]) gg (by simp only[PW]) rfl
 refine loop1 (fun(j:Nat)=>PtI l l1 n x i1 j∧(i1≤j→i1≤(n-1))∧j≤(n-1)) (fun j=>[.ref 0 g 1 0 n,p64 0,Zj,Zj,Zj,Zj,Zj,Zj,Zj,Zj,p64 i1,p64 j,Zj,Zj,Zj,Zj,Zj,Zj,Zj,Zj,Zj,Zj,Zj,Zj,Zj,Zj,Zj,Zj,Zj,Zj,Zj,Zj,Zj,Zj,Zj,Zj,Zj,Zj,Zj,Zj,Zj,Zj,Zj,Zj,Zj,Zj,Zj,Zj,Zj,Zj,Zj,Zj,Zj,Zj,Zj,Zj,Zj,Zj,Zj,Zj,Zj,Zj,Zj,Zj,Zj,Zj,Zj,Zj,Zj,Zj,Zj,Zj,Zj,Zj,Zj,Zj,Zj,Zj,Zj,Zj,Zj,Zj,Zj,Zj,Zj,Zj,Zj,Zj,Zj,Zj,Zj,Zj,Zj,Zj,Zj,Zj,Zj,Zj,Zj,Zj,Zj,Zj,Zj,Zj,Zj,Zj,Zj,Zj,Zj,Zj,Zj,Zj,Zj,Zj,Zj,Zj,Zj,Zj,Zj,Zj,Zj,Zj,Zj,Zj,Zj,Zj,Zj,Zj,Zj,Zj,Zj,Zj,Zj,Zj,Zj,Zj,Zj,Zj,Zj,Zj,Zj,Zj,Zj,Zj,Zj,Zj,Zj,Zj,Zj,Zj,Zj,Zj,Zj,Zj,Zj,Zj,Zj,Zj,Zj,Zj,Zj,Zj,Zj,Zj,Zj,Zj,Zj,Zj]) (fun _=>[.cells g (v+1+1) (l1.map p64)]) (fun j=>j) ((n-1)) ⟨IA1,fun h=>h,Nat.le_refl _⟩ (by simp only[PW]) rfl ?_
 intro j1 ⟨IB1,hij1,gB1⟩ ihB
 have jnB:=IB1.jn
 have i1B:=IB1.i1
 refine q15 (by kernel_rfl) ?_
 simp only[PP,P1,P2,P3,P4,P5,P6,P7,P8,P9,P10,P11,P12,P13,P14,L1,P15,N1,N2,N3,N4,N5,N6,N7,I1,I2,I3,I4,I5,I6,I7,reduceIte,reduceCtorEq]
 by_cases hd1:i1≤j1∧∃z,l1[j1]? =some z∧¬z<x
 ·obtain⟨c,z,gz,d⟩:=hd1
  obtain⟨_,_,z0,z1,z2⟩:=get j1 IB1 (by omega)
  have hwj:IntKind.i64.wrap ((j1:Int)-1)=((j1-1:Nat):Int):=by rw[q57 (by omega) (by omega)];omega
  have c':(i1:Int)≤(j1:Nat):=by omega
  simp only[PP,P1,P2,P3,P4,P5,P6,P7,P8,P9,P10,P11,P12,P13,P14,L1,P15,N1,N2,N3,N4,N5,N6,N7,I1,I2,I3,I4,I5,I6,I7,reduceIte,reduceCtorEq,c',gz,z0,z1,z2,l0A,n0]
  refine less13_p T ?_
  simp only[PP,P1,P2,P3,P4,P5,P6,P7,P8,P9,P10,P11,P12,P13,P14,L1,P15,N1,N2,N3,N4,N5,N6,N7,I1,I2,I3,I4,I5,I6,I7,reduceIte,reduceCtorEq,d,hwj]
  exact q8 (ihB (j1-1) ⟨dnd IB1 gz (by omega) c,fun h=>hij1 (by omega),by omega⟩ (by omega)) (by simp only[PW])
 refine QIf.intro (fun c=>?_) (fun c=>?_)
 ·obtain⟨z,gz,z0,z1,z2⟩:=get j1 IB1 (by omega)
  have d:z<x:=Int.not_le.1 fun q=>hd1 ⟨by omega,z,gz,by omega⟩
  obtain⟨y,gy,y0,y1,y2⟩:=get i1 IB1 (by omega)
  have dy:x≤y:=Int.not_lt.1 fun q=>hc1 ⟨hij1 (by omega),y,gy,q⟩
  have cn:¬(j1:Int)<i1:=by omega
  obtain⟨SW,hle⟩:=IB1.swap gy gz dy d (by omega)
  simp only[PP,P1,P2,P3,P4,P5,P6,P7,P8,P9,P10,P11,P12,P13,P14,L1,P15,N1,N2,N3,N4,N5,N6,N7,I1,I2,I3,I4,I5,I6,I7,reduceIte,reduceCtorEq,c,gz,z0,z1,z2,l0A,n0]
  refine less13_p T ?_
  have hwi:=q10 (k:=i1) (by show _<1000000000000;omega)
  have hwj:IntKind.i64.wrap ((j1:Int)-1)=((j1-1:Nat):Int):=by rw[q57 (by omega) (by omega)];omega
  have hst:((l1.map p64).set i1 (p64 z)).set j1 (p64 y)=((l1.set i1 z).set j1 y).map p64:=by rw[List.map_set,List.map_set]
  simp only[PP,P1,P2,P3,P4,P5,P6,P7,P8,P9,P10,P11,P12,P13,P14,L1,P15,N1,N2,N3,N4,N5,N6,N7,I1,I2,I3,I4,I5,I6,I7,reduceIte,reduceCtorEq,d,cn,gy,gz,z0,z1,z2,y0,y1,y2,hwi,hwj,lnA]
  refine⟨by omega,by omega,?_⟩
  rw[hst]
  refine loop4 (fun(L2:List Int) (V2 i2 j2:Nat)=>PtI l L2 n x i2 j2) (fun L2 V2 i2 j2=>[.ref 0 g 1 0 n,p64 0,Zj,Zj,Zj,Zj,Zj,Zj,Zj,Zj,p64 i2,p64 j2,Zj,Zj,Zj,Zj,Zj,Zj,Zj,Zj,Zj,Zj,Zj,Zj,Zj,Zj,Zj,Zj,Zj,Zj,Zj,Zj,Zj,Zj,Zj,Zj,Zj,Zj,Zj,Zj,Zj,Zj,Zj,Zj,Zj,Zj,Zj,Zj,Zj,Zj,Zj,Zj,Zj,Zj,Zj,Zj,Zj,Zj,Zj,Zj,Zj,Zj,Zj,Zj,Zj,Zj,Zj,Zj,Zj,Zj,Zj,Zj,Zj,Zj,Zj,Zj,Zj,Zj,Zj,Zj,Zj,Zj,Zj,Zj,Zj,Zj,Zj,Zj,Zj,Zj,Zj,Zj,Zj,Zj,Zj,Zj,Zj,Zj,Zj,Zj,Zj,Zj,Zj,Zj,Zj,Zj,Zj,Zj,Zj,Zj,Zj,Zj,Zj,Zj,Zj,Zj,Zj,Zj,Zj,Zj,Zj,Zj,Zj,Zj,Zj,Zj,Zj,Zj,Zj,Zj,Zj,Zj,Zj,Zj,Zj,Zj,Zj,Zj,Zj,Zj,Zj,Zj,Zj,Zj,Zj,Zj,Zj,Zj,Zj,Zj,Zj,Zj,Zj,Zj,Zj,Zj,Zj,Zj,Zj,Zj,Zj,Zj,Zj,Zj,Zj,Zj,Zj,Zj]) (fun L2 V2 _ _=>[.cells g V2 (L2.map p64)]) (fun _ _ i2 j2=>n+j2-i2) _ _ _ _ SW (by simp only[PW]) rfl ?_
  intro L2 V2 i2 j2 IC ihC
  have jnC:=IC.jn
  have i1C:=IC.i1
  have ijC:=IC.ij
  refine q15 (by kernel_rfl) ?_
  simp only[PP,P1,P2,P3,P4,P5,P6,P7,P8,P9,P10,P11,P12,P13,P14,L1,P15,N1,N2,N3,N4,N5,N6,N7,I1,I2,I3,I4,I5,I6,I7,reduceIte,reduceCtorEq]
  refine loop1 (fun(i:Nat)=>PtI l L2 n x i j2∧i2≤i) (fun i=>[.ref 0 g 1 0 n,p64 0,Zj,Zj,Zj,Zj,Zj,Zj,Zj,Zj,p64 i,p64 ((j2:Nat):Int),Zj,Zj,Zj,Zj,Zj,Zj,Zj,Zj,Zj,Zj,Zj,Zj,Zj,Zj,Zj,Zj,Zj,Zj,Zj,Zj,Zj,Zj,Zj,Zj,Zj,Zj,Zj,Zj,Zj,Zj,Zj,Zj,Zj,Zj,Zj,Zj,Zj,Zj,Zj,Zj,Zj,Zj,Zj,Zj,Zj,Zj,Zj,Zj,Zj,Zj,Zj,Zj,Zj,Zj,Zj,Zj,Zj,Zj,Zj,Zj,Zj,Zj,Zj,Zj,Zj,Zj,Zj,Zj,Zj,Zj,Zj,Zj,Zj,Zj,Zj,Zj,Zj,Zj,Zj,Zj,Zj,Zj,Zj,Zj,Zj,Zj,Zj,Zj,Zj,Zj,Zj,Zj,Zj,Zj,Zj,Zj,Zj,Zj,Zj,Zj,Zj,Zj,Zj,Zj,Zj,Zj,Zj,Zj,Zj,Zj,Zj,Zj,Zj,Zj,Zj,Zj,Zj,Zj,Zj,Zj,Zj,Zj,Zj,Zj,Zj,Zj,Zj,Zj,Zj,Zj,Zj,Zj,Zj,Zj,Zj,Zj,Zj,Zj,Zj,Zj,Zj,Zj,Zj,Zj,Zj,Zj,Zj,Zj,Zj,Zj,Zj,Zj,Zj,Zj,Zj,Zj]) (fun _=>[.cells g (V2) (L2.map p64)]) (fun i=>n-i) i2 ⟨IC,Nat.le_refl _⟩ (by simp only[PW]) rfl ?_
  intro i3 ⟨IA3,gA3⟩ ihA
  have jnA:=IA3.jn
  have l0A:=IA3.hx
  have lnA:=IA3.ln
  refine q15 (by kernel_rfl) ?_
  simp only[PP,P1,P2,P3,P4,P5,P6,P7,P8,P9,P10,P11,P12,P13,P14,L1,P15,N1,N2,N3,N4,N5,N6,N7,I1,I2,I3,I4,I5,I6,I7,reduceIte,reduceCtorEq]
  by_cases hc3:i3≤j2∧∃z,L2[i3]? =some z∧z<x
  ·obtain⟨c,z,gz,d⟩:=hc3
   obtain⟨_,_,z0,z1,z2⟩:=get i3 IA3 (by omega)
   have hwi:=q10 (k:=i3) (by show _<1000000000000;omega)
   have c':(i3:Int)≤(j2:Nat):=by omega
   simp only[PP,P1,P2,P3,P4,P5,P6,P7,P8,P9,P10,P11,P12,P13,P14,L1,P15,N1,N2,N3,N4,N5,N6,N7,I1,I2,I3,I4,I5,I6,I7,reduceIte,reduceCtorEq,c',gz,z0,z1,z2,l0A,n0]
   refine less13_p T ?_
   simp only[PP,P1,P2,P3,P4,P5,P6,P7,P8,P9,P10,P11,P12,P13,P14,L1,P15,N1,N2,N3,N4,N5,N6,N7,I1,I2,I3,I4,I5,I6,I7,reduceIte,reduceCtorEq,d,hwi]
   exact q8 (ihA (i3+1) ⟨upd IA3 gz d c,by omega⟩ (by omega)) (by simp only[PW])
  apply QIf_both
  ·intro c
   obtain⟨z,gz,z0,z1,z2⟩:=get i3 IA3 (by omega)
   have d:¬z<x:=fun q=>hc3 ⟨by omega,z,gz,q⟩
   intro gg
   simp only[PP,P1,P2,P3,P4,P5,P6,P7,P8,P9,P10,P11,P12,P13,P14,L1,P15,N1,N2,N3,N4,N5,N6,N7,I1,I2,I3,I4,I5,I6,I7,reduceIte,reduceCtorEq,c,gz,z0,z1,z2,l0A,n0]
   refine less13_p T ?_
   simp only[PP,P1,P2,P3,P4,P5,P6,P7,P8,P9,P10,P11,P12,P13,P14,L1,P15,N1,N2,N3,N4,N5,N6,N7,I1,I2,I3,I4,I5,I6,I7,reduceIte,reduceCtorEq,d]
   exact q20 (b:=[.ref 0 g 1 0 n,p64 0,Zj,Zj,Zj,Zj,Zj,Zj,Zj,Zj,p64 i3,p64 ((j2:Nat):Int),Zj,Zj,Zj,Zj,Zj,Zj,Zj,Zj,Zj,Zj,Zj,Zj,Zj,Zj,Zj,Zj,Zj,Zj,Zj,Zj,Zj,Zj,Zj,Zj,Zj,Zj,Zj,Zj,Zj,Zj,Zj,Zj,Zj,Zj,Zj,Zj,Zj,Zj,Zj,Zj,Zj,Zj,Zj,Zj,Zj,Zj,Zj,Zj,Zj,Zj,Zj,Zj,Zj,Zj,Zj,Zj,Zj,Zj,Zj,Zj,Zj,Zj,Zj,Zj,Zj,Zj,Zj,Zj,Zj,Zj,Zj,Zj,Zj,Zj,Zj,Zj,Zj,Zj,Zj,Zj,Zj,Zj,Zj,Zj,Zj,Zj,Zj,Zj,Zj,Zj,Zj,Zj,Zj,Zj,Zj,Zj,Zj,Zj,Zj,Zj,Zj,Zj,Zj,Zj,Zj,Zj,Zj,Zj,Zj,Zj,Zj,Zj,Zj,Zj,Zj,Zj,Zj,Zj,Zj,Zj,Zj,Zj,Zj,Zj,Zj,Zj,Zj,Zj,Zj,Zj,Zj,Zj,Zj,Zj,Zj,Zj,Zj,Zj,Zj,Zj,Zj,Zj,Zj,Zj,Zj,Zj,Zj,Zj,Zj,Zj,Zj,Zj,Zj,Zj,Zj,Zj]) (N:=[.cells g (V2) (L2.map p64)]) gg (by simp only[PW]) rfl
  ·intro c gg
   simp only[PP,P1,P2,P3,P4,P5,P6,P7,P8,P9,P10,P11,P12,P13,P14,L1,P15,N1,N2,N3,N4,N5,N6,N7,I1,I2,I3,I4,I5,I6,I7,reduceIte,reduceCtorEq,c]
   exact q20 (b:=[.ref 0 g 1 0 n,p64 0,Zj,Zj,Zj,Zj,Zj,Zj,Zj,Zj,p64 i3,p64 ((j2:Nat):Int),Zj,Zj,Zj,Zj,Zj,Zj,Zj,Zj,Zj,Zj,Zj,Zj,Zj,Zj,Zj,Zj,Zj,Zj,Zj,Zj,Zj,Zj,Zj,Zj,Zj,Zj,Zj,Zj,Zj,Zj,Zj,Zj,Zj,Zj,Zj,Zj,Zj,Zj,Zj,Zj,Zj,Zj,Zj,Zj,Zj,Zj,Zj,Zj,Zj,Zj,Zj,Zj,Zj,Zj,Zj,Zj,Zj,Zj,Zj,Zj,Zj,Zj,Zj,Zj,Zj,Zj,Zj,Zj,Zj,Zj,Zj,Zj,Zj,Zj,Zj,Zj,Zj,Zj,Zj,Zj,Zj,Zj,Zj,Zj,Zj,Zj,Zj,Zj,Zj,Zj,Zj,Zj,Zj,Zj,Zj,Zj,Zj,Zj,Zj,Zj,Zj,Zj,Zj,Zj,Zj,Zj,Zj,Zj,Zj,Zj,Zj,Zj,Zj,Zj,Zj,Zj,Zj,Zj,Zj,Zj,Zj,Zj,Zj,Zj,Zj,Zj,Zj,Zj,Zj,Zj,Zj,Zj,Zj,Zj,Zj,Zj,Zj,Zj,Zj,Zj,Zj,Zj,Zj,Zj,Zj,Zj,Zj,Zj,Zj,Zj,Zj,Zj,Zj,Zj,Zj,Zj]) (N:=[.cells g (V2) (L2.map p64)]) gg (by simp only[PW]) rfl
  refine loop1 (fun(j:Nat)=>PtI l L2 n x i3 j∧(i3≤j→i3≤j2)∧j≤j2) (fun j=>[.ref 0 g 1 0 n,p64 0,Zj,Zj,Zj,Zj,Zj,Zj,Zj,Zj,p64 i3,p64 j,Zj,Zj,Zj,Zj,Zj,Zj,Zj,Zj,Zj,Zj,Zj,Zj,Zj,Zj,Zj,Zj,Zj,Zj,Zj,Zj,Zj,Zj,Zj,Zj,Zj,Zj,Zj,Zj,Zj,Zj,Zj,Zj,Zj,Zj,Zj,Zj,Zj,Zj,Zj,Zj,Zj,Zj,Zj,Zj,Zj,Zj,Zj,Zj,Zj,Zj,Zj,Zj,Zj,Zj,Zj,Zj,Zj,Zj,Zj,Zj,Zj,Zj,Zj,Zj,Zj,Zj,Zj,Zj,Zj,Zj,Zj,Zj,Zj,Zj,Zj,Zj,Zj,Zj,Zj,Zj,Zj,Zj,Zj,Zj,Zj,Zj,Zj,Zj,Zj,Zj,Zj,Zj,Zj,Zj,Zj,Zj,Zj,Zj,Zj,Zj,Zj,Zj,Zj,Zj,Zj,Zj,Zj,Zj,Zj,Zj,Zj,Zj,Zj,Zj,Zj,Zj,Zj,Zj,Zj,Zj,Zj,Zj,Zj,Zj,Zj,Zj,Zj,Zj,Zj,Zj,Zj,Zj,Zj,Zj,Zj,Zj,Zj,Zj,Zj,Zj,Zj,Zj,Zj,Zj,Zj,Zj,Zj,Zj,Zj,Zj,Zj,Zj,Zj,Zj,Zj,Zj]) (fun _=>[.cells g (V2) (L2.map p64)]) (fun j=>j) (j2) ⟨IA3,fun h=>h,Nat.le_refl _⟩ (by simp only[PW]) rfl ?_
  intro j3 ⟨IB3,hij3,gB3⟩ ihB
  have jnB:=IB3.jn
  have i1B:=IB3.i1
  refine q15 (by kernel_rfl) ?_
  simp only[PP,P1,P2,P3,P4,P5,P6,P7,P8,P9,P10,P11,P12,P13,P14,L1,P15,N1,N2,N3,N4,N5,N6,N7,I1,I2,I3,I4,I5,I6,I7,reduceIte,reduceCtorEq]
  by_cases hd3:i3≤j3∧∃z,L2[j3]? =some z∧¬z<x
  ·obtain⟨c,z,gz,d⟩:=hd3
   obtain⟨_,_,z0,z1,z2⟩:=get j3 IB3 (by omega)
   have hwj:IntKind.i64.wrap ((j3:Int)-1)=((j3-1:Nat):Int):=by rw[q57 (by omega) (by omega)];omega
   have c':(i3:Int)≤(j3:Nat):=by omega
   simp only[PP,P1,P2,P3,P4,P5,P6,P7,P8,P9,P10,P11,P12,P13,P14,L1,P15,N1,N2,N3,N4,N5,N6,N7,I1,I2,I3,I4,I5,I6,I7,reduceIte,reduceCtorEq,c',gz,z0,z1,z2,l0A,n0]
   refine less13_p T ?_
   simp only[PP,P1,P2,P3,P4,P5,P6,P7,P8,P9,P10,P11,P12,P13,P14,L1,P15,N1,N2,N3,N4,N5,N6,N7,I1,I2,I3,I4,I5,I6,I7,reduceIte,reduceCtorEq,d,hwj]
   exact q8 (ihB (j3-1) ⟨dnd IB3 gz (by omega) c,fun h=>hij3 (by omega),by omega⟩ (by omega)) (by simp only[PW])
  refine QIf.intro (fun c=>?_) (fun c=>?_)
  ·obtain⟨z,gz,z0,z1,z2⟩:=get j3 IB3 (by omega)
   have d:z<x:=Int.not_le.1 fun q=>hd3 ⟨by omega,z,gz,by omega⟩
   obtain⟨y,gy,y0,y1,y2⟩:=get i3 IB3 (by omega)
   have dy:x≤y:=Int.not_lt.1 fun q=>hc3 ⟨hij3 (by omega),y,gy,q⟩
   have cn:¬(j3:Int)<i3:=by omega
   obtain⟨SW,hle⟩:=IB3.swap gy gz dy d (by omega)
   simp only[PP,P1,P2,P3,P4,P5,P6,P7,P8,P9,P10,P11,P12,P13,P14,L1,P15,N1,N2,N3,N4,N5,N6,N7,I1,I2,I3,I4,I5,I6,I7,reduceIte,reduceCtorEq,c,gz,z0,z1,z2,l0A,n0]
   refine less13_p T ?_
   have hwi:=q10 (k:=i3) (by show _<1000000000000;omega)
   have hwj:IntKind.i64.wrap ((j3:Int)-1)=((j3-1:Nat):Int):=by rw[q57 (by omega) (by omega)];omega
   have hst:((L2.map p64).set i3 (p64 z)).set j3 (p64 y)=((L2.set i3 z).set j3 y).map p64:=by rw[List.map_set,List.map_set]
   simp only[PP,P1,P2,P3,P4,P5,P6,P7,P8,P9,P10,P11,P12,P13,P14,L1,P15,N1,N2,N3,N4,N5,N6,N7,I1,I2,I3,I4,I5,I6,I7,reduceIte,reduceCtorEq,d,cn,gy,gz,z0,z1,z2,y0,y1,y2,hwi,hwj,lnA]
   refine⟨by omega,by omega,?_⟩
   rw[hst]
   exact q20 (ihC _ _ _ _ SW (by have:=IB3.ij;have:=hij3 (by omega);omega)) (by simp only[PW]) rfl
  ·have hji:j3<i3:=by omega
   have c2:(j3:Int)<i3:=by omega
   obtain⟨z,gz,z0,z1,z2⟩:=get j3 IB3 (by omega)
   obtain⟨u,w,e1,e2,e3,e4,e5⟩:=IB3.fin hji gz
   have hst:((L2.map p64).set j3 (p64 x)).set 0 (p64 z)=(u++x::w).map p64:=by rw[←e1,List.map_set,List.map_set]
   simp only[PP,P1,P2,P3,P4,P5,P6,P7,P8,P9,P10,P11,P12,P13,P14,L1,P15,N1,N2,N3,N4,N5,N6,N7,I1,I2,I3,I4,I5,I6,I7,reduceIte,reduceCtorEq,c,c2,gz,z0,z1,z2,l0A,n0,lnA]
   refine⟨by omega,by omega,?_⟩
   rw[hst,←e2]
   exact hk _ u w x _ e3 e4 e5
 ·have hji:j1<i1:=by omega
  have c2:(j1:Int)<i1:=by omega
  obtain⟨z,gz,z0,z1,z2⟩:=get j1 IB1 (by omega)
  obtain⟨u,w,e1,e2,e3,e4,e5⟩:=IB1.fin hji gz
  have hst:((l1.map p64).set j1 (p64 x)).set 0 (p64 z)=(u++x::w).map p64:=by rw[←e1,List.map_set,List.map_set]
  simp only[PP,P1,P2,P3,P4,P5,P6,P7,P8,P9,P10,P11,P12,P13,P14,L1,P15,N1,N2,N3,N4,N5,N6,N7,I1,I2,I3,I4,I5,I6,I7,reduceIte,reduceCtorEq,c,c2,gz,z0,z1,z2,l0A,n0,lnA]
  refine⟨by omega,by omega,?_⟩
  rw[hst,←e2]
  exact hk _ u w x _ e3 e4 e5
end
theorem wrap8 {x:Nat} (h:x<256):IntKind.u8.wrap (x:Int)=x:=by
 simp only[IntKind.wrap,IntKind.signed,IntKind.bits]
 simp
 omega
section
variable {tab:FuncId→Option AF} (T:HasA tab)
include T
end
theorem wrapU13 {k:Nat} (h:k<4000000000000):IntKind.u64.wrap (k:Int)=(k:Int):=by
 simp only[IntKind.wrap,IntKind.signed,IntKind.bits]
 simp
 omega
theorem ZSome_byte {s:ByteArray} {x:Nat} (h:x<s.size) {k:UInt8→Prop} {t:KTag k} (hk:∀c,k c):ZSome s[x]? k t:=by
 rw[getElem?_pos s x h,ZSome_some];exact hk _
section
variable {tab:FuncId→Option AF} (T:HasA tab)
include T
theorem len64_p {M:Mem} {K:PV→Mem→Prop} {x:Nat} (hx:x<256) (hk:∀r:Int,K (p64 r) M):SemC tab 107 [.int .u64 x] M K:=by
 refine q11 T.h107 (by simp only[PP,P1,P2,P3,P4,P5,P6,P7,P8,P9,P10,P11,P12,P13,P14,L1,P15,N1,N2,N3,N4,N5,N6,N7,I1,I2,I3,I4,I5,I6,I7,reduceIte,reduceCtorEq]) ?_
 have c1:¬(4294967296:Int)≤x:=by omega
 have c2:¬(65536:Int)≤x:=by omega
 have c3:¬(256:Int)≤x:=by omega
 have w8:=wrap8 hx
 have x0:(0:Int)≤x:=by omega
 simp only[af107,PP,P1,P2,P3,P4,P5,P6,P7,P8,P9,P10,P11,P12,P13,P14,L1,P15,N1,N2,N3,N4,N5,N6,N7,I1,I2,I3,I4,I5,I6,I7,reduceIte,reduceCtorEq,c1,c2,c3,w8,PS_indexStr,ZStr_str,x0]
 refine ZSome_byte hx (fun c=>?_)
 simp only[PP,P1,P2,P3,P4,P5,P6,P7,P8,P9,P10,P11,P12,P13,P14,L1,P15,N1,N2,N3,N4,N5,N6,N7,I1,I2,I3,I4,I5,I6,I7,reduceIte,reduceCtorEq]
 exact hk _
theorem len_p {M:Mem} {K:PV→Mem→Prop} {x:Nat} (hx:x<256) (hk:∀r:Int,K (p64 r) M):SemC tab 85 [.int .u64 x] M K:=by
 refine q11 T.h85 (by simp only[PP,P1,P2,P3,P4,P5,P6,P7,P8,P9,P10,P11,P12,P13,P14,L1,P15,N1,N2,N3,N4,N5,N6,N7,I1,I2,I3,I4,I5,I6,I7,reduceIte,reduceCtorEq]) ?_
 simp only[af85,PP,P1,P2,P3,P4,P5,P6,P7,P8,P9,P10,P11,P12,P13,P14,L1,P15,N1,N2,N3,N4,N5,N6,N7,I1,I2,I3,I4,I5,I6,I7,reduceIte,reduceCtorEq]
 refine len64_p T hx (fun r=>?_)
 simp only[PP,P1,P2,P3,P4,P5,P6,P7,P8,P9,P10,P11,P12,P13,P14,L1,P15,N1,N2,N3,N4,N5,N6,N7,I1,I2,I3,I4,I5,I6,I7,reduceIte,reduceCtorEq]
 exact hk r
theorem pdq_p {K:PV→Mem→Prop} {g v n:Nat} {l:List Int} {lim:Int} (hn:l.length=n) (hb:n≤12) (hk:∀(v':Nat) (l':List Int),l'.Perm l→l'.Pairwise (·≤·)→K (.tuple []) [.cells g v' (l'.map p64)]):
  SemC tab 84 [.ref 0 g 1 0 n,p64 0,p64 n,p64 lim] [.cells g v (l.map p64)] K:=by
 refine q33 T.h84 ?_
 simp only[af84,PP,P1,P2,P3,P4,P5,P6,P7,P8,P9,P10,P11,P12,P13,P14,L1,P15,N1,N2,N3,N4,N5,N6,N7,I1,I2,I3,I4,I5,I6,I7,reduceIte,reduceCtorEq]
 refine loop1 (fun(k:Nat)=>True) (fun k=>[.ref 0 g 1 0 n,p64 0,p64 n,p64 lim,Zj,Zj,Zj,Zj,.bool true,.bool true,Zj,Zj,Zj,Zj,Zj,Zj,Zj,Zj,Zj,Zj,Zj,Zj,Zj,Zj,Zj,Zj,Zj,Zj,Zj,Zj,Zj,Zj,Zj,Zj,Zj,Zj,Zj,Zj,Zj,Zj,Zj,Zj,Zj,Zj,Zj,Zj,Zj,Zj,Zj,Zj,Zj,Zj,Zj,Zj,Zj,Zj,Zj,Zj,Zj,Zj,Zj,Zj,Zj,Zj,Zj,Zj,Zj,Zj,Zj,Zj,Zj,Zj,Zj,Zj,Zj,Zj,Zj,Zj,Zj,Zj,Zj,Zj,Zj,Zj,Zj,Zj,Zj,Zj,Zj,Zj,Zj,Zj,Zj,Zj,Zj,Zj,Zj,Zj,Zj,Zj,Zj,Zj,Zj,Zj,Zj,Zj,Zj,Zj,Zj,Zj,Zj,Zj,Zj,Zj,Zj,Zj,Zj,Zj,Zj,Zj,Zj,Zj,Zj,Zj,Zj,Zj,Zj,Zj,Zj,Zj,Zj,Zj,Zj,Zj]) (fun k=>[.cells g v (l.map p64)]) (fun k=>0) 0 trivial (by simp only[PW]) rfl ?_
 intro k _ ih
 have w0:IntKind.i64.wrap ((n:Int)-0)=n:=by rw[q57 (by omega) (by omega)];omega
 have c:(n:Int)≤12:=by omega
 refine q15 (by kernel_rfl) ?_
 simp only[PP,P1,P2,P3,P4,P5,P6,P7,P8,P9,P10,P11,P12,P13,P14,L1,P15,N1,N2,N3,N4,N5,N6,N7,I1,I2,I3,I4,I5,I6,I7,reduceIte,reduceCtorEq,w0,c]
 refine isort_p T hn (by omega) (fun v' l' h1 h2=>?_)
 simp only[PP,P1,P2,P3,P4,P5,P6,P7,P8,P9,P10,P11,P12,P13,P14,L1,P15,N1,N2,N3,N4,N5,N6,N7,I1,I2,I3,I4,I5,I6,I7,reduceIte,reduceCtorEq]
 exact hk v' l' h1 h2
theorem sort_p {K:PV→Mem→Prop} {g v n:Nat} {l:List Int} (hn:l.length=n) (hb:n≤12) (hk:∀(v':Nat) (l':List Int),l'.Perm l→l'.Pairwise (·≤·)→K (.tuple []) [.cells g v' (l'.map p64)]):
  SemC tab 57 [.ref 0 g 1 0 n] [.cells g v (l.map p64)] K:=by
 refine q33 T.h57 ?_
 have w:IntKind.u64.wrap n=n:=wrapU13 (by omega)
 simp only[af57,PP,P1,P2,P3,P4,P5,P6,P7,P8,P9,P10,P11,P12,P13,P14,L1,P15,N1,N2,N3,N4,N5,N6,N7,I1,I2,I3,I4,I5,I6,I7,reduceIte,reduceCtorEq,w]
 refine len_p T (by omega) (fun r=>?_)
 simp only[PP,P1,P2,P3,P4,P5,P6,P7,P8,P9,P10,P11,P12,P13,P14,L1,P15,N1,N2,N3,N4,N5,N6,N7,I1,I2,I3,I4,I5,I6,I7,reduceIte,reduceCtorEq]
 refine pdq_p T hn hb (fun v' l' h1 h2=>?_)
 simp only[PP,P1,P2,P3,P4,P5,P6,P7,P8,P9,P10,P11,P12,P13,P14,L1,P15,N1,N2,N3,N4,N5,N6,N7,I1,I2,I3,I4,I5,I6,I7,reduceIte,reduceCtorEq]
 exact hk v' l' h1 h2
end
section
variable {tab:FuncId→Option AF} (T:HasA tab)
include T
theorem len64a_p {M:Mem} {K:PV→Mem→Prop} (hk:K (p64 4) M):SemC tab 107 [.int .u64 13] M K:=by
 refine q11 T.h107 (by simp only[PP,P1,P2,P3,P4,P5,P6,P7,P8,P9,P10,P11,P12,P13,P14,L1,P15,N1,N2,N3,N4,N5,N6,N7,I1,I2,I3,I4,I5,I6,I7,reduceIte,reduceCtorEq]) ?_
 have w8:IntKind.u8.wrap 13=13:=by decide
 simp only[af107,PP,P1,P2,P3,P4,P5,P6,P7,P8,P9,P10,P11,P12,P13,P14,L1,P15,N1,N2,N3,N4,N5,N6,N7,I1,I2,I3,I4,I5,I6,I7,reduceIte,reduceCtorEq,w8,PS_indexStr,ZStr_str]
 refine(congrArg (fun o=>ZSome o _ _) (show _=some (4:UInt8) by rfl)).mpr ?_
 have w4:((4:UInt8).toNat:Int)=4:=by decide
 have w5:IntKind.i64.wrap 4=4:=by decide
 simp only[PP,P1,P2,P3,P4,P5,P6,P7,P8,P9,P10,P11,P12,P13,P14,L1,P15,N1,N2,N3,N4,N5,N6,N7,I1,I2,I3,I4,I5,I6,I7,reduceIte,reduceCtorEq,w4,w5]
 exact hk
theorem lenA_p {M:Mem} {K:PV→Mem→Prop} (hk:K (p64 4) M):SemC tab 85 [.int .u64 13] M K:=by
 refine q11 T.h85 (by simp only[PP,P1,P2,P3,P4,P5,P6,P7,P8,P9,P10,P11,P12,P13,P14,L1,P15,N1,N2,N3,N4,N5,N6,N7,I1,I2,I3,I4,I5,I6,I7,reduceIte,reduceCtorEq]) ?_
 simp only[af85,PP,P1,P2,P3,P4,P5,P6,P7,P8,P9,P10,P11,P12,P13,P14,L1,P15,N1,N2,N3,N4,N5,N6,N7,I1,I2,I3,I4,I5,I6,I7,reduceIte,reduceCtorEq]
 refine len64a_p T ?_
 simp only[PP,P1,P2,P3,P4,P5,P6,P7,P8,P9,P10,P11,P12,P13,P14,L1,P15,N1,N2,N3,N4,N5,N6,N7,I1,I2,I3,I4,I5,I6,I7,reduceIte,reduceCtorEq]
 exact hk
theorem pdqR_p {K:PV→Mem→Prop} {g v n:Nat} {p s q:List Int} {ea eb lim:Int} (hn:p.length+s.length+q.length=n) (hb:n<1000000000000) (h12:s.length≤12) (ha:ea=p.length) (hbb:eb=((p.length+s.length:Nat):Int)) (hk:∀(v':Nat) (s':List Int),s'.Perm s→s'.Pairwise (·≤·)→K (.tuple []) [.cells g v' ((cat3 p s' q).map p64)]):
  SemC tab 84 [.ref 0 g 1 0 n,p64 ea,p64 eb,p64 lim] [.cells g v ((cat3 p s q).map p64)] K:=by
 refine q33 T.h84 ?_
 simp only[af84,PP,P1,P2,P3,P4,P5,P6,P7,P8,P9,P10,P11,P12,P13,P14,L1,P15,N1,N2,N3,N4,N5,N6,N7,I1,I2,I3,I4,I5,I6,I7,reduceIte,reduceCtorEq]
 refine loop1 (fun(k:Nat)=>True) (fun k=>[.ref 0 g 1 0 n,p64 ea,p64 eb,p64 lim,Zj,Zj,Zj,Zj,.bool true,.bool true,Zj,Zj,Zj,Zj,Zj,Zj,Zj,Zj,Zj,Zj,Zj,Zj,Zj,Zj,Zj,Zj,Zj,Zj,Zj,Zj,Zj,Zj,Zj,Zj,Zj,Zj,Zj,Zj,Zj,Zj,Zj,Zj,Zj,Zj,Zj,Zj,Zj,Zj,Zj,Zj,Zj,Zj,Zj,Zj,Zj,Zj,Zj,Zj,Zj,Zj,Zj,Zj,Zj,Zj,Zj,Zj,Zj,Zj,Zj,Zj,Zj,Zj,Zj,Zj,Zj,Zj,Zj,Zj,Zj,Zj,Zj,Zj,Zj,Zj,Zj,Zj,Zj,Zj,Zj,Zj,Zj,Zj,Zj,Zj,Zj,Zj,Zj,Zj,Zj,Zj,Zj,Zj,Zj,Zj,Zj,Zj,Zj,Zj,Zj,Zj,Zj,Zj,Zj,Zj,Zj,Zj,Zj,Zj,Zj,Zj,Zj,Zj,Zj,Zj,Zj,Zj,Zj,Zj,Zj,Zj,Zj,Zj,Zj,Zj]) (fun k=>[.cells g v ((cat3 p s q).map p64)]) (fun k=>0) 0 trivial (by simp only[PW]) rfl ?_
 intro k _ ih
 have w0:IntKind.i64.wrap (eb-ea)=(s.length:Int):=by rw[q57 (by omega) (by omega)];omega
 have c:(s.length:Int)≤12:=by omega
 refine q15 (by kernel_rfl) ?_
 simp only[PP,P1,P2,P3,P4,P5,P6,P7,P8,P9,P10,P11,P12,P13,P14,L1,P15,N1,N2,N3,N4,N5,N6,N7,I1,I2,I3,I4,I5,I6,I7,reduceIte,reduceCtorEq,w0,c]
 refine isortR_p T hn hb ha hbb (fun v' l' h1 h2=>?_)
 simp only[PP,P1,P2,P3,P4,P5,P6,P7,P8,P9,P10,P11,P12,P13,P14,L1,P15,N1,N2,N3,N4,N5,N6,N7,I1,I2,I3,I4,I5,I6,I7,reduceIte,reduceCtorEq]
 exact hk v' l' h1 h2
set_option maxHeartbeats 1000000 in
theorem pdq13_p {K:PV→Mem→Prop} {g v:Nat} {l:List Int} (hn:l.length=13) (hk:∀(v':Nat) (l':List Int),l'.Perm l→l'.Pairwise (·≤·)→K (.tuple []) [.cells g v' (l'.map p64)]):
  SemC tab 84 [.ref 0 g 1 0 13,p64 0,p64 13,p64 4] [.cells g v (l.map p64)] K:=by
 refine q33 T.h84 ?_
 simp only[af84,PP,P1,P2,P3,P4,P5,P6,P7,P8,P9,P10,P11,P12,P13,P14,L1,P15,N1,N2,N3,N4,N5,N6,N7,I1,I2,I3,I4,I5,I6,I7,reduceIte,reduceCtorEq]
 refine loop6 (fun(v:Nat) (p s q:List Int) (b8 b9:Bool)=>(p++(s++q)).Perm l∧(s.length≤12∨(p=[]∧q=[]∧b8=true∧b9=true))∧p.Pairwise (·≤·)∧q.Pairwise (·≤·)∧(∀x∈p,∀y∈s,x≤y)∧(∀x∈s,∀y∈q,x≤y)∧∀x∈p,∀y∈q,x≤y)
  (fun v p s q b8 b9=>[.ref 0 g 1 0 13,p64 p.length,p64 ((p.length+s.length:Nat):Int),p64 4,Zj,Zj,Zj,Zj,.bool b8,.bool b9,Zj,Zj,Zj,Zj,Zj,Zj,Zj,Zj,Zj,Zj,Zj,Zj,Zj,Zj,Zj,Zj,Zj,Zj,Zj,Zj,Zj,Zj,Zj,Zj,Zj,Zj,Zj,Zj,Zj,Zj,Zj,Zj,Zj,Zj,Zj,Zj,Zj,Zj,Zj,Zj,Zj,Zj,Zj,Zj,Zj,Zj,Zj,Zj,Zj,Zj,Zj,Zj,Zj,Zj,Zj,Zj,Zj,Zj,Zj,Zj,Zj,Zj,Zj,Zj,Zj,Zj,Zj,Zj,Zj,Zj,Zj,Zj,Zj,Zj,Zj,Zj,Zj,Zj,Zj,Zj,Zj,Zj,Zj,Zj,Zj,Zj,Zj,Zj,Zj,Zj,Zj,Zj,Zj,Zj,Zj,Zj,Zj,Zj,Zj,Zj,Zj,Zj,Zj,Zj,Zj,Zj,Zj,Zj,Zj,Zj,Zj,Zj,Zj,Zj,Zj,Zj,Zj,Zj,Zj,Zj,Zj,Zj,Zj,Zj]) (fun v p s q _ _=>[.cells g v ((cat3 p s q).map p64)]) (fun _ _ s _ _ _=>s.length) v [] l [] true true
  ⟨by simp,.inr ⟨rfl,rfl,rfl,rfl⟩,.nil,.nil,by simp,by simp,by simp⟩ (by simp only[PW,hn]) (by simp[cat3]) ?_
 intro v p s q b8 b9 ⟨hp,hs,h1,h2,h3,h4,h5⟩ ih
 have hl:=hp.length_eq
 simp only[List.length_append,hn]at hl
 have w0:IntKind.i64.wrap (((p.length+s.length:Nat):Int)-p.length)=(s.length:Int):=by rw[q57 (by omega) (by omega)];omega
 refine q15 (by kernel_rfl) ?_
 simp only[PP,P1,P2,P3,P4,P5,P6,P7,P8,P9,P10,P11,P12,P13,P14,L1,P15,N1,N2,N3,N4,N5,N6,N7,I1,I2,I3,I4,I5,I6,I7,reduceIte,reduceCtorEq,w0]
 refine QIf.intro (fun c=>?_) (fun c=>?_)
 ·simp only[PP,P1,P2,P3,P4,P5,P6,P7,P8,P9,P10,P11,P12,P13,P14,L1,P15,N1,N2,N3,N4,N5,N6,N7,I1,I2,I3,I4,I5,I6,I7,reduceIte,reduceCtorEq,c]
  refine isortR_p T (by omega) (by omega) rfl rfl (fun v' s' g1 g2=>?_)
  simp only[PP,P1,P2,P3,P4,P5,P6,P7,P8,P9,P10,P11,P12,P13,P14,L1,P15,N1,N2,N3,N4,N5,N6,N7,I1,I2,I3,I4,I5,I6,I7,reduceIte,reduceCtorEq]
  refine hk v' (cat3 p s' q) ?_ ?_
  ·unfold cat3
   exact(List.Perm.append_left p (List.Perm.append_right q g1)).trans hp
  ·unfold cat3
   rw[List.pairwise_append,List.pairwise_append]
   refine⟨h1,⟨g2,h2,fun x hx y hy=>h4 x (g1.mem_iff.1 hx) y hy⟩,fun x hx y hy=>?_⟩
   rcases List.mem_append.1 hy with hy | hy
   ·exact h3 x hx y (g1.mem_iff.1 hy)
   ·exact h5 x hx y hy
 rcases hs with hs | ⟨rfl,rfl,rfl,rfl⟩
 ·exact absurd (show(s.length:Int)≤12 by omega) c
 have hs13:s.length=13:=by simp at hl;omega
 have e0:cat3 [] s []=s:=by simp[cat3]
 have w9:∀a:Int,IntKind.i64.wrap (a-0)=IntKind.i64.wrap a:=fun a=>by rw[Int.sub_zero]
 simp only[PP,P1,P2,P3,P4,P5,P6,P7,P8,P9,P10,P11,P12,P13,P14,L1,P15,N1,N2,N3,N4,N5,N6,N7,I1,I2,I3,I4,I5,I6,I7,reduceIte,reduceCtorEq,c,e0,hs13]
 refine SemC_bor (args2:=[slI true false .i64 s,p64 0,p64 13]) (.ints rfl hs13 (.same (by simp only[PP,P1,P2,P3,P4,P5,P6,P7,P8,P9,P10,P11,P12,P13,P14,L1,P15,N1,N2,N3,N4,N5,N6,N7,I1,I2,I3,I4,I5,I6,I7,reduceIte,reduceCtorEq]) (.same (by simp only[PP,P1,P2,P3,P4,P5,P6,P7,P8,P9,P10,P11,P12,P13,P14,L1,P15,N1,N2,N3,N4,N5,N6,N7,I1,I2,I3,I4,I5,I6,I7,reduceIte,reduceCtorEq]) .nil))) (pivot_p T hs13 (fun a h a0 a1 hh=>⟨rfl,?_⟩))
 have h2':¬h=2:=by omega
 simp only[PP,P1,P2,P3,P4,P5,P6,P7,P8,P9,P10,P11,P12,P13,P14,L1,P15,N1,N2,N3,N4,N5,N6,N7,I1,I2,I3,I4,I5,I6,I7,reduceIte,reduceCtorEq,h2']
 refine QIf.intro (fun c1=>?_) (fun c1=>?_)
 ·simp only[PP,P1,P2,P3,P4,P5,P6,P7,P8,P9,P10,P11,P12,P13,P14,L1,P15,N1,N2,N3,N4,N5,N6,N7,I1,I2,I3,I4,I5,I6,I7,reduceIte,reduceCtorEq,c1]
  refine SemC_bor (args2:=[slI true false .i64 s,p64 0,p64 13]) (.ints rfl hs13 (.same (by simp only[PP,P1,P2,P3,P4,P5,P6,P7,P8,P9,P10,P11,P12,P13,P14,L1,P15,N1,N2,N3,N4,N5,N6,N7,I1,I2,I3,I4,I5,I6,I7,reduceIte,reduceCtorEq]) (.same (by simp only[PP,P1,P2,P3,P4,P5,P6,P7,P8,P9,P10,P11,P12,P13,P14,L1,P15,N1,N2,N3,N4,N5,N6,N7,I1,I2,I3,I4,I5,I6,I7,reduceIte,reduceCtorEq]) .nil))) (partial_p T (n:=13) hs13 (by omega) (by omega) (fun r hr=>⟨rfl,?_⟩))
  cases r with
  | true=>
   simp only[PP,P1,P2,P3,P4,P5,P6,P7,P8,P9,P10,P11,P12,P13,P14,L1,P15,N1,N2,N3,N4,N5,N6,N7,I1,I2,I3,I4,I5,I6,I7,reduceIte,reduceCtorEq]
   exact hk _ s (by simpa using hp) (hr rfl)
  | false=>
   simp only[PP,P1,P2,P3,P4,P5,P6,P7,P8,P9,P10,P11,P12,P13,P14,L1,P15,N1,N2,N3,N4,N5,N6,N7,I1,I2,I3,I4,I5,I6,I7,reduceIte,reduceCtorEq]
   have ha:a=((a.toNat:Nat):Int):=by omega
   refine partition_p T (pv:=a.toNat) hs13 (by omega) (by omega) (by omega) ha (fun v' u w x b g1 g2 g3=>?_)
   have hlw:=g1.length_eq
   rw[List.length_append,List.length_cons,hs13]at hlw
   have gp:(u++x::w).Perm l:=g1.trans (by simpa using hp)
   have wm:IntKind.i64.wrap (u.length:Int)=(u.length:Int):=q57 (by omega) (by omega)
   have wm1:IntKind.i64.wrap ((13:Int)-u.length)=(13:Int)-u.length:=q57 (by omega) (by omega)
   have wm2:IntKind.i64.wrap ((u.length:Int)+1)=((u.length+1:Nat):Int):=q10 (by show _<1000000000000;omega)
   have hq:pbin .quo (.int .i64 13) (.int .i64 8)=some (.int .i64 (IntKind.i64.wrap ((13:Int).tdiv 8))):=pbin_quo _ _ _ (by decide)
   obtain⟨X,hX⟩:∃X,X=u++x::w:=⟨_,rfl⟩
   rw[←hX]
   simp only[PP,P1,P2,P3,P4,P5,P6,P7,P8,P9,P10,P11,P12,P13,P14,L1,P15,N1,N2,N3,N4,N5,N6,N7,I1,I2,I3,I4,I5,I6,I7,reduceIte,reduceCtorEq,w9,wm,wm1,hq]
   refine QIf.intro (fun c2=>?_) (fun c2=>?_)
   ·simp only[PP,P1,P2,P3,P4,P5,P6,P7,P8,P9,P10,P11,P12,P13,P14,L1,P15,N1,N2,N3,N4,N5,N6,N7,I1,I2,I3,I4,I5,I6,I7,reduceIte,reduceCtorEq,c2]
    have e1:u++x::w=cat3 [] u (x::w):=by simp[cat3]
    rw[hX,e1]
    refine pdqR_p T (by simp;omega) (by omega) (by omega) rfl (by simp) (fun v2 u' k1 k2=>?_)
    have e2:cat3 [] u' (x::w)=cat3 (u'++[x]) w []:=by simp[cat3]
    rw[e2]
    have hul:=k1.length_eq
    simp only[PP,P1,P2,P3,P4,P5,P6,P7,P8,P9,P10,P11,P12,P13,P14,L1,P15,N1,N2,N3,N4,N5,N6,N7,I1,I2,I3,I4,I5,I6,I7,reduceIte,reduceCtorEq,wm2]
    refine q20 (ih v2 (u'++[x]) w [] (decide (IntKind.i64.wrap (Int.tdiv 13 8)≤(u.length:Int))) b ⟨?_,.inl (by omega),?_,.nil,?_,by simp,by simp⟩ (by omega)) (by simp only[PW,hul,show u.length+1+w.length=13 by omega]) rfl
    ·have:(u'++[x]++(w++[])).Perm (u++x::w):=by simpa using List.Perm.append_right (x::w) k1
     exact this.trans gp
    ·rw[List.pairwise_append]
     exact⟨k2,by simp,fun y hy z hz=>by rw[List.mem_singleton]at hz;subst hz;exact g2 y (k1.mem_iff.1 hy)⟩
    ·intro y hy z hz
     have hz2:=g3 z hz
     rcases List.mem_append.1 hy with hy | hy
     ·have:=g2 y (k1.mem_iff.1 hy);omega
     ·rw[List.mem_singleton]at hy;omega
   ·simp only[PP,P1,P2,P3,P4,P5,P6,P7,P8,P9,P10,P11,P12,P13,P14,L1,P15,N1,N2,N3,N4,N5,N6,N7,I1,I2,I3,I4,I5,I6,I7,reduceIte,reduceCtorEq,c2,wm2]
    have e1:u++x::w=cat3 (u++[x]) w []:=by simp[cat3]
    rw[hX,e1]
    refine pdqR_p T (by simp;omega) (by omega) (by omega) (by simp) (by simp;omega) (fun v2 w' k1 k2=>?_)
    have e2:cat3 (u++[x]) w' []=cat3 [] u (x::w'):=by simp[cat3]
    rw[e2]
    have hwl:=k1.length_eq
    simp only[PP,P1,P2,P3,P4,P5,P6,P7,P8,P9,P10,P11,P12,P13,P14,L1,P15,N1,N2,N3,N4,N5,N6,N7,I1,I2,I3,I4,I5,I6,I7,reduceIte,reduceCtorEq]
    refine q20 (ih v2 [] u (x::w') (decide (IntKind.i64.wrap (Int.tdiv 13 8)≤(13:Int)-u.length)) b ⟨?_,.inl (by omega),.nil,?_,by simp,?_,by simp⟩ (by omega)) (by simp only[PW]) rfl
    ·have:([]++(u++(x::w'))).Perm (u++x::w):=by simpa using List.Perm.append_left u (List.Perm.cons x k1)
     exact this.trans gp
    ·exact List.pairwise_cons.2 ⟨fun y hy=>g3 y (k1.mem_iff.1 hy),k2⟩
    ·intro y hy z hz
     have hy2:=g2 y hy
     rcases List.mem_cons.1 hz with rfl | hz
     ·exact hy2
     ·have:=g3 z (k1.mem_iff.1 hz);omega
 ·simp only[PP,P1,P2,P3,P4,P5,P6,P7,P8,P9,P10,P11,P12,P13,P14,L1,P15,N1,N2,N3,N4,N5,N6,N7,I1,I2,I3,I4,I5,I6,I7,reduceIte,reduceCtorEq,c1]
  have ha:a=((a.toNat:Nat):Int):=by omega
  refine partition_p T (pv:=a.toNat) hs13 (by omega) (by omega) (by omega) ha (fun v' u w x b g1 g2 g3=>?_)
  have hlw:=g1.length_eq
  rw[List.length_append,List.length_cons,hs13]at hlw
  have gp:(u++x::w).Perm l:=g1.trans (by simpa using hp)
  have wm:IntKind.i64.wrap (u.length:Int)=(u.length:Int):=q57 (by omega) (by omega)
  have wm1:IntKind.i64.wrap ((13:Int)-u.length)=(13:Int)-u.length:=q57 (by omega) (by omega)
  have wm2:IntKind.i64.wrap ((u.length:Int)+1)=((u.length+1:Nat):Int):=q10 (by show _<1000000000000;omega)
  have hq:pbin .quo (.int .i64 13) (.int .i64 8)=some (.int .i64 (IntKind.i64.wrap ((13:Int).tdiv 8))):=pbin_quo _ _ _ (by decide)
  obtain⟨X,hX⟩:∃X,X=u++x::w:=⟨_,rfl⟩
  rw[←hX]
  simp only[PP,P1,P2,P3,P4,P5,P6,P7,P8,P9,P10,P11,P12,P13,P14,L1,P15,N1,N2,N3,N4,N5,N6,N7,I1,I2,I3,I4,I5,I6,I7,reduceIte,reduceCtorEq,w9,wm,wm1,hq]
  refine QIf.intro (fun c2=>?_) (fun c2=>?_)
  ·simp only[PP,P1,P2,P3,P4,P5,P6,P7,P8,P9,P10,P11,P12,P13,P14,L1,P15,N1,N2,N3,N4,N5,N6,N7,I1,I2,I3,I4,I5,I6,I7,reduceIte,reduceCtorEq,c2]
   have e1:u++x::w=cat3 [] u (x::w):=by simp[cat3]
   rw[hX,e1]
   refine pdqR_p T (by simp;omega) (by omega) (by omega) rfl (by simp) (fun v2 u' k1 k2=>?_)
   have e2:cat3 [] u' (x::w)=cat3 (u'++[x]) w []:=by simp[cat3]
   rw[e2]
   have hul:=k1.length_eq
   simp only[PP,P1,P2,P3,P4,P5,P6,P7,P8,P9,P10,P11,P12,P13,P14,L1,P15,N1,N2,N3,N4,N5,N6,N7,I1,I2,I3,I4,I5,I6,I7,reduceIte,reduceCtorEq,wm2]
   refine q20 (ih v2 (u'++[x]) w [] (decide (IntKind.i64.wrap (Int.tdiv 13 8)≤(u.length:Int))) b ⟨?_,.inl (by omega),?_,.nil,?_,by simp,by simp⟩ (by omega)) (by simp only[PW,hul,show u.length+1+w.length=13 by omega]) rfl
   ·have:(u'++[x]++(w++[])).Perm (u++x::w):=by simpa using List.Perm.append_right (x::w) k1
    exact this.trans gp
   ·rw[List.pairwise_append]
    exact⟨k2,by simp,fun y hy z hz=>by rw[List.mem_singleton]at hz;subst hz;exact g2 y (k1.mem_iff.1 hy)⟩
   ·intro y hy z hz
    have hz2:=g3 z hz
    rcases List.mem_append.1 hy with hy | hy
    ·have:=g2 y (k1.mem_iff.1 hy);omega
    ·rw[List.mem_singleton]at hy;omega
  ·simp only[PP,P1,P2,P3,P4,P5,P6,P7,P8,P9,P10,P11,P12,P13,P14,L1,P15,N1,N2,N3,N4,N5,N6,N7,I1,I2,I3,I4,I5,I6,I7,reduceIte,reduceCtorEq,c2,wm2]
   have e1:u++x::w=cat3 (u++[x]) w []:=by simp[cat3]
   rw[hX,e1]
   refine pdqR_p T (by simp;omega) (by omega) (by omega) (by simp) (by simp;omega) (fun v2 w' k1 k2=>?_)
   have e2:cat3 (u++[x]) w' []=cat3 [] u (x::w'):=by simp[cat3]
   rw[e2]
   have hwl:=k1.length_eq
   simp only[PP,P1,P2,P3,P4,P5,P6,P7,P8,P9,P10,P11,P12,P13,P14,L1,P15,N1,N2,N3,N4,N5,N6,N7,I1,I2,I3,I4,I5,I6,I7,reduceIte,reduceCtorEq]
   refine q20 (ih v2 [] u (x::w') (decide (IntKind.i64.wrap (Int.tdiv 13 8)≤(13:Int)-u.length)) b ⟨?_,.inl (by omega),.nil,?_,by simp,?_,by simp⟩ (by omega)) (by simp only[PW]) rfl
   ·have:([]++(u++(x::w'))).Perm (u++x::w):=by simpa using List.Perm.append_left u (List.Perm.cons x k1)
    exact this.trans gp
   ·exact List.pairwise_cons.2 ⟨fun y hy=>g3 y (k1.mem_iff.1 hy),k2⟩
   ·intro y hy z hz
    have hy2:=g2 y hy
    rcases List.mem_cons.1 hz with rfl | hz
    ·exact hy2
    ·have:=g3 z (k1.mem_iff.1 hz);omega
theorem sort13_p {K:PV→Mem→Prop} {g v n:Nat} {l:List Int} (hn:l.length=n) (hb:n≤13) (hk:∀(v':Nat) (l':List Int),l'.Perm l→l'.Pairwise (·≤·)→K (.tuple []) [.cells g v' (l'.map p64)]):
  SemC tab 57 [.ref 0 g 1 0 n] [.cells g v (l.map p64)] K:=by
 by_cases h:n≤12
 ·exact sort_p T hn h hk
 have e:n=13:=by omega
 subst e
 refine q33 T.h57 ?_
 have w:IntKind.u64.wrap 13=13:=by decide
 simp only[af57,PP,P1,P2,P3,P4,P5,P6,P7,P8,P9,P10,P11,P12,P13,P14,L1,P15,N1,N2,N3,N4,N5,N6,N7,I1,I2,I3,I4,I5,I6,I7,reduceIte,reduceCtorEq,w]
 refine lenA_p T ?_
 simp only[PP,P1,P2,P3,P4,P5,P6,P7,P8,P9,P10,P11,P12,P13,P14,L1,P15,N1,N2,N3,N4,N5,N6,N7,I1,I2,I3,I4,I5,I6,I7,reduceIte,reduceCtorEq]
 refine pdq13_p T hn (fun v' l' h1 h2=>?_)
 simp only[PP,P1,P2,P3,P4,P5,P6,P7,P8,P9,P10,P11,P12,P13,P14,L1,P15,N1,N2,N3,N4,N5,N6,N7,I1,I2,I3,I4,I5,I6,I7,reduceIte,reduceCtorEq]
 exact hk v' l' h1 h2
end
def itr (f:Nat→Nat) (v:Nat):Nat→Nat
 | 0=>v
 | j+1=>f (itr f v j)
theorem itr_lt {f:Nat→Nat} {n v:Nat} (hf:∀v,v<n→f v<n) (hv:v<n):∀j,itr f v j<n
 | 0=>hv
 | j+1=>hf _ (itr_lt hf hv j)
def its (f:Nat→Nat) (v m:Nat):List Nat:=(List.range m).map (itr f v)
theorem its_len (f:Nat→Nat) (v m:Nat):(its f v m).length=m:=by simp[its]
theorem its_get {f:Nat→Nat} {v m j:Nat} (h:j<m):(its f v m)[j]? =some (itr f v j):=by simp[its,h]
theorem its_succ (f:Nat→Nat) (v m:Nat):its f v (m+1)=its f v m++[itr f v m]:=by simp[its,List.range_succ]
theorem its_mem {f:Nat→Nat} {v m x:Nat} :x∈its f v m↔∃j,j<m∧itr f v j=x:=by simp[its]
theorem its_lt {f:Nat→Nat} {n v m:Nat} (hf:∀v,v<n→f v<n) (hv:v<n):∀x∈its f v m,x<n:=by
 intro x hx
 obtain⟨j,_,rfl⟩:=its_mem.1 hx
 exact itr_lt hf hv j
structure IsPlay (f:Nat→Nat) (v n:Nat) (p l:List Int) (m k:Nat):Prop where
 km:k<m
 mn:m≤n
 nd:(its f v m).Nodup
 back:itr f v m=itr f v k
 p:p=natI ((its f v m).take k)
 l:l=natI ((its f v m).drop k)
theorem natI_inj {l:List Nat} {i:Nat} {v:Nat} (h:(natI l)[i]? =some (v:Int)):l[i]? =some v:=by
 rw[List.getElem?_map]at h
 cases h1:l[i]? with
 | none=>rw[h1]at h;cases h
 | some a=>
  rw[h1]at h
  have:(a:Int)=v:=by simpa using h
  rw[show a=v by omega]
theorem playL_spec {st:List Int} {f:Nat→Nat} {n v:Nat} (hst:∀v,v<n→st[v]? =some ((f v:Nat):Int)) (hf:∀v,v<n→f v<n) (hv:v<n):
  ∀(fuel m:Nat),m+fuel=n+1→(its f v m).Nodup→∃m' k,m≤m'∧IsPlay f v n (q63 st fuel (itr f v m:Nat) (natI (its f v m))).1 (q63 st fuel (itr f v m:Nat) (natI (its f v m))).2 m' k
 | 0,m,hm,hnd=>by
  have:=nodup_lenN n _ hnd (its_lt hf hv)
  rw[its_len]at this
  omega
 | fuel+1,m,hm,hnd=>by
  have hlen:=nodup_lenN n _ hnd (its_lt hf hv)
  rw[its_len]at hlen
  unfold q63
  rcases idxI_spec (itr f v m:Nat) (natI (its f v m)) 0 with⟨h1,h2⟩ | ⟨i,h1,h2,h3⟩
  ·rw[h2,if_neg (by omega)]
   have hn:itr f v m∉its f v m:=fun h=>h1 (mem_natI.2 h)
   have e1:st.getD (itr f v m:Int).toNat 0=((itr f v (m+1):Nat):Int):=by
    rw[Int.toNat_natCast,List.getD,hst _ (itr_lt hf hv m)];rfl
   have e2:natI (its f v m)++[((itr f v m:Nat):Int)]=natI (its f v (m+1)):=by rw[its_succ];simp
   rw[e1,e2]
   have hnd':(its f v (m+1)).Nodup:=by
    rw[its_succ,List.nodup_append]
    exact⟨hnd,by simp,fun a ha b hb e=>by rw[List.mem_singleton]at hb;subst hb;subst e;exact hn ha⟩
   obtain⟨m',k,h4,h5⟩:=playL_spec hst hf hv fuel (m+1) (by omega) hnd'
   exact⟨m',k,by omega,h5⟩
  ·rw[h3,if_pos (by omega)]
   have h1':=natI_inj h1
   have hi:=q12 h1'
   rw[its_len]at hi
   rw[its_get hi]at h1'
   refine⟨m,i,Nat.le_refl _,hi,hlen,hnd,?_,?_,?_⟩
   ·simp only[Option.some.injEq]at h1';exact h1'.symm
   ·simp[natI,List.map_take]
   ·simp[natI,List.map_drop]
theorem play_spec {st:List Int} {f:Nat→Nat} {n v:Nat} (hst:∀v,v<n→st[v]? =some ((f v:Nat):Int)) (hf:∀v,v<n→f v<n) (hv:v<n):
  ∃m k,IsPlay f v n (q63 st (n+1) v []).1 (q63 st (n+1) v []).2 m k:=by
 obtain⟨m,k,_,h⟩:=playL_spec hst hf hv (n+1) 0 (by omega) (by simp[its])
 exact⟨m,k,h⟩
theorem IsPlay.len {f:Nat→Nat} {n v m k:Nat} {p l:List Int} (h:IsPlay f v n p l m k):p.length=k∧l.length=m-k:=by
 rw[h.p,h.l]
 simp[its_len]
 have:=h.km
 omega
theorem IsPlay.mem {f:Nat→Nat} {n v m k:Nat} {p l:List Int} (h:IsPlay f v n p l m k) (hf:∀v,v<n→f v<n) (hv:v<n):∀x∈l,0≤x∧x<n:=by
 intro x hx
 rw[h.l]at hx
 obtain⟨y,hy,rfl⟩:=List.mem_map.1 hx
 have:=its_lt hf hv y (List.mem_of_mem_drop hy)
 omega
def seF (n:Nat) (pr:List Int) (all:List Int) (w:Int):List Int:=(natI (List.range n)).filter fun u=>decide (u∈all∧0<relI pr u w)
def folV (n:Nat) (pr:List Int) (p l:List Int):Vl:=
 match l with
 | []=>⟨0,[],0⟩
 | x::xs=>⟨maxR pr x xs,seF n pr (p++x::xs) (maxR pr x xs),idxI (maxR pr x xs) 0 (p++x::xs)⟩
def folX (ow pr st:List Int) (v:Int):Vl:=folV ow.length pr (q63 st (ow.length+1) v []).1 (q63 st (ow.length+1) v []).2
def folA (ow pr:List Int) (su:List (List Int)) (st:List Int) (v:Int):Vl:=if playE ow pr su st v=0 then folX ow pr st v else⟨0,[],0⟩
theorem rise_of {l:List Int} :∀{k:Int},l.Pairwise (· < ·)→(∀x∈l,k<x)→Rise k l:=by
 induction l with
 | nil=>intro k _ _;trivial
 | cons x l ih=>
  intro k h1 h2
  rw[List.pairwise_cons]at h1
  exact⟨h2 x (by simp),ih h1.2 h1.1⟩
theorem seF_mem {n:Nat} {pr all:List Int} {w u:Int} :u∈seF n pr all w↔(0≤u∧u<n)∧u∈all∧0<relI pr u w:=by
 unfold seF
 rw[List.mem_filter,decide_eq_true_eq]
 constructor
 ·rintro⟨h1,h2⟩
  obtain⟨a,h3,rfl⟩:=List.mem_map.1 h1
  rw[List.mem_range]at h3
  exact⟨⟨by omega,by omega⟩,h2⟩
 ·rintro⟨⟨h1,h2⟩,h3⟩
  exact⟨List.mem_map.2 ⟨u.toNat,List.mem_range.2 (by omega),by omega⟩,h3⟩
theorem range_rise (n:Nat):(natI (List.range n)).Pairwise (· < ·):=by
 rw[List.pairwise_map]
 exact List.Pairwise.imp (fun {a b} (h:a<b)=>by show(a:Int)<b;omega) List.pairwise_lt_range
theorem seF_rise (n:Nat) (pr all:List Int) (w:Int):Rise (-1) (seF n pr all w):=
 rise_of ((range_rise n).filter _) fun x hx=>by have:=(seF_mem.1 hx).1;omega
theorem seF_len {n:Nat} {pr all:List Int} {w:Int} :(seF n pr all w).length≤n:=by
 refine Nat.le_trans (List.length_filter_le _ _) ?_
 simp
theorem sorted_seF {n:Nat} {pr all l:List Int} {w:Int} (hnd:all.Nodup) (hr:∀x∈all,0≤x∧x<n) (hp:l.Perm (all.filter fun u=>decide (0<relI pr u w))) (hs:l.Pairwise (·≤·)):l=seF n pr all w:=by
 have hm:∀u,u∈l↔u∈seF n pr all w:=fun u=>by
  rw[hp.mem_iff,List.mem_filter,seF_mem,decide_eq_true_eq]
  exact⟨fun⟨h1,h2⟩=>⟨hr u h1,h1,h2⟩,fun⟨_,h1,h2⟩=>⟨h1,h2⟩⟩
 have hn:l.Nodup:=hp.nodup_iff.2 (hnd.filter _)
 have hlt:l.Pairwise (· < ·):=by
  have:=hs.and hn
  exact this.imp fun {a b} ⟨h1,h2⟩=>by omega
 refine Rise.ext (rise_of hlt fun x hx=>?_) (seF_rise n pr all w) hm
 have:=(seF_mem.1 ((hm x).1 hx)).1
 omega
theorem play_facts {ow pr st:List Int} {su:List (List Int)} {v:Int} (h:playE ow pr su st v=0):
  checkM ow pr su=0∧0≤v∧v<ow.length∧st.length=ow.length∧(∃f:Nat→Nat,(∀v,v<ow.length→st[v]? =some ((f v:Nat):Int))∧(∀v,v<ow.length→f v<ow.length∧((f v:Nat):Int)∈su.getD v [])∧∃m k,IsPlay f v.toNat ow.length (q63 st (ow.length+1) v []).1 (q63 st (ow.length+1) v []).2 m k):=by
 unfold playE at h
 split at h
 ·rename_i c
  split at h
  ·simp at h
  ·split at h
   ·simp at h
   ·split at h
    ·rename_i c1 c2 c3
     split at h
     ·rename_i c4
      have V:=q22 c
      have hg:∀k,k<ow.length→∃u:Int,st[k]? =some u∧u∈su.getD k []∧0≤u∧u<ow.length:=fun k hk=>by
       obtain⟨u,hu⟩:=q13 (xs:=st) (k:=k) (by omega)
       have hm:=movM_get c4 k u hu
       rw[Nat.zero_add]at hm
       exact⟨u,hu,hm,su_range V hk hm⟩
      have h1:∀v,v<ow.length→st[v]? =some (((st.getD v 0).toNat:Nat):Int):=fun v hv=>by
       obtain⟨u,hu,_,h2,h3⟩:=hg v hv
       rw[getD_some hu,hu];congr 1;omega
      have h2:∀v,v<ow.length→(st.getD v 0).toNat<ow.length:=fun v hv=>by
       obtain⟨u,hu,_,h2,h3⟩:=hg v hv
       rw[getD_some hu];omega
      refine⟨c,by omega,by omega,by omega,fun v=>(st.getD v 0).toNat,h1,fun v hv=>?_,?_⟩
      ·obtain⟨u,hu,h4,h5,h6⟩:=hg v hv
       show(st.getD v 0).toNat<ow.length∧(((st.getD v 0).toNat:Nat):Int)∈su.getD v []
       rw[getD_some hu]
       exact⟨by omega,by rw[show((u.toNat:Nat):Int)=u by omega];exact h4⟩
      ·have:=play_spec (v:=v.toNat) h1 h2 (by omega)
       rw[show((v.toNat:Nat):Int)=v by omega]at this
       exact this
     ·simp at h
    ·simp at h
 ·rename_i c;exact absurd h c
theorem IsPlay.all {f:Nat→Nat} {v n m k:Nat} {p l:List Int} (h:IsPlay f v n p l m k):p++l=natI (its f v m):=by
 rw[h.p,h.l,←List.map_append,List.take_append_drop]
theorem natI_nodup {l:List Nat} (h:l.Nodup):(natI l).Nodup:=by
 unfold natI
 rw[List.Nodup,List.pairwise_map]
 exact List.Pairwise.imp (fun {a b} (q:a≠b)=>by show(a:Int)≠b;omega) h
theorem IsPlay.facts {f:Nat→Nat} {v n m k:Nat} {p l:List Int} (h:IsPlay f v n p l m k) (hf:∀v,v<n→f v<n) (hv:v<n):(p++l).Nodup∧(∀x∈p++l,0≤x∧x<n)∧(p++l).length≤n∧l≠[]:=by
 rw[h.all]
 refine⟨natI_nodup h.nd,fun x hx=>?_,?_,?_⟩
 ·obtain⟨a,ha,rfl⟩:=List.mem_map.1 hx
  have:=its_lt hf hv a ha
  omega
 ·rw[List.length_map,its_len];exact h.mn
 ·have h1:=h.len.2
  have h2:=h.km
  intro e
  rw[e]at h1
  simp only[List.length_nil]at h1
  omega
section
variable {tab:FuncId→Option AF} (T:HasA tab)
include T
set_option maxHeartbeats 1000000 in
theorem follow_p {M:Mem} {K:PV→Mem→Prop} {F:GF} {f5 o5:Bool} {ow pr st:List Int} {su:List (List Int)} {v:Int} (B:Bnd ow pr su) (h14:ow.length≤14) (hb:st.length<big) (hq:K (.tuple [.agg (vlL false true (folA ow pr su st v)),p64 (playE ow pr su st v)]) M):
  SemC tab 27 [.agg (gmF F ow pr su),slI f5 o5 .i64 st,p64 v] M K:=by
 refine SemC_wk ?_
 refine q11 T.h27 (by simp only[PP,P1,P2,P3,P4,P5,P6,P7,P8,P9,P10,P11,P12,P13,P14,L1,P15,N1,N2,N3,N4,N5,N6,N7,I1,I2,I3,I4,I5,I6,I7,reduceIte,reduceCtorEq]) ?_
 simp only[af27,PP,P1,P2,P3,P4,P5,P6,P7,P8,P9,P10,P11,P12,P13,P14,L1,P15,N1,N2,N3,N4,N5,N6,N7,I1,I2,I3,I4,I5,I6,I7,reduceIte,reduceCtorEq]
 refine play_p T B hb ?_
 unfold playM
 unfold folA at hq
 by_cases c1:playE ow pr su st v=0
 rotate_left
 ·rw[if_neg c1]at hq ⊢
  simp only[PP,P1,P2,P3,P4,P5,P6,P7,P8,P9,P10,P11,P12,P13,P14,L1,P15,N1,N2,N3,N4,N5,N6,N7,I1,I2,I3,I4,I5,I6,I7,reduceIte,reduceCtorEq,c1]
  refine⟨.tuple [.agg (vlL false true ⟨0,[],0⟩),p64 (playE ow pr su st v)],PvWk.tuple rfl fun i y z h1 h2=>?_,hq⟩
  match i with
  | 0=>
   cases h1;cases h2
   refine PvWk.agg rfl fun i y z h1 h2=>?_
   match i with
   | 0=>cases h1;cases h2;exact PvWk.refl _
   | 1=>cases h1;cases h2;exact PvWk.nils _ _ _
   | 2=>cases h1;cases h2;exact PvWk.refl _
   | i+3=>simp at h1
  | 1=>cases h1;cases h2;exact PvWk.refl _
  | i+2=>simp at h1
 rw[if_pos c1]at hq ⊢
 rw[c1]at hq
 obtain⟨cc,v0,v1,hst,f,hf1,hf2,m,k,hP⟩:=play_facts c1
 have V:=q22 cc
 obtain⟨hnd,hran,hlen,hne⟩:=hP.facts (fun v hv=>(hf2 v hv).1) (by omega)
 have hpl:pr.length=ow.length:=V.p
 unfold folX at hq
 obtain⟨P,hPP⟩:∃P,P=(q63 st (ow.length+1) v []).1:=⟨_,rfl⟩
 obtain⟨L,hLL⟩:∃L,L=(q63 st (ow.length+1) v []).2:=⟨_,rfl⟩
 rw[←hPP,←hLL]at hnd hran hlen hq ⊢
 rw[←hLL]at hne
 obtain⟨x,xs,rfl⟩:∃x xs,L=x::xs:=by cases L with | nil=>exact absurd rfl hne | cons x xs=>exact⟨x,xs,rfl⟩
 simp only[folV]at hq
 rw[List.length_append]at hlen
 obtain⟨L,hL⟩:∃L,L=x::xs:=⟨_,rfl⟩
 obtain⟨w,hw⟩:∃w,w=maxR pr x xs:=⟨_,rfl⟩
 rw[←hL,←hw]at hq
 simp only[PP,P1,P2,P3,P4,P5,P6,P7,P8,P9,P10,P11,P12,P13,P14,L1,P15,N1,N2,N3,N4,N5,N6,N7,I1,I2,I3,I4,I5,I6,I7,reduceIte,reduceCtorEq]
 rw[←hL]
 refine relevance_p T ?_
 simp only[PP,P1,P2,P3,P4,P5,P6,P7,P8,P9,P10,P11,P12,P13,P14,L1,P15,N1,N2,N3,N4,N5,N6,N7,I1,I2,I3,I4,I5,I6,I7,reduceIte,reduceCtorEq]
 have hrL:∀v∈x::xs,0≤v∧v<pr.length:=fun y hy=>by
  have:=hran y (List.mem_append.2 (.inr hy));omega
 have hwr:0≤w∧w<pr.length:=by
  rcases maxR_mem pr xs x with h | h
  ·rw[hw,h];exact hrL x (by simp)
  ·rw[hw];exact hrL _ (List.mem_cons_of_mem _ h)
 rw[hL]
 refine maxF_p T (F:=F) (by show _<1000000000000;omega) hrL ?_
 rw[←hL,←hw]
 have hLlen:P.length+L.length≤ow.length:=by rw[hL];exact hlen
 simp only[PP,P1,P2,P3,P4,P5,P6,P7,P8,P9,P10,P11,P12,P13,P14,L1,P15,N1,N2,N3,N4,N5,N6,N7,I1,I2,I3,I4,I5,I6,I7,reduceIte,reduceCtorEq]
 refine concat_p T (by omega) (by rw[hL];simp) ?_
 obtain⟨A,hA⟩:∃A,A=P++L:=⟨_,rfl⟩
 rw[←hA]at hq ⊢
 have hAn:A.length≤ow.length:=by rw[hA,List.length_append];exact hLlen
 have hnA:A.Nodup:=by rw[hA,hL];exact hnd
 have hrA:∀x∈A,0≤x∧x<ow.length:=by rw[hA,hL];exact hran
 have hwA:w∈A:=by
  rw[hA,hL]
  refine List.mem_append.2 (.inr ?_)
  rcases maxR_mem pr xs x with h | h
  ·rw[hw,h];simp
  ·rw[hw];exact List.mem_cons_of_mem _ h
 simp only[PP,P1,P2,P3,P4,P5,P6,P7,P8,P9,P10,P11,P12,P13,P14,L1,P15,N1,N2,N3,N4,N5,N6,N7,I1,I2,I3,I4,I5,I6,I7,reduceIte,reduceCtorEq]
 refine index_p T (by show _<1000000000000;omega) ?_
 simp only[PP,P1,P2,P3,P4,P5,P6,P7,P8,P9,P10,P11,P12,P13,P14,L1,P15,N1,N2,N3,N4,N5,N6,N7,I1,I2,I3,I4,I5,I6,I7,reduceIte,reduceCtorEq]
 refine SemW_re (GStep.nilbox 2 1 1 rfl rfl rfl) ?_
 simp only[List.set_cons_succ,List.set_cons_zero,List.cons_append,List.nil_append,List.length_cons,List.length_nil,Nat.reduceAdd]
 refine loop5 (fun(k g v ver n:Nat)=>k≤A.length∧n=((A.take k).filter fun u=>decide (0<relI pr u w)).length) (fun k g v ver n=>[Zj,Zj,Zj,Zj,Zj,Zj,.ptr 1 0 0,Zj,Zj,Zj,Zj,moreV (gmF F ow pr su),p64 w,Zj,.ptr 2 0 0,Zj,Zj,Zj,Zj,Zj,Zj,Zj,Zj,Zj,Zj,Zj,Zj,Zj,Zj,Zj,Zj,Zj,Zj,Zj,Zj,Zj,Zj,Zj,Zj,Zj,Zj,Zj,Zj,slI false true .i64 A,p64 A.length,p64 k,Zj,Zj,Zj,Zj,Zj,Zj,Zj,Zj,Zj,Zj,Zj,Zj,Zj,Zj,Zj,Zj,Zj,Zj,Zj])
  (fun k g v ver n=>[.cells 0 0 (gmF F ow pr su),.cells 0 0 [p64 0,.nils,p64 0],.cells 0 ver [p64 w,.ref 3 g 1 0 n,p64 (idxI w 0 A)],.cells g v (((A.take k).filter fun u=>decide (0<relI pr u w)).map p64)]) (fun k _ _ _ _=>A.length-k) 0 0 0 1 0 ⟨by omega,rfl⟩ (by simp only[PW]) rfl ?_
 intro k g v ver n ⟨hle,hn⟩ ih
 refine q15 (by kernel_rfl) ?_
 simp only[PP,P1,P2,P3,P4,P5,P6,P7,P8,P9,P10,P11,P12,P13,P14,L1,P15,N1,N2,N3,N4,N5,N6,N7,I1,I2,I3,I4,I5,I6,I7,reduceIte,reduceCtorEq]
 refine QIf.intro (fun c=>?_) (fun c=>?_)
 ·have hk':k<A.length:=by omega
  obtain⟨u,gu⟩:=q13 hk'
  obtain⟨u0,u1⟩:=hrA u (List.mem_of_getElem? gu)
  have hwk:=q10 (k:=k) (by show _<1000000000000;omega)
  have k0:(0:Int)≤k:=by omega
  simp only[PP,P1,P2,P3,P4,P5,P6,P7,P8,P9,P10,P11,P12,P13,P14,L1,P15,N1,N2,N3,N4,N5,N6,N7,I1,I2,I3,I4,I5,I6,I7,reduceIte,reduceCtorEq,c,gu,k0]
  refine rel1_p T u0 (by omega) hwr.1 hwr.2 ?_
  simp only[PP,P1,P2,P3,P4,P5,P6,P7,P8,P9,P10,P11,P12,P13,P14,L1,P15,N1,N2,N3,N4,N5,N6,N7,I1,I2,I3,I4,I5,I6,I7,reduceIte,reduceCtorEq]
  have htk:=take_some gu
  have hnk:n≤k:=by
   rw[hn]
   refine Nat.le_trans (List.length_filter_le _ _) ?_
   rw[List.length_take];omega
  obtain⟨X,hX⟩:∃X,X=(A.take k).filter fun u=>decide (0<relI pr u w):=⟨_,rfl⟩
  rw[←hX]at hn ⊢
  refine QIf.intro (fun d=>?_) (fun d=>?_)
  ·have hX2:(A.take (k+1)).filter (fun u=>decide (0<relI pr u w))=X++[u]:=by
    rw[htk,List.filter_append,←hX];simp[d]
   have hps:psub (X.map p64) 0 n=X.map p64:=q53 _ _ (by simp[hn])
   have hxl:n≤X.length:=by omega
   simp only[PP,P1,P2,P3,P4,P5,P6,P7,P8,P9,P10,P11,P12,P13,P14,L1,P15,N1,N2,N3,N4,N5,N6,N7,I1,I2,I3,I4,I5,I6,I7,reduceIte,reduceCtorEq,d,hps,hxl,hwk]
   refine⟨⟨by omega,by omega⟩,q20 (ih (k+1) (g+1) 0 (ver+1) (n+1) ⟨by omega,by rw[hX2];simp[hn]⟩ (by omega)) (by simp only[PW]) (by rw[hX2];simp)⟩
  ·have hX2:(A.take (k+1)).filter (fun u=>decide (0<relI pr u w))=X:=by
    rw[htk,List.filter_append,←hX];simp[d]
   simp only[PP,P1,P2,P3,P4,P5,P6,P7,P8,P9,P10,P11,P12,P13,P14,L1,P15,N1,N2,N3,N4,N5,N6,N7,I1,I2,I3,I4,I5,I6,I7,reduceIte,reduceCtorEq,d,hwk]
   exact q20 (ih (k+1) g v ver n ⟨by omega,by rw[hX2];exact hn⟩ (by omega)) (by simp only[PW]) (by rw[hX2])
 ·have hkA:k=A.length:=by omega
  rw[hkA,List.take_length]at hn ⊢
  obtain⟨X,hX⟩:∃X,X=A.filter fun u=>decide (0<relI pr u w):=⟨_,rfl⟩
  rw[←hX]at hn ⊢
  have hn13:n≤13:=by
   have h1:X.length≤(A.erase w).length:=by
    refine List.Nodup.length_le_of_subset ?_ ?_
    ·rw[hX];exact hnA.filter _
    ·intro y hy
     rw[hX,List.mem_filter,decide_eq_true_eq]at hy
     refine(List.Nodup.mem_erase_iff hnA).2 ⟨fun e=>?_,hy.1⟩
     rw[e,(q18 pr).self]at hy
     exact absurd hy.2 (by omega)
   rw[List.length_erase_of_mem hwA]at h1
   omega
  simp only[PP,P1,P2,P3,P4,P5,P6,P7,P8,P9,P10,P11,P12,P13,P14,L1,P15,N1,N2,N3,N4,N5,N6,N7,I1,I2,I3,I4,I5,I6,I7,reduceIte,reduceCtorEq,c]
  refine SemC_at (pre:=[]) (post:=[]) (cs:=X.map p64) (ver:=v) rfl (by simp only[PP,P1,P2,P3,P4,P5,P6,P7,P8,P9,P10,P11,P12,P13,P14,L1,P15,N1,N2,N3,N4,N5,N6,N7,I1,I2,I3,I4,I5,I6,I7,reduceIte,reduceCtorEq]) rfl rfl (sort13_p T hn.symm hn13 (fun v' l' h1 h2=>⟨by simp only[PP,P1,P2,P3,P4,P5,P6,P7,P8,P9,P10,P11,P12,P13,P14,L1,P15,N1,N2,N3,N4,N5,N6,N7,I1,I2,I3,I4,I5,I6,I7,reduceIte,reduceCtorEq],v',l'.map p64,[],rfl,by simp only[PP,P1,P2,P3,P4,P5,P6,P7,P8,P9,P10,P11,P12,P13,P14,L1,P15,N1,N2,N3,N4,N5,N6,N7,I1,I2,I3,I4,I5,I6,I7,reduceIte,reduceCtorEq],?_⟩))
  have e:=sorted_seF (n:=ow.length) (pr:=pr) (w:=w) (all:=A) hnA hrA (by rw[←hX];exact h1) h2
  have hll:n=l'.length:=by rw[h1.length_eq];exact hn
  have hps:psub (l'.map p64) 0 n=l'.map p64:=q53 _ _ (by rw[List.length_map];omega)
  have hle2:n≤l'.length:=by omega
  simp only[PP,P1,P2,P3,P4,P5,P6,P7,P8,P9,P10,P11,P12,P13,P14,L1,P15,N1,N2,N3,N4,N5,N6,N7,I1,I2,I3,I4,I5,I6,I7,reduceIte,reduceCtorEq,hle2,hps]
  refine⟨_,PvWk.refl _,?_⟩
  rw[hll,e]
  exact hq
end
end Go.Am.Ar

