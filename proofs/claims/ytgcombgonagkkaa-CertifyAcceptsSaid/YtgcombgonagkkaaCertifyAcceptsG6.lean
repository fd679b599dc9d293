/- Contracts: slices.Sort of up to 13 numbers: the partition, and what goes with it. -/
import Derived.Test.YtgcombgonagkkaaCertifyAcceptsG5
import Derived.Test.YtgcombgonagkkaaPmC
import Derived.Test.YtgcombgonagkkaaCertifyAcceptsG0
import Derived.Test.YtgcombgonagkkaaCertifyAcceptsG4
set_option linter.unusedVariables false
set_option linter.unusedSimpArgs false
set_option maxRecDepth 10000
namespace Go.Am.Ar
open Go.Am.PV renaming junk→Zj
open Go.Am renaming pchk→P1,pold→P2,PKNo→P3,ppack→P4,PObj.under→P5,pput→P6,ptset→P7,q60→P8,pev→P9,ofAV→P10,q30→P11,ppad→P12,pfill→P13,q39→P14,AO.effect→P15
open List renaming replicate→L1
open Nat renaming reduceAdd→N1,reduceSub→N2,reduceMul→N3,reduceLT→N4,reduceLeDiff→N5,reduceEqDiff→N6,reduceBEq→N7
open Int renaming reduceToNat→I1,reduceLT→I2,reduceLE→I3,reduceEq→I4,reduceAdd→I5,reduceSub→I6,reduceNeg→I7
structure PtI (l0 l:List Int) (n:Nat) (x:Int) (i j:Nat):Prop where
 pm:l.Perm l0
 ln:l.length=n
 hx:l[0]? =some x
 lo:∀k y,1≤k→k<i→l[k]? =some y→y<x
 hi:∀k y,j<k→l[k]? =some y→x≤y
 i1:1≤i
 jn:j<n
 ij:i≤j+1
theorem PtI.swap {l0 l:List Int} {n:Nat} {x:Int} {i j:Nat} (h:PtI l0 l n x i j) {y z:Int} (h1:l[i]? =some y) (h2:l[j]? =some z) (hy:x≤y) (hz:z<x) (hij:i≤j):PtI l0 ((l.set i z).set j y) n x (i+1) (j-1)∧i+1≤j:=by
 have hne:i≠j:=by rintro rfl;rw[h1]at h2;cases h2;omega
 have g:=swap_get h1 h2
 have i1:=h.i1
 have jn:=h.jn
 refine⟨⟨(swap_perm h1 h2).trans h.pm,by simp[h.ln],?_,fun k w hk1 hk hw=>?_,fun k w hk hw=>?_,by omega,by omega,by omega⟩,by omega⟩
 ·rw[g,if_neg (by omega),if_neg (by omega)];exact h.hx
 ·rw[g]at hw
  rw[if_neg (by omega)]at hw
  split at hw
  ·cases hw;exact hz
  ·exact h.lo k w hk1 (by omega) hw
 ·rw[g]at hw
  split at hw
  ·cases hw;exact hy
  ·rw[if_neg (by omega)]at hw
   exact h.hi k w (by omega) hw
theorem PtI.fin {l0 l:List Int} {n:Nat} {x:Int} {i j:Nat} (h:PtI l0 l n x i j) (hij:j<i) {y:Int} (h2:l[j]? =some y):∃u w,(l.set j x).set 0 y=u++x::w∧u.length=j∧(u++x::w).Perm l0∧(∀z∈u,z≤x)∧∀z∈w,x≤z:=by
 have e:i=j+1:=by have:=h.ij;omega
 have g:=swap_get h2 h.hx
 have gp:=swap_perm h2 h.hx
 obtain⟨L,hL⟩:∃L,L=(l.set j x).set 0 y:=⟨_,rfl⟩
 rw[←hL]at g gp
 have hLl:L.length=n:=by rw[hL];simp[h.ln]
 have jn:=h.jn
 have gj:L[j]? =some x:=by
  rw[g];split
  ·rename_i e0;subst e0;rw[h.hx]at h2;exact h2.symm
  ·rw[if_pos rfl]
 obtain⟨hjl,hjx⟩:=List.getElem?_eq_some_iff.1 gj
 have hsp:L=L.take j++x::L.drop (j+1):=by
  conv=>lhs;rw[←List.take_append_drop j L,List.drop_eq_getElem_cons hjl,hjx]
 refine⟨L.take j,L.drop (j+1),by rw[←hL];exact hsp,by simp;omega,by rw[←hsp];exact gp.trans h.pm,fun z hz=>?_,fun z hz=>?_⟩
 ·obtain⟨k,hk⟩:=List.getElem?_of_mem hz
  have hkj:=q10 hk
  rw[List.length_take]at hkj
  rw[List.getElem?_take,if_pos (by omega),g]at hk
  split at hk
  ·cases hk
   have:=h.lo j _ (by omega) (by omega) h2;omega
  ·rw[if_neg (by omega)]at hk
   have:=h.lo k z (by omega) (by omega) hk;omega
 ·obtain⟨k,hk⟩:=List.getElem?_of_mem hz
  rw[List.getElem?_drop,g]at hk
  rw[if_neg (by omega),if_neg (by omega)]at hk
  exact h.hi _ z (by omega) hk
section
variable {tab:FuncId→Option AF} (T:HasA tab)
include T
set_option maxHeartbeats 2000000 in
theorem partition_p {K:PV→Mem→Prop} {g v n pv:Nat} {l:List Int} {epv:Int} (hn:l.length=n) (hb:n<1000000000000) (h1:1<n) (hpv:pv<n) (he:epv=pv)
  (hk:∀(v':Nat) (u w:List Int) (x:Int) (b:Bool),(u++x::w).Perm l→(∀z∈u,z≤x)→(∀z∈w,x≤z)→K (.tuple [p64 u.length,.bool b]) [.cells g v' ((u++x::w).map p64)]):
  SemC tab 86 [.ref 0 g 1 0 n,p64 0,p64 n,p64 epv] [.cells g v (l.map p64)] K:=by
 subst he
 refine q34 T.h86 ?_
 obtain⟨x,gx⟩:=q9 (xs:=l) (k:=pv) (by omega)
 obtain⟨y,gy⟩:=q9 (xs:=l) (k:=0) (by omega)
 have n0:(0:Int)<n:=by omega
 have p0:(0:Int)≤pv:=by omega
 have p1:(pv:Int)<n:=by omega
 have w1:IntKind.i64.wrap 1=((1:Nat):Int):=rfl
 have wn:IntKind.i64.wrap ((n:Int)-1)=((n-1:Nat):Int):=by rw[q52 (by omega) (by omega)];omega
 have hset:((l.map p64).set 0 (p64 x)).set pv (p64 y)=((l.set 0 x).set pv y).map p64:=by rw[List.map_set,List.map_set]
 have hl0:0<l.length:=by omega
 have hpl:pv<l.length:=by omega
 simp only[af86,PP,P1,P2,P3,P4,P5,P6,P7,P8,P9,P10,P11,P12,P13,P14,L1,P15,N1,N2,N3,N4,N5,N6,N7,I1,I2,I3,I4,I5,I6,I7,reduceIte,reduceCtorEq,gx,gy,n0,p0,p1,w1,wn,hn,hset,hl0,hpl]
 have I0:PtI l ((l.set 0 x).set pv y) n x 1 (n-1):=by
  have g:=swap_get gy gx
  refine⟨swap_perm gy gx,by simp[hn],?_,fun k z a b=>by omega,fun k z a b=>?_,by omega,by omega,by omega⟩
  ·rw[g];split
   ·rename_i e;subst e;rw[gy]at gx;exact gx
   ·rw[if_pos rfl]
  ·have:=q10 b;simp at this;omega
 --the two inner loops,for any list
 have get:∀{l':List Int} {x:Int} {i j:Nat} (k:Nat),PtI l l' n x i j→k<n→∃z,l'[k]? =some z∧(0:Int)≤k∧(k:Int)<n∧k<l'.length:=fun k I hkn=>by
  obtain⟨z,hz⟩:=q9 (xs:=_) (k:=k) (show k<_ by rw[I.ln];exact hkn)
  exact⟨z,hz,by omega,by omega,by rw[I.ln];exact hkn⟩
 refine⟨by omega,by omega,?_⟩
 obtain⟨l1,hl1⟩:∃l1,l1=(l.set 0 x).set pv y:=⟨_,rfl⟩
 rw[←hl1]at I0 ⊢
 have upd:∀{l':List Int} {i j:Nat} {z:Int},PtI l l' n x i j→l'[i]? =some z→z<x→i≤j→PtI l l' n x (i+1) j:=fun {l'} {i} {j} {z} I hz hlt hij=>⟨I.pm,I.ln,I.hx,fun k y a b hy=>by
  by_cases e:k=i
  ·subst e;rw[hz]at hy;cases hy;exact hlt
  ·exact I.lo k y a (by omega) hy,I.hi,by omega,I.jn,by omega⟩
 have dnd:∀{l':List Int} {i j:Nat} {z:Int},PtI l l' n x i j→l'[j]? =some z→x≤z→i≤j→PtI l l' n x i (j-1):=fun {l'} {i} {j} {z} I hz hlt hij=>⟨I.pm,I.ln,I.hx,I.lo,fun k y a hy=>by
  by_cases e:k=j
  ·subst e;rw[hz]at hy;cases hy;exact hlt
  ·exact I.hi k y (by have:=I.i1;omega) hy,I.i1,by have:=I.jn;omega,by have:=I.i1;omega⟩
 refine loop1 (fun(i:Nat)=>PtI l l1 n x i (n-1)∧1≤i) (fun i=>[.ref 0 g 1 0 n,p64 0,Zj,Zj,Zj,Zj,Zj,Zj,Zj,Zj,p64 i,p64 (((n-1):Nat):Int),Zj,Zj,Zj,Zj,Zj,Zj,Zj,Zj,Zj,Zj,Zj,Zj,Zj,Zj,Zj,Zj,Zj,Zj,Zj,Zj,Zj,Zj,Zj,Zj,Zj,Zj,Zj,Zj,Zj,Zj,Zj,Zj,Zj,Zj,Zj,Zj,Zj,Zj,Zj,Zj,Zj,Zj,Zj,Zj,Zj,Zj,Zj,Zj,Zj,Zj,Zj,Zj,Zj,Zj,Zj,Zj,Zj,Zj,Zj,Zj,Zj,Zj,Zj,Zj,Zj,Zj,Zj,Zj,Zj,Zj,Zj,Zj,Zj,Zj,Zj,Zj,Zj,Zj,Zj,Zj,Zj,Zj,Zj,Zj,Zj,Zj,Zj,Zj,Zj,Zj,Zj,Zj,Zj,Zj,Zj,Zj,Zj,Zj,Zj,Zj,Zj,Zj,Zj,Zj,Zj,Zj,Zj,Zj,Zj,Zj,Zj,Zj,Zj,Zj,Zj,Zj,Zj,Zj,Zj,Zj,Zj,Zj,Zj,Zj,Zj,Zj,Zj,Zj,Zj,Zj,Zj,Zj,Zj,Zj,Zj,Zj,Zj,Zj,Zj,Zj,Zj,Zj,Zj,Zj,Zj,Zj,Zj,Zj,Zj,Zj,Zj,Zj,Zj,Zj,Zj,Zj]) (fun _=>[.cells g (v+1+1) (l1.map p64)]) (fun i=>n-i) 1 ⟨I0,Nat.le_refl _⟩ (by simp only[PW]) rfl ?_
 intro i1 ⟨IA1,gA1⟩ ihA
 have jnA:=IA1.jn
 have l0A:=IA1.hx
 have lnA:=IA1.ln
 refine q15 (by kernel_rfl) ?_
 simp only[PP,P1,P2,P3,P4,P5,P6,P7,P8,P9,P10,P11,P12,P13,P14,L1,P15,N1,N2,N3,N4,N5,N6,N7,I1,I2,I3,I4,I5,I6,I7,reduceIte,reduceCtorEq]
 by_cases hc1:i1≤(n-1)∧∃z,l1[i1]? =some z∧z<x
 ·obtain⟨c,z,gz,d⟩:=hc1
  obtain⟨_,_,z0,z1,z2⟩:=get i1 IA1 (by omega)
  have hwi:=q12 (k:=i1) (by show _<1000000000000;omega)
  have c':(i1:Int)≤((n-1):Nat):=by omega
  simp only[PP,P1,P2,P3,P4,P5,P6,P7,P8,P9,P10,P11,P12,P13,P14,L1,P15,N1,N2,N3,N4,N5,N6,N7,I1,I2,I3,I4,I5,I6,I7,reduceIte,reduceCtorEq,c',gz,z0,z1,z2,l0A,n0]
  refine less13_p T ?_
  simp only[PP,P1,P2,P3,P4,P5,P6,P7,P8,P9,P10,P11,P12,P13,P14,L1,P15,N1,N2,N3,N4,N5,N6,N7,I1,I2,I3,I4,I5,I6,I7,reduceIte,reduceCtorEq,d,hwi]
  exact q8 (ihA (i1+1) ⟨upd IA1 gz d c,by omega⟩ (by omega)) (by simp only[PW])
 apply QIf_both
 ·intro c
  obtain⟨z,gz,z0,z1,z2⟩:=get i1 IA1 (by omega)
  have d:¬z<x:=fun q=>hc1 ⟨by omega,z,gz,q⟩
  intro gg
  simp only[PP,P1,P2,P3,P4,P5,P6,P7,P8,P9,P10,P11,P12,P13,P14,L1,P15,N1,N2,N3,N4,N5,N6,N7,I1,I2,I3,I4,I5,I6,I7,reduceIte,reduceCtorEq,c,gz,z0,z1,z2,l0A,n0]
  refine less13_p T ?_
  simp only[PP,P1,P2,P3,P4,P5,P6,P7,P8,P9,P10,P11,P12,P13,P14,L1,P15,N1,N2,N3,N4,N5,N6,N7,I1,I2,I3,I4,I5,I6,I7,reduceIte,reduceCtorEq,d]
  exact q19 (b:=[.ref 0 g 1 0 n,p64 0,Zj,Zj,Zj,Zj,Zj,Zj,Zj,Zj,p64 i1,p64 (((n-1):Nat):Int),Zj,Zj,Zj,Zj,Zj,Zj,Zj,Zj,Zj,Zj,Zj,Zj,Zj,Zj,Zj,Zj,Zj,Zj,Zj,Zj,Zj,Zj,Zj,Zj,Zj,Zj,Zj,Zj,Zj,Zj,Zj,Zj,Zj,Zj,Zj,Zj,Zj,Zj,Zj,Zj,Zj,Zj,Zj,Zj,Zj,Zj,Zj,Zj,Zj,Zj,Zj,Zj,Zj,Zj,Zj,Zj,Zj,Zj,Zj,Zj,Zj,Zj,Zj,Zj,Zj,Zj,Zj,Zj,Zj,Zj,Zj,Zj,Zj,Zj,Zj,Zj,Zj,Zj,Zj,Zj,Zj,Zj,Zj,Zj,Zj,Zj,Zj,Zj,Zj,Zj,Zj,Zj,Zj,Zj,Zj,Zj,Zj,Zj,Zj,Zj,Zj,Zj,Zj,Zj,Zj,Zj,Zj,Zj,Zj,Zj,Zj,Zj,Zj,Zj,Zj,Zj,Zj,Zj,Zj,Zj,Zj,Zj,Zj,Zj,Zj,Zj,Zj,Zj,Zj,Zj,Zj,Zj,Zj,Zj,Zj,Zj,Zj,Zj,Zj,Zj,Zj,Zj,Zj,Zj,Zj,Zj,Zj,Zj,Zj,Zj,Zj,Zj,Zj,Zj,Zj,Zj]) (N:=[.cells g (v+1+1) (l1.map p64)]) gg (by simp only[PW]) rfl
 ·intro c gg
  simp only[PP,P1,P2,P3,P4,P5,P6,P7,P8,P9,P10,P11,P12,P13,P14,L1,P15,N1,N2,N3,N4,N5,N6,N7,I1,I2,I3,I4,I5,I6,I7,reduceIte,reduceCtorEq,c]
  exact q19 (b:=[.ref 0 g 1 0 n,p64 0,Zj,Zj,Zj,Zj,Zj,Zj,Zj,Zj,p64 i1,p64 (((n-1):Nat):Int),Zj,Zj,Zj,Zj,Zj,Zj,Zj,Zj,Zj,Zj,Zj,Zj,Zj,Zj,Zj,Zj,Zj,Zj,Zj,Zj,Zj,Zj,Zj,Zj,Zj,Zj,Zj,Zj,Zj,Zj,Zj,Zj,Zj,Zj,Zj,Zj,Zj,Zj,Zj,Zj,Zj,Zj,Zj,Zj,Zj,Zj,Zj,Zj,Zj,Zj,Zj,Zj,Zj,Zj,Zj,Zj,Zj,Zj,Zj,Zj,Zj,Zj,Zj,Zj,Zj,Zj,Zj,Zj,Zj,Zj,Zj,Zj,Zj,Zj,Zj,Zj,Zj,Zj,Zj,Zj,Zj,Zj,Zj,Zj,Zj,Zj,Zj,Zj,Zj,Zj,Zj,Zj,Zj,Zj,Zj,Zj,Zj,Zj,Zj,Zj,Zj,Zj,Zj,Zj,Zj,Zj,Zj,Zj,Zj,Zj,Zj,Zj,Zj,Zj,Zj,Zj,Zj,Zj,Zj,Zj,Zj,Zj,Zj,Zj,Zj,Zj,Zj,Zj,Zj,Zj,Zj,Zj,Zj,Zj,Zj,Zj,Zj,Zj,Zj,Zj,Zj,Zj,Zj,Zj,Zj,Zj,Zj,Zj,Zj,Zj,Zj,Zj,Zj,Zj,Zj,Zj]) (N:=[.cells g (v+1+1) (l1.map p64)]) gg (by simp only[PW]) rfl
 refine loop1 (fun(j:Nat)=>PtI l l1 n x i1 j∧(i1≤j→i1≤(n-1))∧j≤(n-1)) (fun j=>[.ref 0 g 1 0 n,p64 0,Zj,Zj,Zj,Zj,Zj,Zj,Zj,Zj,p64 i1,p64 j,Zj,Zj,Zj,Zj,Zj,Zj,Zj,Zj,Zj,Zj,Zj,Zj,Zj,Zj,Zj,Zj,Zj,Zj,Zj,Zj,Zj,Zj,Zj,Zj,Zj,Zj,Zj,Zj,Zj,Zj,Zj,Zj,Zj,Zj,Zj,Zj,Zj,Zj,Zj,Zj,Zj,Zj,Zj,Zj,Zj,Zj,Zj,Zj,Zj,Zj,Zj,Zj,Zj,Zj,Zj,Zj,Zj,Zj,Zj,Zj,Zj,Zj,Zj,Zj,Zj,Zj,Zj,Zj,Zj,Zj,Zj,Zj,Zj,Zj,Zj,Zj,Zj,Zj,Zj,Zj,Zj,Zj,Zj,Zj,Zj,Zj,Zj,Zj,Zj,Zj,Zj,Zj,Zj,Zj,Zj,Zj,Zj,Zj,Zj,Zj,Zj,Zj,Zj,Zj,Zj,Zj,Zj,Zj,Zj,Zj,Zj,Zj,Zj,Zj,Zj,Zj,Zj,Zj,Zj,Zj,Zj,Zj,Zj,Zj,Zj,Zj,Zj,Zj,Zj,Zj,Zj,Zj,Zj,Zj,Zj,Zj,Zj,Zj,Zj,Zj,Zj,Zj,Zj,Zj,Zj,Zj,Zj,Zj,Zj,Zj,Zj,Zj,Zj,Zj,Zj,Zj]) (fun _=>[.cells g (v+1+1) (l1.map p64)]) (fun j=>j) ((n-1)) ⟨IA1,fun h=>h,Nat.le_refl _⟩ (by simp only[PW]) rfl ?_
 intro j1 ⟨IB1,hij1,gB1⟩ ihB
 have jnB:=IB1.jn
 have i1B:=IB1.i1
 refine q15 (by kernel_rfl) ?_
 simp only[PP,P1,P2,P3,P4,P5,P6,P7,P8,P9,P10,P11,P12,P13,P14,L1,P15,N1,N2,N3,N4,N5,N6,N7,I1,I2,I3,I4,I5,I6,I7,reduceIte,reduceCtorEq]
 by_cases hd1:i1≤j1∧∃z,l1[j1]? =some z∧¬z<x
 ·obtain⟨c,z,gz,d⟩:=hd1
  obtain⟨_,_,z0,z1,z2⟩:=get j1 IB1 (by omega)
  have hwj:IntKind.i64.wrap ((j1:Int)-1)=((j1-1:Nat):Int):=by rw[q52 (by omega) (by omega)];omega
  have c':(i1:Int)≤(j1:Nat):=by omega
  simp only[PP,P1,P2,P3,P4,P5,P6,P7,P8,P9,P10,P11,P12,P13,P14,L1,P15,N1,N2,N3,N4,N5,N6,N7,I1,I2,I3,I4,I5,I6,I7,reduceIte,reduceCtorEq,c',gz,z0,z1,z2,l0A,n0]
  refine less13_p T ?_
  simp only[PP,P1,P2,P3,P4,P5,P6,P7,P8,P9,P10,P11,P12,P13,P14,L1,P15,N1,N2,N3,N4,N5,N6,N7,I1,I2,I3,I4,I5,I6,I7,reduceIte,reduceCtorEq,d,hwj]
  exact q8 (ihB (j1-1) ⟨dnd IB1 gz (by omega) c,fun h=>hij1 (by omega),by omega⟩ (by omega)) (by simp only[PW])
 refine QIf.intro (fun c=>?_) (fun c=>?_)
 ·obtain⟨z,gz,z0,z1,z2⟩:=get j1 IB1 (by omega)
  have d:z<x:=Int.not_le.1 fun q=>hd1 ⟨by omega,z,gz,by omega⟩
  obtain⟨y,gy,y0,y1,y2⟩:=get i1 IB1 (by omega)
  have dy:x≤y:=Int.not_lt.1 fun q=>hc1 ⟨hij1 (by omega),y,gy,q⟩
  have cn:¬(j1:Int)<i1:=by omega
  obtain⟨SW,hle⟩:=IB1.swap gy gz dy d (by omega)
  simp only[PP,P1,P2,P3,P4,P5,P6,P7,P8,P9,P10,P11,P12,P13,P14,L1,P15,N1,N2,N3,N4,N5,N6,N7,I1,I2,I3,I4,I5,I6,I7,reduceIte,reduceCtorEq,c,gz,z0,z1,z2,l0A,n0]
  refine less13_p T ?_
  have hwi:=q12 (k:=i1) (by show _<1000000000000;omega)
  have hwj:IntKind.i64.wrap ((j1:Int)-1)=((j1-1:Nat):Int):=by rw[q52 (by omega) (by omega)];omega
  have hst:((l1.map p64).set i1 (p64 z)).set j1 (p64 y)=((l1.set i1 z).set j1 y).map p64:=by rw[List.map_set,List.map_set]
  simp only[PP,P1,P2,P3,P4,P5,P6,P7,P8,P9,P10,P11,P12,P13,P14,L1,P15,N1,N2,N3,N4,N5,N6,N7,I1,I2,I3,I4,I5,I6,I7,reduceIte,reduceCtorEq,d,cn,gy,gz,z0,z1,z2,y0,y1,y2,hwi,hwj,lnA]
  refine⟨by omega,by omega,?_⟩
  rw[hst]
  refine loop4 (fun(L2:List Int) (V2 i2 j2:Nat)=>PtI l L2 n x i2 j2) (fun L2 V2 i2 j2=>[.ref 0 g 1 0 n,p64 0,Zj,Zj,Zj,Zj,Zj,Zj,Zj,Zj,p64 i2,p64 j2,Zj,Zj,Zj,Zj,Zj,Zj,Zj,Zj,Zj,Zj,Zj,Zj,Zj,Zj,Zj,Zj,Zj,Zj,Zj,Zj,Zj,Zj,Zj,Zj,Zj,Zj,Zj,Zj,Zj,Zj,Zj,Zj,Zj,Zj,Zj,Zj,Zj,Zj,Zj,Zj,Zj,Zj,Zj,Zj,Zj,Zj,Zj,Zj,Zj,Zj,Zj,Zj,Zj,Zj,Zj,Zj,Zj,Zj,Zj,Zj,Zj,Zj,Zj,Zj,Zj,Zj,Zj,Zj,Zj,Zj,Zj,Zj,Zj,Zj,Zj,Zj,Zj,Zj,Zj,Zj,Zj,Zj,Zj,Zj,Zj,Zj,Zj,Zj,Zj,Zj,Zj,Zj,Zj,Zj,Zj,Zj,Zj,Zj,Zj,Zj,Zj,Zj,Zj,Zj,Zj,Zj,Zj,Zj,Zj,Zj,Zj,Zj,Zj,Zj,Zj,Zj,Zj,Zj,Zj,Zj,Zj,Zj,Zj,Zj,Zj,Zj,Zj,Zj,Zj,Zj,Zj,Zj,Zj,Zj,Zj,Zj,Zj,Zj,Zj,Zj,Zj,Zj,Zj,Zj,Zj,Zj,Zj,Zj,Zj,Zj,Zj,Zj,Zj,Zj,Zj,Zj]) (fun L2 V2 _ _=>[.cells g V2 (L2.map p64)]) (fun _ _ i2 j2=>n+j2-i2) _ _ _ _ SW (by simp only[PW]) rfl ?_
  intro L2 V2 i2 j2 IC ihC
  have jnC:=IC.jn
  have i1C:=IC.i1
  have ijC:=IC.ij
  refine q15 (by kernel_rfl) ?_
  simp only[PP,P1,P2,P3,P4,P5,P6,P7,P8,P9,P10,P11,P12,P13,P14,L1,P15,N1,N2,N3,N4,N5,N6,N7,I1,I2,I3,I4,I5,I6,I7,reduceIte,reduceCtorEq]
  refine loop1 (fun(i:Nat)=>PtI l L2 n x i j2∧i2≤i) (fun i=>[.ref 0 g 1 0 n,p64 0,Zj,Zj,Zj,Zj,Zj,Zj,Zj,Zj,p64 i,p64 ((j2:Nat):Int),Zj,Zj,Zj,Zj,Zj,Zj,Zj,Zj,Zj,Zj,Zj,Zj,Zj,Zj,Zj,Zj,Zj,Zj,Zj,Zj,Zj,Zj,Zj,Zj,Zj,Zj,Zj,Zj,Zj,Zj,Zj,Zj,Zj,Zj,Zj,Zj,Zj,Zj,Zj,Zj,Zj,Zj,Zj,Zj,Zj,Zj,Zj,Zj,Zj,Zj,Zj,Zj,Zj,Zj,Zj,Zj,Zj,Zj,Zj,Zj,Zj,Zj,Zj,Zj,Zj,Zj,Zj,Zj,Zj,Zj,Zj,Zj,Zj,Zj,Zj,Zj,Zj,Zj,Zj,Zj,Zj,Zj,Zj,Zj,Zj,Zj,Zj,Zj,Zj,Zj,Zj,Zj,Zj,Zj,Zj,Zj,Zj,Zj,Zj,Zj,Zj,Zj,Zj,Zj,Zj,Zj,Zj,Zj,Zj,Zj,Zj,Zj,Zj,Zj,Zj,Zj,Zj,Zj,Zj,Zj,Zj,Zj,Zj,Zj,Zj,Zj,Zj,Zj,Zj,Zj,Zj,Zj,Zj,Zj,Zj,Zj,Zj,Zj,Zj,Zj,Zj,Zj,Zj,Zj,Zj,Zj,Zj,Zj,Zj,Zj,Zj,Zj,Zj,Zj,Zj,Zj]) (fun _=>[.cells g (V2) (L2.map p64)]) (fun i=>n-i) i2 ⟨IC,Nat.le_refl _⟩ (by simp only[PW]) rfl ?_
  intro i3 ⟨IA3,gA3⟩ ihA
  have jnA:=IA3.jn
  have l0A:=IA3.hx
  have lnA:=IA3.ln
  refine q15 (by kernel_rfl) ?_
  simp only[PP,P1,P2,P3,P4,P5,P6,P7,P8,P9,P10,P11,P12,P13,P14,L1,P15,N1,N2,N3,N4,N5,N6,N7,I1,I2,I3,I4,I5,I6,I7,reduceIte,reduceCtorEq]
  by_cases hc3:i3≤j2∧∃z,L2[i3]? =some z∧z<x
  ·obtain⟨c,z,gz,d⟩:=hc3
   obtain⟨_,_,z0,z1,z2⟩:=get i3 IA3 (by omega)
   have hwi:=q12 (k:=i3) (by show _<1000000000000;omega)
   have c':(i3:Int)≤(j2:Nat):=by omega
   simp only[PP,P1,P2,P3,P4,P5,P6,P7,P8,P9,P10,P11,P12,P13,P14,L1,P15,N1,N2,N3,N4,N5,N6,N7,I1,I2,I3,I4,I5,I6,I7,reduceIte,reduceCtorEq,c',gz,z0,z1,z2,l0A,n0]
   refine less13_p T ?_
   simp only[PP,P1,P2,P3,P4,P5,P6,P7,P8,P9,P10,P11,P12,P13,P14,L1,P15,N1,N2,N3,N4,N5,N6,N7,I1,I2,I3,I4,I5,I6,I7,reduceIte,reduceCtorEq,d,hwi]
   exact q8 (ihA (i3+1) ⟨upd IA3 gz d c,by omega⟩ (by omega)) (by simp only[PW])
  apply QIf_both
  ·intro c
   obtain⟨z,gz,z0,z1,z2⟩:=get i3 IA3 (by omega)
   have d:¬z<x:=fun q=>hc3 ⟨by omega,z,gz,q⟩
   intro gg
   simp only[PP,P1,P2,P3,P4,P5,P6,P7,P8,P9,P10,P11,P12,P13,P14,L1,P15,N1,N2,N3,N4,N5,N6,N7,I1,I2,I3,I4,I5,I6,I7,reduceIte,reduceCtorEq,c,gz,z0,z1,z2,l0A,n0]
   refine less13_p T ?_
   simp only[PP,P1,P2,P3,P4,P5,P6,P7,P8,P9,P10,P11,P12,P13,P14,L1,P15,N1,N2,N3,N4,N5,N6,N7,I1,I2,I3,I4,I5,I6,I7,reduceIte,reduceCtorEq,d]
   exact q19 (b:=[.ref 0 g 1 0 n,p64 0,Zj,Zj,Zj,Zj,Zj,Zj,Zj,Zj,p64 i3,p64 ((j2:Nat):Int),Zj,Zj,Zj,Zj,Zj,Zj,Zj,Zj,Zj,Zj,Zj,Zj,Zj,Zj,Zj,Zj,Zj,Zj,Zj,Zj,Zj,Zj,Zj,Zj,Zj,Zj,Zj,Zj,Zj,Zj,Zj,Zj,Zj,Zj,Zj,Zj,Zj,Zj,Zj,Zj,Zj,Zj,Zj,Zj,Zj,Zj,Zj,Zj,Zj,Zj,Zj,Zj,Zj,Zj,Zj,Zj,Zj,Zj,Zj,Zj,Zj,Zj,Zj,Zj,Zj,Zj,Zj,Zj,Zj,Zj,Zj,Zj,Zj,Zj,Zj,Zj,Zj,Zj,Zj,Zj,Zj,Zj,Zj,Zj,Zj,Zj,Zj,Zj,Zj,Zj,Zj,Zj,Zj,Zj,Zj,Zj,Zj,Zj,Zj,Zj,Zj,Zj,Zj,Zj,Zj,Zj,Zj,Zj,Zj,Zj,Zj,Zj,Zj,Zj,Zj,Zj,Zj,Zj,Zj,Zj,Zj,Zj,Zj,Zj,Zj,Zj,Zj,Zj,Zj,Zj,Zj,Zj,Zj,Zj,Zj,Zj,Zj,Zj,Zj,Zj,Zj,Zj,Zj,Zj,Zj,Zj,Zj,Zj,Zj,Zj,Zj,Zj,Zj,Zj,Zj,Zj]) (N:=[.cells g (V2) (L2.map p64)]) gg (by simp only[PW]) rfl
  ·intro c gg
   simp only[PP,P1,P2,P3,P4,P5,P6,P7,P8,P9,P10,P11,P12,P13,P14,L1,P15,N1,N2,N3,N4,N5,N6,N7,I1,I2,I3,I4,I5,I6,I7,reduceIte,reduceCtorEq,c]
   exact q19 (b:=[.ref 0 g 1 0 n,p64 0,Zj,Zj,Zj,Zj,Zj,Zj,Zj,Zj,p64 i3,p64 ((j2:Nat):Int),Zj,Zj,Zj,Zj,Zj,Zj,Zj,Zj,Zj,Zj,Zj,Zj,Zj,Zj,Zj,Zj,Zj,Zj,Zj,Zj,Zj,Zj,Zj,Zj,Zj,Zj,Zj,Zj,Zj,Zj,Zj,Zj,Zj,Zj,Zj,Zj,Zj,Zj,Zj,Zj,Zj,Zj,Zj,Zj,Zj,Zj,Zj,Zj,Zj,Zj,Zj,Zj,Zj,Zj,Zj,Zj,Zj,Zj,Zj,Zj,Zj,Zj,Zj,Zj,Zj,Zj,Zj,Zj,Zj,Zj,Zj,Zj,Zj,Zj,Zj,Zj,Zj,Zj,Zj,Zj,Zj,Zj,Zj,Zj,Zj,Zj,Zj,Zj,Zj,Zj,Zj,Zj,Zj,Zj,Zj,Zj,Zj,Zj,Zj,Zj,Zj,Zj,Zj,Zj,Zj,Zj,Zj,Zj,Zj,Zj,Zj,Zj,Zj,Zj,Zj,Zj,Zj,Zj,Zj,Zj,Zj,Zj,Zj,Zj,Zj,Zj,Zj,Zj,Zj,Zj,Zj,Zj,Zj,Zj,Zj,Zj,Zj,Zj,Zj,Zj,Zj,Zj,Zj,Zj,Zj,Zj,Zj,Zj,Zj,Zj,Zj,Zj,Zj,Zj,Zj,Zj]) (N:=[.cells g (V2) (L2.map p64)]) gg (by simp only[PW]) rfl
  refine loop1 (fun(j:Nat)=>PtI l L2 n x i3 j∧(i3≤j→i3≤j2)∧j≤j2) (fun j=>[.ref 0 g 1 0 n,p64 0,Zj,Zj,Zj,Zj,Zj,Zj,Zj,Zj,p64 i3,p64 j,Zj,Zj,Zj,Zj,Zj,Zj,Zj,Zj,Zj,Zj,Zj,Zj,Zj,Zj,Zj,Zj,Zj,Zj,Zj,Zj,Zj,Zj,Zj,Zj,Zj,Zj,Zj,Zj,Zj,Zj,Zj,Zj,Zj,Zj,Zj,Zj,Zj,Zj,Zj,Zj,Zj,Zj,Zj,Zj,Zj,Zj,Zj,Zj,Zj,Zj,Zj,Zj,Zj,Zj,Zj,Zj,Zj,Zj,Zj,Zj,Zj,Zj,Zj,Zj,Zj,Zj,Zj,Zj,Zj,Zj,Zj,Zj,Zj,Zj,Zj,Zj,Zj,Zj,Zj,Zj,Zj,Zj,Zj,Zj,Zj,Zj,Zj,Zj,Zj,Zj,Zj,Zj,Zj,Zj,Zj,Zj,Zj,Zj,Zj,Zj,Zj,Zj,Zj,Zj,Zj,Zj,Zj,Zj,Zj,Zj,Zj,Zj,Zj,Zj,Zj,Zj,Zj,Zj,Zj,Zj,Zj,Zj,Zj,Zj,Zj,Zj,Zj,Zj,Zj,Zj,Zj,Zj,Zj,Zj,Zj,Zj,Zj,Zj,Zj,Zj,Zj,Zj,Zj,Zj,Zj,Zj,Zj,Zj,Zj,Zj,Zj,Zj,Zj,Zj,Zj,Zj]) (fun _=>[.cells g (V2) (L2.map p64)]) (fun j=>j) (j2) ⟨IA3,fun h=>h,Nat.le_refl _⟩ (by simp only[PW]) rfl ?_
  intro j3 ⟨IB3,hij3,gB3⟩ ihB
  have jnB:=IB3.jn
  have i1B:=IB3.i1
  refine q15 (by kernel_rfl) ?_
  simp only[PP,P1,P2,P3,P4,P5,P6,P7,P8,P9,P10,P11,P12,P13,P14,L1,P15,N1,N2,N3,N4,N5,N6,N7,I1,I2,I3,I4,I5,I6,I7,reduceIte,reduceCtorEq]
  by_cases hd3:i3≤j3∧∃z,L2[j3]? =some z∧¬z<x
  ·obtain⟨c,z,gz,d⟩:=hd3
   obtain⟨_,_,z0,z1,z2⟩:=get j3 IB3 (by omega)
   have hwj:IntKind.i64.wrap ((j3:Int)-1)=((j3-1:Nat):Int):=by rw[q52 (by omega) (by omega)];omega
   have c':(i3:Int)≤(j3:Nat):=by omega
   simp only[PP,P1,P2,P3,P4,P5,P6,P7,P8,P9,P10,P11,P12,P13,P14,L1,P15,N1,N2,N3,N4,N5,N6,N7,I1,I2,I3,I4,I5,I6,I7,reduceIte,reduceCtorEq,c',gz,z0,z1,z2,l0A,n0]
   refine less13_p T ?_
   simp only[PP,P1,P2,P3,P4,P5,P6,P7,P8,P9,P10,P11,P12,P13,P14,L1,P15,N1,N2,N3,N4,N5,N6,N7,I1,I2,I3,I4,I5,I6,I7,reduceIte,reduceCtorEq,d,hwj]
   exact q8 (ihB (j3-1) ⟨dnd IB3 gz (by omega) c,fun h=>hij3 (by omega),by omega⟩ (by omega)) (by simp only[PW])
  refine QIf.intro (fun c=>?_) (fun c=>?_)
  ·obtain⟨z,gz,z0,z1,z2⟩:=get j3 IB3 (by omega)
   have d:z<x:=Int.not_le.1 fun q=>hd3 ⟨by omega,z,gz,by omega⟩
   obtain⟨y,gy,y0,y1,y2⟩:=get i3 IB3 (by omega)
   have dy:x≤y:=Int.not_lt.1 fun q=>hc3 ⟨hij3 (by omega),y,gy,q⟩
   have cn:¬(j3:Int)<i3:=by omega
   obtain⟨SW,hle⟩:=IB3.swap gy gz dy d (by omega)
   simp only[PP,P1,P2,P3,P4,P5,P6,P7,P8,P9,P10,P11,P12,P13,P14,L1,P15,N1,N2,N3,N4,N5,N6,N7,I1,I2,I3,I4,I5,I6,I7,reduceIte,reduceCtorEq,c,gz,z0,z1,z2,l0A,n0]
   refine less13_p T ?_
   have hwi:=q12 (k:=i3) (by show _<1000000000000;omega)
   have hwj:IntKind.i64.wrap ((j3:Int)-1)=((j3-1:Nat):Int):=by rw[q52 (by omega) (by omega)];omega
   have hst:((L2.map p64).set i3 (p64 z)).set j3 (p64 y)=((L2.set i3 z).set j3 y).map p64:=by rw[List.map_set,List.map_set]
   simp only[PP,P1,P2,P3,P4,P5,P6,P7,P8,P9,P10,P11,P12,P13,P14,L1,P15,N1,N2,N3,N4,N5,N6,N7,I1,I2,I3,I4,I5,I6,I7,reduceIte,reduceCtorEq,d,cn,gy,gz,z0,z1,z2,y0,y1,y2,hwi,hwj,lnA]
   refine⟨by omega,by omega,?_⟩
   rw[hst]
   exact q19 (ihC _ _ _ _ SW (by have:=IB3.ij;have:=hij3 (by omega);omega)) (by simp only[PW]) rfl
  ·have hji:j3<i3:=by omega
   have c2:(j3:Int)<i3:=by omega
   obtain⟨z,gz,z0,z1,z2⟩:=get j3 IB3 (by omega)
   obtain⟨u,w,e1,e2,e3,e4,e5⟩:=IB3.fin hji gz
   have hst:((L2.map p64).set j3 (p64 x)).set 0 (p64 z)=(u++x::w).map p64:=by rw[←e1,List.map_set,List.map_set]
   simp only[PP,P1,P2,P3,P4,P5,P6,P7,P8,P9,P10,P11,P12,P13,P14,L1,P15,N1,N2,N3,N4,N5,N6,N7,I1,I2,I3,I4,I5,I6,I7,reduceIte,reduceCtorEq,c,c2,gz,z0,z1,z2,l0A,n0,lnA]
   refine⟨by omega,by omega,?_⟩
   rw[hst,←e2]
   exact hk _ u w x _ e3 e4 e5
 ·have hji:j1<i1:=by omega
  have c2:(j1:Int)<i1:=by omega
  obtain⟨z,gz,z0,z1,z2⟩:=get j1 IB1 (by omega)
  obtain⟨u,w,e1,e2,e3,e4,e5⟩:=IB1.fin hji gz
  have hst:((l1.map p64).set j1 (p64 x)).set 0 (p64 z)=(u++x::w).map p64:=by rw[←e1,List.map_set,List.map_set]
  simp only[PP,P1,P2,P3,P4,P5,P6,P7,P8,P9,P10,P11,P12,P13,P14,L1,P15,N1,N2,N3,N4,N5,N6,N7,I1,I2,I3,I4,I5,I6,I7,reduceIte,reduceCtorEq,c,c2,gz,z0,z1,z2,l0A,n0,lnA]
  refine⟨by omega,by omega,?_⟩
  rw[hst,←e2]
  exact hk _ u w x _ e3 e4 e5
end
theorem wrap8 {x:Nat} (h:x<256):IntKind.u8.wrap (x:Int)=x:=by
 simp only[IntKind.wrap,IntKind.signed,IntKind.bits]
 simp
 omega
section
variable {tab:FuncId→Option AF} (T:HasA tab)
include T
end
theorem wrapU13 {k:Nat} (h:k<4000000000000):IntKind.u64.wrap (k:Int)=(k:Int):=by
 simp only[IntKind.wrap,IntKind.signed,IntKind.bits]
 simp
 omega
theorem ZSome_byte {s:ByteArray} {x:Nat} (h:x<s.size) {k:UInt8→Prop} {t:KTag k} (hk:∀c,k c):ZSome s[x]? k t:=by
 rw[getElem?_pos s x h,ZSome_some];exact hk _
section
variable {tab:FuncId→Option AF} (T:HasA tab)
include T
theorem len64_p {M:Mem} {K:PV→Mem→Prop} {x:Nat} (hx:x<256) (hk:∀r:Int,K (p64 r) M):SemC tab 88 [.int .u64 x] M K:=by
 refine q11 T.h88 (by simp only[PP,P1,P2,P3,P4,P5,P6,P7,P8,P9,P10,P11,P12,P13,P14,L1,P15,N1,N2,N3,N4,N5,N6,N7,I1,I2,I3,I4,I5,I6,I7,reduceIte,reduceCtorEq]) ?_
 have c1:¬(4294967296:Int)≤x:=by omega
 have c2:¬(65536:Int)≤x:=by omega
 have c3:¬(256:Int)≤x:=by omega
 have w8:=wrap8 hx
 have x0:(0:Int)≤x:=by omega
 simp only[af88,PP,P1,P2,P3,P4,P5,P6,P7,P8,P9,P10,P11,P12,P13,P14,L1,P15,N1,N2,N3,N4,N5,N6,N7,I1,I2,I3,I4,I5,I6,I7,reduceIte,reduceCtorEq,c1,c2,c3,w8,PS_indexStr,ZStr_str,x0]
 refine ZSome_byte hx (fun c=>?_)
 simp only[PP,P1,P2,P3,P4,P5,P6,P7,P8,P9,P10,P11,P12,P13,P14,L1,P15,N1,N2,N3,N4,N5,N6,N7,I1,I2,I3,I4,I5,I6,I7,reduceIte,reduceCtorEq]
 exact hk _
theorem len_p {M:Mem} {K:PV→Mem→Prop} {x:Nat} (hx:x<256) (hk:∀r:Int,K (p64 r) M):SemC tab 77 [.int .u64 x] M K:=by
 refine q11 T.h77 (by simp only[PP,P1,P2,P3,P4,P5,P6,P7,P8,P9,P10,P11,P12,P13,P14,L1,P15,N1,N2,N3,N4,N5,N6,N7,I1,I2,I3,I4,I5,I6,I7,reduceIte,reduceCtorEq]) ?_
 simp only[af77,PP,P1,P2,P3,P4,P5,P6,P7,P8,P9,P10,P11,P12,P13,P14,L1,P15,N1,N2,N3,N4,N5,N6,N7,I1,I2,I3,I4,I5,I6,I7,reduceIte,reduceCtorEq]
 refine len64_p T hx (fun r=>?_)
 simp only[PP,P1,P2,P3,P4,P5,P6,P7,P8,P9,P10,P11,P12,P13,P14,L1,P15,N1,N2,N3,N4,N5,N6,N7,I1,I2,I3,I4,I5,I6,I7,reduceIte,reduceCtorEq]
 exact hk r
theorem pdq_p {K:PV→Mem→Prop} {g v n:Nat} {l:List Int} {lim:Int} (hn:l.length=n) (hb:n≤12) (hk:∀(v':Nat) (l':List Int),l'.Perm l→l'.Pairwise (·≤·)→K (.tuple []) [.cells g v' (l'.map p64)]):
  SemC tab 76 [.ref 0 g 1 0 n,p64 0,p64 n,p64 lim] [.cells g v (l.map p64)] K:=by
 refine q34 T.h76 ?_
 simp only[af76,PP,P1,P2,P3,P4,P5,P6,P7,P8,P9,P10,P11,P12,P13,P14,L1,P15,N1,N2,N3,N4,N5,N6,N7,I1,I2,I3,I4,I5,I6,I7,reduceIte,reduceCtorEq]
 refine loop1 (fun(k:Nat)=>True) (fun k=>[.ref 0 g 1 0 n,p64 0,p64 n,p64 lim,Zj,Zj,Zj,Zj,.bool true,.bool true,Zj,Zj,Zj,Zj,Zj,Zj,Zj,Zj,Zj,Zj,Zj,Zj,Zj,Zj,Zj,Zj,Zj,Zj,Zj,Zj,Zj,Zj,Zj,Zj,Zj,Zj,Zj,Zj,Zj,Zj,Zj,Zj,Zj,Zj,Zj,Zj,Zj,Zj,Zj,Zj,Zj,Zj,Zj,Zj,Zj,Zj,Zj,Zj,Zj,Zj,Zj,Zj,Zj,Zj,Zj,Zj,Zj,Zj,Zj,Zj,Zj,Zj,Zj,Zj,Zj,Zj,Zj,Zj,Zj,Zj,Zj,Zj,Zj,Zj,Zj,Zj,Zj,Zj,Zj,Zj,Zj,Zj,Zj,Zj,Zj,Zj,Zj,Zj,Zj,Zj,Zj,Zj,Zj,Zj,Zj,Zj,Zj,Zj,Zj,Zj,Zj,Zj,Zj,Zj,Zj,Zj,Zj,Zj,Zj,Zj,Zj,Zj,Zj,Zj,Zj,Zj,Zj,Zj,Zj,Zj,Zj,Zj,Zj,Zj]) (fun k=>[.cells g v (l.map p64)]) (fun k=>0) 0 trivial (by simp only[PW]) rfl ?_
 intro k _ ih
 have w0:IntKind.i64.wrap ((n:Int)-0)=n:=by rw[q52 (by omega) (by omega)];omega
 have c:(n:Int)≤12:=by omega
 refine q15 (by kernel_rfl) ?_
 simp only[PP,P1,P2,P3,P4,P5,P6,P7,P8,P9,P10,P11,P12,P13,P14,L1,P15,N1,N2,N3,N4,N5,N6,N7,I1,I2,I3,I4,I5,I6,I7,reduceIte,reduceCtorEq,w0,c]
 refine isort_p T hn (by omega) (fun v' l' h1 h2=>?_)
 simp only[PP,P1,P2,P3,P4,P5,P6,P7,P8,P9,P10,P11,P12,P13,P14,L1,P15,N1,N2,N3,N4,N5,N6,N7,I1,I2,I3,I4,I5,I6,I7,reduceIte,reduceCtorEq]
 exact hk v' l' h1 h2
theorem sort_p {K:PV→Mem→Prop} {g v n:Nat} {l:List Int} (hn:l.length=n) (hb:n≤12) (hk:∀(v':Nat) (l':List Int),l'.Perm l→l'.Pairwise (·≤·)→K (.tuple []) [.cells g v' (l'.map p64)]):
  SemC tab 73 [.ref 0 g 1 0 n] [.cells g v (l.map p64)] K:=by
 refine q34 T.h73 ?_
 have w:IntKind.u64.wrap n=n:=wrapU13 (by omega)
 simp only[af73,PP,P1,P2,P3,P4,P5,P6,P7,P8,P9,P10,P11,P12,P13,P14,L1,P15,N1,N2,N3,N4,N5,N6,N7,I1,I2,I3,I4,I5,I6,I7,reduceIte,reduceCtorEq,w]
 refine len_p T (by omega) (fun r=>?_)
 simp only[PP,P1,P2,P3,P4,P5,P6,P7,P8,P9,P10,P11,P12,P13,P14,L1,P15,N1,N2,N3,N4,N5,N6,N7,I1,I2,I3,I4,I5,I6,I7,reduceIte,reduceCtorEq]
 refine pdq_p T hn hb (fun v' l' h1 h2=>?_)
 simp only[PP,P1,P2,P3,P4,P5,P6,P7,P8,P9,P10,P11,P12,P13,P14,L1,P15,N1,N2,N3,N4,N5,N6,N7,I1,I2,I3,I4,I5,I6,I7,reduceIte,reduceCtorEq]
 exact hk v' l' h1 h2
end
section
variable {tab:FuncId→Option AF} (T:HasA tab)
include T
theorem len64a_p {M:Mem} {K:PV→Mem→Prop} (hk:K (p64 4) M):SemC tab 88 [.int .u64 13] M K:=by
 refine q11 T.h88 (by simp only[PP,P1,P2,P3,P4,P5,P6,P7,P8,P9,P10,P11,P12,P13,P14,L1,P15,N1,N2,N3,N4,N5,N6,N7,I1,I2,I3,I4,I5,I6,I7,reduceIte,reduceCtorEq]) ?_
 have w8:IntKind.u8.wrap 13=13:=by decide
 simp only[af88,PP,P1,P2,P3,P4,P5,P6,P7,P8,P9,P10,P11,P12,P13,P14,L1,P15,N1,N2,N3,N4,N5,N6,N7,I1,I2,I3,I4,I5,I6,I7,reduceIte,reduceCtorEq,w8,PS_indexStr,ZStr_str]
 refine(congrArg (fun o=>ZSome o _ _) (show _=some (4:UInt8) by rfl)).mpr ?_
 have w4:((4:UInt8).toNat:Int)=4:=by decide
 have w5:IntKind.i64.wrap 4=4:=by decide
 simp only[PP,P1,P2,P3,P4,P5,P6,P7,P8,P9,P10,P11,P12,P13,P14,L1,P15,N1,N2,N3,N4,N5,N6,N7,I1,I2,I3,I4,I5,I6,I7,reduceIte,reduceCtorEq,w4,w5]
 exact hk
theorem lenA_p {M:Mem} {K:PV→Mem→Prop} (hk:K (p64 4) M):SemC tab 77 [.int .u64 13] M K:=by
 refine q11 T.h77 (by simp only[PP,P1,P2,P3,P4,P5,P6,P7,P8,P9,P10,P11,P12,P13,P14,L1,P15,N1,N2,N3,N4,N5,N6,N7,I1,I2,I3,I4,I5,I6,I7,reduceIte,reduceCtorEq]) ?_
 simp only[af77,PP,P1,P2,P3,P4,P5,P6,P7,P8,P9,P10,P11,P12,P13,P14,L1,P15,N1,N2,N3,N4,N5,N6,N7,I1,I2,I3,I4,I5,I6,I7,reduceIte,reduceCtorEq]
 refine len64a_p T ?_
 simp only[PP,P1,P2,P3,P4,P5,P6,P7,P8,P9,P10,P11,P12,P13,P14,L1,P15,N1,N2,N3,N4,N5,N6,N7,I1,I2,I3,I4,I5,I6,I7,reduceIte,reduceCtorEq]
 exact hk
theorem pdqR_p {K:PV→Mem→Prop} {g v n:Nat} {p s q:List Int} {ea eb lim:Int} (hn:p.length+s.length+q.length=n) (hb:n<1000000000000) (h12:s.length≤12) (ha:ea=p.length) (hbb:eb=((p.length+s.length:Nat):Int)) (hk:∀(v':Nat) (s':List Int),s'.Perm s→s'.Pairwise (·≤·)→K (.tuple []) [.cells g v' ((cat3 p s' q).map p64)]):
  SemC tab 76 [.ref 0 g 1 0 n,p64 ea,p64 eb,p64 lim] [.cells g v ((cat3 p s q).map p64)] K:=by
 refine q34 T.h76 ?_
 simp only[af76,PP,P1,P2,P3,P4,P5,P6,P7,P8,P9,P10,P11,P12,P13,P14,L1,P15,N1,N2,N3,N4,N5,N6,N7,I1,I2,I3,I4,I5,I6,I7,reduceIte,reduceCtorEq]
 refine loop1 (fun(k:Nat)=>True) (fun k=>[.ref 0 g 1 0 n,p64 ea,p64 eb,p64 lim,Zj,Zj,Zj,Zj,.bool true,.bool true,Zj,Zj,Zj,Zj,Zj,Zj,Zj,Zj,Zj,Zj,Zj,Zj,Zj,Zj,Zj,Zj,Zj,Zj,Zj,Zj,Zj,Zj,Zj,Zj,Zj,Zj,Zj,Zj,Zj,Zj,Zj,Zj,Zj,Zj,Zj,Zj,Zj,Zj,Zj,Zj,Zj,Zj,Zj,Zj,Zj,Zj,Zj,Zj,Zj,Zj,Zj,Zj,Zj,Zj,Zj,Zj,Zj,Zj,Zj,Zj,Zj,Zj,Zj,Zj,Zj,Zj,Zj,Zj,Zj,Zj,Zj,Zj,Zj,Zj,Zj,Zj,Zj,Zj,Zj,Zj,Zj,Zj,Zj,Zj,Zj,Zj,Zj,Zj,Zj,Zj,Zj,Zj,Zj,Zj,Zj,Zj,Zj,Zj,Zj,Zj,Zj,Zj,Zj,Zj,Zj,Zj,Zj,Zj,Zj,Zj,Zj,Zj,Zj,Zj,Zj,Zj,Zj,Zj,Zj,Zj,Zj,Zj,Zj,Zj]) (fun k=>[.cells g v ((cat3 p s q).map p64)]) (fun k=>0) 0 trivial (by simp only[PW]) rfl ?_
 intro k _ ih
 have w0:IntKind.i64.wrap (eb-ea)=(s.length:Int):=by rw[q52 (by omega) (by omega)];omega
 have c:(s.length:Int)≤12:=by omega
 refine q15 (by kernel_rfl) ?_
 simp only[PP,P1,P2,P3,P4,P5,P6,P7,P8,P9,P10,P11,P12,P13,P14,L1,P15,N1,N2,N3,N4,N5,N6,N7,I1,I2,I3,I4,I5,I6,I7,reduceIte,reduceCtorEq,w0,c]
 refine isortR_p T hn hb ha hbb (fun v' l' h1 h2=>?_)
 simp only[PP,P1,P2,P3,P4,P5,P6,P7,P8,P9,P10,P11,P12,P13,P14,L1,P15,N1,N2,N3,N4,N5,N6,N7,I1,I2,I3,I4,I5,I6,I7,reduceIte,reduceCtorEq]
 exact hk v' l' h1 h2
set_option maxHeartbeats 1000000 in
theorem pdq13_p {K:PV→Mem→Prop} {g v:Nat} {l:List Int} (hn:l.length=13) (hk:∀(v':Nat) (l':List Int),l'.Perm l→l'.Pairwise (·≤·)→K (.tuple []) [.cells g v' (l'.map p64)]):
  SemC tab 76 [.ref 0 g 1 0 13,p64 0,p64 13,p64 4] [.cells g v (l.map p64)] K:=by
 refine q34 T.h76 ?_
 simp only[af76,PP,P1,P2,P3,P4,P5,P6,P7,P8,P9,P10,P11,P12,P13,P14,L1,P15,N1,N2,N3,N4,N5,N6,N7,I1,I2,I3,I4,I5,I6,I7,reduceIte,reduceCtorEq]
 refine loop6 (fun(v:Nat) (p s q:List Int) (b8 b9:Bool)=>(p++(s++q)).Perm l∧(s.length≤12∨(p=[]∧q=[]∧b8=true∧b9=true))∧p.Pairwise (·≤·)∧q.Pairwise (·≤·)∧(∀x∈p,∀y∈s,x≤y)∧(∀x∈s,∀y∈q,x≤y)∧∀x∈p,∀y∈q,x≤y)
  (fun v p s q b8 b9=>[.ref 0 g 1 0 13,p64 p.length,p64 ((p.length+s.length:Nat):Int),p64 4,Zj,Zj,Zj,Zj,.bool b8,.bool b9,Zj,Zj,Zj,Zj,Zj,Zj,Zj,Zj,Zj,Zj,Zj,Zj,Zj,Zj,Zj,Zj,Zj,Zj,Zj,Zj,Zj,Zj,Zj,Zj,Zj,Zj,Zj,Zj,Zj,Zj,Zj,Zj,Zj,Zj,Zj,Zj,Zj,Zj,Zj,Zj,Zj,Zj,Zj,Zj,Zj,Zj,Zj,Zj,Zj,Zj,Zj,Zj,Zj,Zj,Zj,Zj,Zj,Zj,Zj,Zj,Zj,Zj,Zj,Zj,Zj,Zj,Zj,Zj,Zj,Zj,Zj,Zj,Zj,Zj,Zj,Zj,Zj,Zj,Zj,Zj,Zj,Zj,Zj,Zj,Zj,Zj,Zj,Zj,Zj,Zj,Zj,Zj,Zj,Zj,Zj,Zj,Zj,Zj,Zj,Zj,Zj,Zj,Zj,Zj,Zj,Zj,Zj,Zj,Zj,Zj,Zj,Zj,Zj,Zj,Zj,Zj,Zj,Zj,Zj,Zj,Zj,Zj,Zj,Zj]) (fun v p s q _ _=>[.cells g v ((cat3 p s q).map p64)]) (fun _ _ s _ _ _=>s.length) v [] l [] true true
  ⟨by simp,.inr ⟨rfl,rfl,rfl,rfl⟩,.nil,.nil,by simp,by simp,by simp⟩ (by simp only[PW,hn]) (by simp[cat3]) ?_
 intro v p s q b8 b9 ⟨hp,hs,h1,h2,h3,h4,h5⟩ ih
 have hl:=hp.length_eq
 simp only[List.length_append,hn]at hl
 have w0:IntKind.i64.wrap (((p.length+s.length:Nat):Int)-p.length)=(s.length:Int):=by rw[q52 (by omega) (by omega)];omega
 refine q15 (by kernel_rfl) ?_
 simp only[PP,P1,P2,P3,P4,P5,P6,P7,P8,P9,P10,P11,P12,P13,P14,L1,P15,N1,N2,N3,N4,N5,N6,N7,I1,I2,I3,I4,I5,I6,I7,reduceIte,reduceCtorEq,w0]
 refine QIf.intro (fun c=>?_) (fun c=>?_)
 ·simp only[PP,P1,P2,P3,P4,P5,P6,P7,P8,P9,P10,P11,P12,P13,P14,L1,P15,N1,N2,N3,N4,N5,N6,N7,I1,I2,I3,I4,I5,I6,I7,reduceIte,reduceCtorEq,c]
  refine isortR_p T (by omega) (by omega) rfl rfl (fun v' s' g1 g2=>?_)
  simp only[PP,P1,P2,P3,P4,P5,P6,P7,P8,P9,P10,P11,P12,P13,P14,L1,P15,N1,N2,N3,N4,N5,N6,N7,I1,I2,I3,I4,I5,I6,I7,reduceIte,reduceCtorEq]
  refine hk v' (cat3 p s' q) ?_ ?_
  ·unfold cat3
   exact(List.Perm.append_left p (List.Perm.append_right q g1)).trans hp
  ·unfold cat3
   rw[List.pairwise_append,List.pairwise_append]
   refine⟨h1,⟨g2,h2,fun x hx y hy=>h4 x (g1.mem_iff.1 hx) y hy⟩,fun x hx y hy=>?_⟩
   rcases List.mem_append.1 hy with hy | hy
   ·exact h3 x hx y (g1.mem_iff.1 hy)
   ·exact h5 x hx y hy
 rcases hs with hs | ⟨rfl,rfl,rfl,rfl⟩
 ·exact absurd (show(s.length:Int)≤12 by omega) c
 have hs13:s.length=13:=by simp at hl;omega
 have e0:cat3 [] s []=s:=by simp[cat3]
 have w9:∀a:Int,IntKind.i64.wrap (a-0)=IntKind.i64.wrap a:=fun a=>by rw[Int.sub_zero]
 simp only[PP,P1,P2,P3,P4,P5,P6,P7,P8,P9,P10,P11,P12,P13,P14,L1,P15,N1,N2,N3,N4,N5,N6,N7,I1,I2,I3,I4,I5,I6,I7,reduceIte,reduceCtorEq,c,e0,hs13]
 refine SemC_bor (args2:=[slI true false .i64 s,p64 0,p64 13]) (.ints rfl hs13 (.same (by simp only[PP,P1,P2,P3,P4,P5,P6,P7,P8,P9,P10,P11,P12,P13,P14,L1,P15,N1,N2,N3,N4,N5,N6,N7,I1,I2,I3,I4,I5,I6,I7,reduceIte,reduceCtorEq]) (.same (by simp only[PP,P1,P2,P3,P4,P5,P6,P7,P8,P9,P10,P11,P12,P13,P14,L1,P15,N1,N2,N3,N4,N5,N6,N7,I1,I2,I3,I4,I5,I6,I7,reduceIte,reduceCtorEq]) .nil))) (pivot_p T hs13 (fun a h a0 a1 hh=>⟨rfl,?_⟩))
 have h2':¬h=2:=by omega
 simp only[PP,P1,P2,P3,P4,P5,P6,P7,P8,P9,P10,P11,P12,P13,P14,L1,P15,N1,N2,N3,N4,N5,N6,N7,I1,I2,I3,I4,I5,I6,I7,reduceIte,reduceCtorEq,h2']
 refine QIf.intro (fun c1=>?_) (fun c1=>?_)
 ·simp only[PP,P1,P2,P3,P4,P5,P6,P7,P8,P9,P10,P11,P12,P13,P14,L1,P15,N1,N2,N3,N4,N5,N6,N7,I1,I2,I3,I4,I5,I6,I7,reduceIte,reduceCtorEq,c1]
  refine SemC_bor (args2:=[slI true false .i64 s,p64 0,p64 13]) (.ints rfl hs13 (.same (by simp only[PP,P1,P2,P3,P4,P5,P6,P7,P8,P9,P10,P11,P12,P13,P14,L1,P15,N1,N2,N3,N4,N5,N6,N7,I1,I2,I3,I4,I5,I6,I7,reduceIte,reduceCtorEq]) (.same (by simp only[PP,P1,P2,P3,P4,P5,P6,P7,P8,P9,P10,P11,P12,P13,P14,L1,P15,N1,N2,N3,N4,N5,N6,N7,I1,I2,I3,I4,I5,I6,I7,reduceIte,reduceCtorEq]) .nil))) (partial_p T (n:=13) hs13 (by omega) (by omega) (fun r hr=>⟨rfl,?_⟩))
  cases r with
  | true=>
   simp only[PP,P1,P2,P3,P4,P5,P6,P7,P8,P9,P10,P11,P12,P13,P14,L1,P15,N1,N2,N3,N4,N5,N6,N7,I1,I2,I3,I4,I5,I6,I7,reduceIte,reduceCtorEq]
   exact hk _ s (by simpa using hp) (hr rfl)
  | false=>
   simp only[PP,P1,P2,P3,P4,P5,P6,P7,P8,P9,P10,P11,P12,P13,P14,L1,P15,N1,N2,N3,N4,N5,N6,N7,I1,I2,I3,I4,I5,I6,I7,reduceIte,reduceCtorEq]
   have ha:a=((a.toNat:Nat):Int):=by omega
   refine partition_p T (pv:=a.toNat) hs13 (by omega) (by omega) (by omega) ha (fun v' u w x b g1 g2 g3=>?_)
   have hlw:=g1.length_eq
   rw[List.length_append,List.length_cons,hs13]at hlw
   have gp:(u++x::w).Perm l:=g1.trans (by simpa using hp)
   have wm:IntKind.i64.wrap (u.length:Int)=(u.length:Int):=q52 (by omega) (by omega)
   have wm1:IntKind.i64.wrap ((13:Int)-u.length)=(13:Int)-u.length:=q52 (by omega) (by omega)
   have wm2:IntKind.i64.wrap ((u.length:Int)+1)=((u.length+1:Nat):Int):=q12 (by show _<1000000000000;omega)
   have hq:pbin .quo (.int .i64 13) (.int .i64 8)=some (.int .i64 (IntKind.i64.wrap ((13:Int).tdiv 8))):=pbin_quo _ _ _ (by decide)
   obtain⟨X,hX⟩:∃X,X=u++x::w:=⟨_,rfl⟩
   rw[←hX]
   simp only[PP,P1,P2,P3,P4,P5,P6,P7,P8,P9,P10,P11,P12,P13,P14,L1,P15,N1,N2,N3,N4,N5,N6,N7,I1,I2,I3,I4,I5,I6,I7,reduceIte,reduceCtorEq,w9,wm,wm1,hq]
   refine QIf.intro (fun c2=>?_) (fun c2=>?_)
   ·simp only[PP,P1,P2,P3,P4,P5,P6,P7,P8,P9,P10,P11,P12,P13,P14,L1,P15,N1,N2,N3,N4,N5,N6,N7,I1,I2,I3,I4,I5,I6,I7,reduceIte,reduceCtorEq,c2]
    have e1:u++x::w=cat3 [] u (x::w):=by simp[cat3]
    rw[hX,e1]
    refine pdqR_p T (by simp;omega) (by omega) (by omega) rfl (by simp) (fun v2 u' k1 k2=>?_)
    have e2:cat3 [] u' (x::w)=cat3 (u'++[x]) w []:=by simp[cat3]
    rw[e2]
    have hul:=k1.length_eq
    simp only[PP,P1,P2,P3,P4,P5,P6,P7,P8,P9,P10,P11,P12,P13,P14,L1,P15,N1,N2,N3,N4,N5,N6,N7,I1,I2,I3,I4,I5,I6,I7,reduceIte,reduceCtorEq,wm2]
    refine q19 (ih v2 (u'++[x]) w [] (decide (IntKind.i64.wrap (Int.tdiv 13 8)≤(u.length:Int))) b ⟨?_,.inl (by omega),?_,.nil,?_,by simp,by simp⟩ (by omega)) (by simp only[PW,hul,show u.length+1+w.length=13 by omega]) rfl
    ·have:(u'++[x]++(w++[])).Perm (u++x::w):=by simpa using List.Perm.append_right (x::w) k1
     exact this.trans gp
    ·rw[List.pairwise_append]
     exact⟨k2,by simp,fun y hy z hz=>by rw[List.mem_singleton]at hz;subst hz;exact g2 y (k1.mem_iff.1 hy)⟩
    ·intro y hy z hz
     have hz2:=g3 z hz
     rcases List.mem_append.1 hy with hy | hy
     ·have:=g2 y (k1.mem_iff.1 hy);omega
     ·rw[List.mem_singleton]at hy;omega
   ·simp only[PP,P1,P2,P3,P4,P5,P6,P7,P8,P9,P10,P11,P12,P13,P14,L1,P15,N1,N2,N3,N4,N5,N6,N7,I1,I2,I3,I4,I5,I6,I7,reduceIte,reduceCtorEq,c2,wm2]
    have e1:u++x::w=cat3 (u++[x]) w []:=by simp[cat3]
    rw[hX,e1]
    refine pdqR_p T (by simp;omega) (by omega) (by omega) (by simp) (by simp;omega) (fun v2 w' k1 k2=>?_)
    have e2:cat3 (u++[x]) w' []=cat3 [] u (x::w'):=by simp[cat3]
    rw[e2]
    have hwl:=k1.length_eq
    simp only[PP,P1,P2,P3,P4,P5,P6,P7,P8,P9,P10,P11,P12,P13,P14,L1,P15,N1,N2,N3,N4,N5,N6,N7,I1,I2,I3,I4,I5,I6,I7,reduceIte,reduceCtorEq]
    refine q19 (ih v2 [] u (x::w') (decide (IntKind.i64.wrap (Int.tdiv 13 8)≤(13:Int)-u.length)) b ⟨?_,.inl (by omega),.nil,?_,by simp,?_,by simp⟩ (by omega)) (by simp only[PW]) rfl
    ·have:([]++(u++(x::w'))).Perm (u++x::w):=by simpa using List.Perm.append_left u (List.Perm.cons x k1)
     exact this.trans gp
    ·exact List.pairwise_cons.2 ⟨fun y hy=>g3 y (k1.mem_iff.1 hy),k2⟩
    ·intro y hy z hz
     have hy2:=g2 y hy
     rcases List.mem_cons.1 hz with rfl | hz
     ·exact hy2
     ·have:=g3 z (k1.mem_iff.1 hz);omega
 ·simp only[PP,P1,P2,P3,P4,P5,P6,P7,P8,P9,P10,P11,P12,P13,P14,L1,P15,N1,N2,N3,N4,N5,N6,N7,I1,I2,I3,I4,I5,I6,I7,reduceIte,reduceCtorEq,c1]
  have ha:a=((a.toNat:Nat):Int):=by omega
  refine partition_p T (pv:=a.toNat) hs13 (by omega) (by omega) (by omega) ha (fun v' u w x b g1 g2 g3=>?_)
  have hlw:=g1.length_eq
  rw[List.length_append,List.length_cons,hs13]at hlw
  have gp:(u++x::w).Perm l:=g1.trans (by simpa using hp)
  have wm:IntKind.i64.wrap (u.length:Int)=(u.length:Int):=q52 (by omega) (by omega)
  have wm1:IntKind.i64.wrap ((13:Int)-u.length)=(13:Int)-u.length:=q52 (by omega) (by omega)
  have wm2:IntKind.i64.wrap ((u.length:Int)+1)=((u.length+1:Nat):Int):=q12 (by show _<1000000000000;omega)
  have hq:pbin .quo (.int .i64 13) (.int .i64 8)=some (.int .i64 (IntKind.i64.wrap ((13:Int).tdiv 8))):=pbin_quo _ _ _ (by decide)
  obtain⟨X,hX⟩:∃X,X=u++x::w:=⟨_,rfl⟩
  rw[←hX]
  simp only[PP,P1,P2,P3,P4,P5,P6,P7,P8,P9,P10,P11,P12,P13,P14,L1,P15,N1,N2,N3,N4,N5,N6,N7,I1,I2,I3,I4,I5,I6,I7,reduceIte,reduceCtorEq,w9,wm,wm1,hq]
  refine QIf.intro (fun c2=>?_) (fun c2=>?_)
  ·simp only[PP,P1,P2,P3,P4,P5,P6,P7,P8,P9,P10,P11,P12,P13,P14,L1,P15,N1,N2,N3,N4,N5,N6,N7,I1,I2,I3,I4,I5,I6,I7,reduceIte,reduceCtorEq,c2]
   have e1:u++x::w=cat3 [] u (x::w):=by simp[cat3]
   rw[hX,e1]
   refine pdqR_p T (by simp;omega) (by omega) (by omega) rfl (by simp) (fun v2 u' k1 k2=>?_)
   have e2:cat3 [] u' (x::w)=cat3 (u'++[x]) w []:=by simp[cat3]
   rw[e2]
   have hul:=k1.length_eq
   simp only[PP,P1,P2,P3,P4,P5,P6,P7,P8,P9,P10,P11,P12,P13,P14,L1,P15,N1,N2,N3,N4,N5,N6,N7,I1,I2,I3,I4,I5,I6,I7,reduceIte,reduceCtorEq,wm2]
   refine q19 (ih v2 (u'++[x]) w [] (decide (IntKind.i64.wrap (Int.tdiv 13 8)≤(u.length:Int))) b ⟨?_,.inl (by omega),?_,.nil,?_,by simp,by simp⟩ (by omega)) (by simp only[PW,hul,show u.length+1+w.length=13 by omega]) rfl
   ·have:(u'++[x]++(w++[])).Perm (u++x::w):=by simpa using List.Perm.append_right (x::w) k1
    exact this.trans gp
   ·rw[List.pairwise_append]
    exact⟨k2,by simp,fun y hy z hz=>by rw[List.mem_singleton]at hz;subst hz;exact g2 y (k1.mem_iff.1 hy)⟩
   ·intro y hy z hz
    have hz2:=g3 z hz
    rcases List.mem_append.1 hy with hy | hy
    ·have:=g2 y (k1.mem_iff.1 hy);omega
    ·rw[List.mem_singleton]at hy;omega
  ·simp only[PP,P1,P2,P3,P4,P5,P6,P7,P8,P9,P10,P11,P12,P13,P14,L1,P15,N1,N2,N3,N4,N5,N6,N7,I1,I2,I3,I4,I5,I6,I7,reduceIte,reduceCtorEq,c2,wm2]
   have e1:u++x::w=cat3 (u++[x]) w []:=by simp[cat3]
   rw[hX,e1]
   refine pdqR_p T (by simp;omega) (by omega) (by omega) (by simp) (by simp;omega) (fun v2 w' k1 k2=>?_)
   have e2:cat3 (u++[x]) w' []=cat3 [] u (x::w'):=by simp[cat3]
   rw[e2]
   have hwl:=k1.length_eq
   simp only[PP,P1,P2,P3,P4,P5,P6,P7,P8,P9,P10,P11,P12,P13,P14,L1,P15,N1,N2,N3,N4,N5,N6,N7,I1,I2,I3,I4,I5,I6,I7,reduceIte,reduceCtorEq]
   refine q19 (ih v2 [] u (x::w') (decide (IntKind.i64.wrap (Int.tdiv 13 8)≤(13:Int)-u.length)) b ⟨?_,.inl (by omega),.nil,?_,by simp,?_,by simp⟩ (by omega)) (by simp only[PW]) rfl
   ·have:([]++(u++(x::w'))).Perm (u++x::w):=by simpa using List.Perm.append_left u (List.Perm.cons x k1)
    exact this.trans gp
   ·exact List.pairwise_cons.2 ⟨fun y hy=>g3 y (k1.mem_iff.1 hy),k2⟩
   ·intro y hy z hz
    have hy2:=g2 y hy
    rcases List.mem_cons.1 hz with rfl | hz
    ·exact hy2
    ·have:=g3 z (k1.mem_iff.1 hz);omega
theorem sort13_p {K:PV→Mem→Prop} {g v n:Nat} {l:List Int} (hn:l.length=n) (hb:n≤13) (hk:∀(v':Nat) (l':List Int),l'.Perm l→l'.Pairwise (·≤·)→K (.tuple []) [.cells g v' (l'.map p64)]):
  SemC tab 73 [.ref 0 g 1 0 n] [.cells g v (l.map p64)] K:=by
 by_cases h:n≤12
 ·exact sort_p T hn h hk
 have e:n=13:=by omega
 subst e
 refine q34 T.h73 ?_
 have w:IntKind.u64.wrap 13=13:=by decide
 simp only[af73,PP,P1,P2,P3,P4,P5,P6,P7,P8,P9,P10,P11,P12,P13,P14,L1,P15,N1,N2,N3,N4,N5,N6,N7,I1,I2,I3,I4,I5,I6,I7,reduceIte,reduceCtorEq,w]
 refine lenA_p T ?_
 simp only[PP,P1,P2,P3,P4,P5,P6,P7,P8,P9,P10,P11,P12,P13,P14,L1,P15,N1,N2,N3,N4,N5,N6,N7,I1,I2,I3,I4,I5,I6,I7,reduceIte,reduceCtorEq]
 refine pdq13_p T hn (fun v' l' h1 h2=>?_)
 simp only[PP,P1,P2,P3,P4,P5,P6,P7,P8,P9,P10,P11,P12,P13,P14,L1,P15,N1,N2,N3,N4,N5,N6,N7,I1,I2,I3,I4,I5,I6,I7,reduceIte,reduceCtorEq]
 exact hk v' l' h1 h2
end
def seF (n:Nat) (pr:List Int) (all:List Int) (w:Int):List Int:=(natI (List.range n)).filter fun u=>decide (u∈all∧0<relI pr u w)
def folV (n:Nat) (pr:List Int) (p l:List Int):Vl:=
 match l with
 | []=>⟨0,[],0⟩
 | x::xs=>⟨maxR pr x xs,seF n pr (p++x::xs) (maxR pr x xs),idxI (maxR pr x xs) 0 (p++x::xs)⟩
def folX (ow pr st:List Int) (v:Int):Vl:=folV ow.length pr (playL st (ow.length+1) v []).1 (playL st (ow.length+1) v []).2
def folA (ow pr:List Int) (su:List (List Int)) (st:List Int) (v:Int):Vl:=if playE ow pr su st v=0 then folX ow pr st v else⟨0,[],0⟩
theorem rise_of {l:List Int} :∀{k:Int},l.Pairwise (· < ·)→(∀x∈l,k<x)→Rise k l:=by
 induction l with
 | nil=>intro k _ _;trivial
 | cons x l ih=>
  intro k h1 h2
  rw[List.pairwise_cons]at h1
  exact⟨h2 x (by simp),ih h1.2 h1.1⟩
theorem seF_mem {n:Nat} {pr all:List Int} {w u:Int} :u∈seF n pr all w↔(0≤u∧u<n)∧u∈all∧0<relI pr u w:=by
 unfold seF
 rw[List.mem_filter,decide_eq_true_eq]
 constructor
 ·rintro⟨h1,h2⟩
  obtain⟨a,h3,rfl⟩:=List.mem_map.1 h1
  rw[List.mem_range]at h3
  exact⟨⟨by omega,by omega⟩,h2⟩
 ·rintro⟨⟨h1,h2⟩,h3⟩
  exact⟨List.mem_map.2 ⟨u.toNat,List.mem_range.2 (by omega),by omega⟩,h3⟩
theorem range_rise (n:Nat):(natI (List.range n)).Pairwise (· < ·):=by
 rw[List.pairwise_map]
 exact List.Pairwise.imp (fun {a b} (h:a<b)=>by show(a:Int)<b;omega) List.pairwise_lt_range
theorem seF_rise (n:Nat) (pr all:List Int) (w:Int):Rise (-1) (seF n pr all w):=
 rise_of ((range_rise n).filter _) fun x hx=>by have:=(seF_mem.1 hx).1;omega
theorem sorted_seF {n:Nat} {pr all l:List Int} {w:Int} (hnd:all.Nodup) (hr:∀x∈all,0≤x∧x<n) (hp:l.Perm (all.filter fun u=>decide (0<relI pr u w))) (hs:l.Pairwise (·≤·)):l=seF n pr all w:=by
 have hm:∀u,u∈l↔u∈seF n pr all w:=fun u=>by
  rw[hp.mem_iff,List.mem_filter,seF_mem,decide_eq_true_eq]
  exact⟨fun⟨h1,h2⟩=>⟨hr u h1,h1,h2⟩,fun⟨_,h1,h2⟩=>⟨h1,h2⟩⟩
 have hn:l.Nodup:=hp.nodup_iff.2 (hnd.filter _)
 have hlt:l.Pairwise (· < ·):=by
  have:=hs.and hn
  exact this.imp fun {a b} ⟨h1,h2⟩=>by omega
 refine Rise.ext (rise_of hlt fun x hx=>?_) (seF_rise n pr all w) hm
 have:=(seF_mem.1 ((hm x).1 hx)).1
 omega
theorem play_facts {ow pr st:List Int} {su:List (List Int)} {v:Int} (h:playE ow pr su st v=0):
  q37 ow pr su=0∧0≤v∧v<ow.length∧st.length=ow.length∧(∃f:Nat→Nat,(∀v,v<ow.length→st[v]? =some ((f v:Nat):Int))∧(∀v,v<ow.length→f v<ow.length∧((f v:Nat):Int)∈su.getD v [])∧∃m k,IsPlay f v.toNat ow.length (playL st (ow.length+1) v []).1 (playL st (ow.length+1) v []).2 m k):=by
 unfold playE at h
 split at h
 ·rename_i c
  split at h
  ·simp at h
  ·split at h
   ·simp at h
   ·split at h
    ·rename_i c1 c2 c3
     split at h
     ·rename_i c4
      have V:=q25 c
      have hg:∀k,k<ow.length→∃u:Int,st[k]? =some u∧u∈su.getD k []∧0≤u∧u<ow.length:=fun k hk=>by
       obtain⟨u,hu⟩:=q9 (xs:=st) (k:=k) (by omega)
       have hm:=movM_get c4 k u hu
       rw[Nat.zero_add]at hm
       exact⟨u,hu,hm,q43 V hk hm⟩
      have h1:∀v,v<ow.length→st[v]? =some (((st.getD v 0).toNat:Nat):Int):=fun v hv=>by
       obtain⟨u,hu,_,h2,h3⟩:=hg v hv
       rw[getD_some hu,hu];congr 1;omega
      have h2:∀v,v<ow.length→(st.getD v 0).toNat<ow.length:=fun v hv=>by
       obtain⟨u,hu,_,h2,h3⟩:=hg v hv
       rw[getD_some hu];omega
      refine⟨c,by omega,by omega,by omega,fun v=>(st.getD v 0).toNat,h1,fun v hv=>?_,?_⟩
      ·obtain⟨u,hu,h4,h5,h6⟩:=hg v hv
       show(st.getD v 0).toNat<ow.length∧(((st.getD v 0).toNat:Nat):Int)∈su.getD v []
       rw[getD_some hu]
       exact⟨by omega,by rw[show((u.toNat:Nat):Int)=u by omega];exact h4⟩
      ·have:=play_spec (v:=v.toNat) h1 h2 (by omega)
       rw[show((v.toNat:Nat):Int)=v by omega]at this
       exact this
     ·simp at h
    ·simp at h
 ·rename_i c;exact absurd h c
theorem IsPlay.all {f:Nat→Nat} {v n m k:Nat} {p l:List Int} (h:IsPlay f v n p l m k):p++l=natI (its f v m):=by
 rw[h.p,h.l,←List.map_append,List.take_append_drop]
theorem natI_nodup {l:List Nat} (h:l.Nodup):(natI l).Nodup:=by
 unfold natI
 rw[List.Nodup,List.pairwise_map]
 exact List.Pairwise.imp (fun {a b} (q:a≠b)=>by show(a:Int)≠b;omega) h
theorem IsPlay.facts {f:Nat→Nat} {v n m k:Nat} {p l:List Int} (h:IsPlay f v n p l m k) (hf:∀v,v<n→f v<n) (hv:v<n):(p++l).Nodup∧(∀x∈p++l,0≤x∧x<n)∧(p++l).length≤n∧l≠[]:=by
 rw[h.all]
 refine⟨natI_nodup h.nd,fun x hx=>?_,?_,?_⟩
 ·obtain⟨a,ha,rfl⟩:=List.mem_map.1 hx
  have:=its_lt hf hv a ha
  omega
 ·rw[List.length_map,its_len];exact h.mn
 ·have h1:=h.len.2
  have h2:=h.km
  intro e
  rw[e]at h1
  simp only[List.length_nil]at h1
  omega
section
variable {tab:FuncId→Option AF} (T:HasA tab)
include T
set_option maxHeartbeats 1000000 in
theorem follow_p {M:Mem} {K:PV→Mem→Prop} {F:GF} {f5 o5:Bool} {ow pr st:List Int} {su:List (List Int)} {v:Int} (B:Bnd ow pr su) (h14:ow.length≤14) (hb:st.length<big) (hq:K (.tuple [.agg (vlL false true (folA ow pr su st v)),p64 (playE ow pr su st v)]) M):
  SemC tab 66 [.agg (gmF F ow pr su),slI f5 o5 .i64 st,p64 v] M K:=by
 refine SemC_wk ?_
 refine q11 T.h66 (by simp only[PP,P1,P2,P3,P4,P5,P6,P7,P8,P9,P10,P11,P12,P13,P14,L1,P15,N1,N2,N3,N4,N5,N6,N7,I1,I2,I3,I4,I5,I6,I7,reduceIte,reduceCtorEq]) ?_
 simp only[af66,PP,P1,P2,P3,P4,P5,P6,P7,P8,P9,P10,P11,P12,P13,P14,L1,P15,N1,N2,N3,N4,N5,N6,N7,I1,I2,I3,I4,I5,I6,I7,reduceIte,reduceCtorEq]
 refine play_p T B hb ?_
 unfold playM
 unfold folA at hq
 by_cases c1:playE ow pr su st v=0
 rotate_left
 ·rw[if_neg c1]at hq ⊢
  simp only[PP,P1,P2,P3,P4,P5,P6,P7,P8,P9,P10,P11,P12,P13,P14,L1,P15,N1,N2,N3,N4,N5,N6,N7,I1,I2,I3,I4,I5,I6,I7,reduceIte,reduceCtorEq,c1]
  refine⟨.tuple [.agg (vlL false true ⟨0,[],0⟩),p64 (playE ow pr su st v)],PvWk.tuple rfl fun i y z h1 h2=>?_,hq⟩
  match i with
  | 0=>
   cases h1;cases h2
   refine PvWk.agg rfl fun i y z h1 h2=>?_
   match i with
   | 0=>cases h1;cases h2;exact PvWk.refl _
   | 1=>cases h1;cases h2;exact PvWk.nils _ _ _
   | 2=>cases h1;cases h2;exact PvWk.refl _
   | i+3=>simp at h1
  | 1=>cases h1;cases h2;exact PvWk.refl _
  | i+2=>simp at h1
 rw[if_pos c1]at hq ⊢
 rw[c1]at hq
 obtain⟨cc,v0,v1,hst,f,hf1,hf2,m,k,hP⟩:=play_facts c1
 have V:=q25 cc
 obtain⟨hnd,hran,hlen,hne⟩:=hP.facts (fun v hv=>(hf2 v hv).1) (by omega)
 have hpl:pr.length=ow.length:=V.p
 unfold folX at hq
 obtain⟨P,hPP⟩:∃P,P=(playL st (ow.length+1) v []).1:=⟨_,rfl⟩
 obtain⟨L,hLL⟩:∃L,L=(playL st (ow.length+1) v []).2:=⟨_,rfl⟩
 rw[←hPP,←hLL]at hnd hran hlen hq ⊢
 rw[←hLL]at hne
 obtain⟨x,xs,rfl⟩:∃x xs,L=x::xs:=by cases L with | nil=>exact absurd rfl hne | cons x xs=>exact⟨x,xs,rfl⟩
 simp only[folV]at hq
 rw[List.length_append]at hlen
 obtain⟨L,hL⟩:∃L,L=x::xs:=⟨_,rfl⟩
 obtain⟨w,hw⟩:∃w,w=maxR pr x xs:=⟨_,rfl⟩
 rw[←hL,←hw]at hq
 simp only[PP,P1,P2,P3,P4,P5,P6,P7,P8,P9,P10,P11,P12,P13,P14,L1,P15,N1,N2,N3,N4,N5,N6,N7,I1,I2,I3,I4,I5,I6,I7,reduceIte,reduceCtorEq]
 rw[←hL]
 refine relevance_p T ?_
 simp only[PP,P1,P2,P3,P4,P5,P6,P7,P8,P9,P10,P11,P12,P13,P14,L1,P15,N1,N2,N3,N4,N5,N6,N7,I1,I2,I3,I4,I5,I6,I7,reduceIte,reduceCtorEq]
 have hrL:∀v∈x::xs,0≤v∧v<pr.length:=fun y hy=>by
  have:=hran y (List.mem_append.2 (.inr hy));omega
 have hwr:0≤w∧w<pr.length:=by
  rcases maxR_mem pr xs x with h | h
  ·rw[hw,h];exact hrL x (by simp)
  ·rw[hw];exact hrL _ (List.mem_cons_of_mem _ h)
 rw[hL]
 refine maxF_p T (F:=F) (by show _<1000000000000;omega) hrL ?_
 rw[←hL,←hw]
 have hLlen:P.length+L.length≤ow.length:=by rw[hL];exact hlen
 simp only[PP,P1,P2,P3,P4,P5,P6,P7,P8,P9,P10,P11,P12,P13,P14,L1,P15,N1,N2,N3,N4,N5,N6,N7,I1,I2,I3,I4,I5,I6,I7,reduceIte,reduceCtorEq]
 refine concat_p T (by omega) (by rw[hL];simp) ?_
 obtain⟨A,hA⟩:∃A,A=P++L:=⟨_,rfl⟩
 rw[←hA]at hq ⊢
 have hAn:A.length≤ow.length:=by rw[hA,List.length_append];exact hLlen
 have hnA:A.Nodup:=by rw[hA,hL];exact hnd
 have hrA:∀x∈A,0≤x∧x<ow.length:=by rw[hA,hL];exact hran
 have hwA:w∈A:=by
  rw[hA,hL]
  refine List.mem_append.2 (.inr ?_)
  rcases maxR_mem pr xs x with h | h
  ·rw[hw,h];simp
  ·rw[hw];exact List.mem_cons_of_mem _ h
 simp only[PP,P1,P2,P3,P4,P5,P6,P7,P8,P9,P10,P11,P12,P13,P14,L1,P15,N1,N2,N3,N4,N5,N6,N7,I1,I2,I3,I4,I5,I6,I7,reduceIte,reduceCtorEq]
 refine index_p T (by show _<1000000000000;omega) ?_
 simp only[PP,P1,P2,P3,P4,P5,P6,P7,P8,P9,P10,P11,P12,P13,P14,L1,P15,N1,N2,N3,N4,N5,N6,N7,I1,I2,I3,I4,I5,I6,I7,reduceIte,reduceCtorEq]
 refine q41 (GStep.nilbox 2 1 1 rfl rfl rfl) ?_
 simp only[List.set_cons_succ,List.set_cons_zero,List.cons_append,List.nil_append,List.length_cons,List.length_nil,Nat.reduceAdd]
 refine loop5 (fun(k g v ver n:Nat)=>k≤A.length∧n=((A.take k).filter fun u=>decide (0<relI pr u w)).length) (fun k g v ver n=>[Zj,Zj,Zj,Zj,Zj,Zj,.ptr 1 0 0,Zj,Zj,Zj,Zj,moreV (gmF F ow pr su),p64 w,Zj,.ptr 2 0 0,Zj,Zj,Zj,Zj,Zj,Zj,Zj,Zj,Zj,Zj,Zj,Zj,Zj,Zj,Zj,Zj,Zj,Zj,Zj,Zj,Zj,Zj,Zj,Zj,Zj,Zj,Zj,Zj,slI false true .i64 A,p64 A.length,p64 k,Zj,Zj,Zj,Zj,Zj,Zj,Zj,Zj,Zj,Zj,Zj,Zj,Zj,Zj,Zj,Zj,Zj,Zj,Zj])
  (fun k g v ver n=>[.cells 0 0 (gmF F ow pr su),.cells 0 0 [p64 0,.nils,p64 0],.cells 0 ver [p64 w,.ref 3 g 1 0 n,p64 (idxI w 0 A)],.cells g v (((A.take k).filter fun u=>decide (0<relI pr u w)).map p64)]) (fun k _ _ _ _=>A.length-k) 0 0 0 1 0 ⟨by omega,rfl⟩ (by simp only[PW]) rfl ?_
 intro k g v ver n ⟨hle,hn⟩ ih
 refine q15 (by kernel_rfl) ?_
 simp only[PP,P1,P2,P3,P4,P5,P6,P7,P8,P9,P10,P11,P12,P13,P14,L1,P15,N1,N2,N3,N4,N5,N6,N7,I1,I2,I3,I4,I5,I6,I7,reduceIte,reduceCtorEq]
 refine QIf.intro (fun c=>?_) (fun c=>?_)
 ·have hk':k<A.length:=by omega
  obtain⟨u,gu⟩:=q9 hk'
  obtain⟨u0,u1⟩:=hrA u (List.mem_of_getElem? gu)
  have hwk:=q12 (k:=k) (by show _<1000000000000;omega)
  have k0:(0:Int)≤k:=by omega
  simp only[PP,P1,P2,P3,P4,P5,P6,P7,P8,P9,P10,P11,P12,P13,P14,L1,P15,N1,N2,N3,N4,N5,N6,N7,I1,I2,I3,I4,I5,I6,I7,reduceIte,reduceCtorEq,c,gu,k0]
  refine rel1_p T u0 (by omega) hwr.1 hwr.2 ?_
  simp only[PP,P1,P2,P3,P4,P5,P6,P7,P8,P9,P10,P11,P12,P13,P14,L1,P15,N1,N2,N3,N4,N5,N6,N7,I1,I2,I3,I4,I5,I6,I7,reduceIte,reduceCtorEq]
  have htk:=take_some gu
  have hnk:n≤k:=by
   rw[hn]
   refine Nat.le_trans (List.length_filter_le _ _) ?_
   rw[List.length_take];omega
  obtain⟨X,hX⟩:∃X,X=(A.take k).filter fun u=>decide (0<relI pr u w):=⟨_,rfl⟩
  rw[←hX]at hn ⊢
  refine QIf.intro (fun d=>?_) (fun d=>?_)
  ·have hX2:(A.take (k+1)).filter (fun u=>decide (0<relI pr u w))=X++[u]:=by
    rw[htk,List.filter_append,←hX];simp[d]
   have hps:psub (X.map p64) 0 n=X.map p64:=q49 _ _ (by simp[hn])
   have hxl:n≤X.length:=by omega
   simp only[PP,P1,P2,P3,P4,P5,P6,P7,P8,P9,P10,P11,P12,P13,P14,L1,P15,N1,N2,N3,N4,N5,N6,N7,I1,I2,I3,I4,I5,I6,I7,reduceIte,reduceCtorEq,d,hps,hxl,hwk]
   refine⟨⟨by omega,by omega⟩,q19 (ih (k+1) (g+1) 0 (ver+1) (n+1) ⟨by omega,by rw[hX2];simp[hn]⟩ (by omega)) (by simp only[PW]) (by rw[hX2];simp)⟩
  ·have hX2:(A.take (k+1)).filter (fun u=>decide (0<relI pr u w))=X:=by
    rw[htk,List.filter_append,←hX];simp[d]
   simp only[PP,P1,P2,P3,P4,P5,P6,P7,P8,P9,P10,P11,P12,P13,P14,L1,P15,N1,N2,N3,N4,N5,N6,N7,I1,I2,I3,I4,I5,I6,I7,reduceIte,reduceCtorEq,d,hwk]
   exact q19 (ih (k+1) g v ver n ⟨by omega,by rw[hX2];exact hn⟩ (by omega)) (by simp only[PW]) (by rw[hX2])
 ·have hkA:k=A.length:=by omega
  rw[hkA,List.take_length]at hn ⊢
  obtain⟨X,hX⟩:∃X,X=A.filter fun u=>decide (0<relI pr u w):=⟨_,rfl⟩
  rw[←hX]at hn ⊢
  have hn13:n≤13:=by
   have h1:X.length≤(A.erase w).length:=by
    refine List.Nodup.length_le_of_subset ?_ ?_
    ·rw[hX];exact hnA.filter _
    ·intro y hy
     rw[hX,List.mem_filter,decide_eq_true_eq]at hy
     refine(List.Nodup.mem_erase_iff hnA).2 ⟨fun e=>?_,hy.1⟩
     rw[e,(q21 pr).self]at hy
     exact absurd hy.2 (by omega)
   rw[List.length_erase_of_mem hwA]at h1
   omega
  simp only[PP,P1,P2,P3,P4,P5,P6,P7,P8,P9,P10,P11,P12,P13,P14,L1,P15,N1,N2,N3,N4,N5,N6,N7,I1,I2,I3,I4,I5,I6,I7,reduceIte,reduceCtorEq,c]
  refine SemC_at (pre:=[]) (post:=[]) (cs:=X.map p64) (ver:=v) rfl (by simp only[PP,P1,P2,P3,P4,P5,P6,P7,P8,P9,P10,P11,P12,P13,P14,L1,P15,N1,N2,N3,N4,N5,N6,N7,I1,I2,I3,I4,I5,I6,I7,reduceIte,reduceCtorEq]) rfl rfl (sort13_p T hn.symm hn13 (fun v' l' h1 h2=>⟨by simp only[PP,P1,P2,P3,P4,P5,P6,P7,P8,P9,P10,P11,P12,P13,P14,L1,P15,N1,N2,N3,N4,N5,N6,N7,I1,I2,I3,I4,I5,I6,I7,reduceIte,reduceCtorEq],v',l'.map p64,[],rfl,by simp only[PP,P1,P2,P3,P4,P5,P6,P7,P8,P9,P10,P11,P12,P13,P14,L1,P15,N1,N2,N3,N4,N5,N6,N7,I1,I2,I3,I4,I5,I6,I7,reduceIte,reduceCtorEq],?_⟩))
  have e:=sorted_seF (n:=ow.length) (pr:=pr) (w:=w) (all:=A) hnA hrA (by rw[←hX];exact h1) h2
  have hll:n=l'.length:=by rw[h1.length_eq];exact hn
  have hps:psub (l'.map p64) 0 n=l'.map p64:=q49 _ _ (by rw[List.length_map];omega)
  have hle2:n≤l'.length:=by omega
  simp only[PP,P1,P2,P3,P4,P5,P6,P7,P8,P9,P10,P11,P12,P13,P14,L1,P15,N1,N2,N3,N4,N5,N6,N7,I1,I2,I3,I4,I5,I6,I7,reduceIte,reduceCtorEq,hle2,hps]
  refine⟨_,PvWk.refl _,?_⟩
  rw[hll,e]
  exact hq
end
def Inf (f:Nat→Nat) (v x:Nat):Prop:=∀N,∃j,N≤j∧itr f v j=x
theorem itr_succ' (f:Nat→Nat) (v:Nat):∀j,itr f (f v) j=itr f v (j+1)
 | 0=>rfl
 | j+1=>by show f _=f _;rw[itr_succ' f v j]
theorem itr_sum (f:Nat→Nat) (v i:Nat):∀j,itr f (itr f v i) j=itr f v (i+j)
 | 0=>rfl
 | j+1=>by show f (itr f (itr f v i) j)=f (itr f v (i+j));rw[itr_sum f v i j]
theorem Inf.next {f:Nat→Nat} {v x:Nat} :Inf f (f v) x↔Inf f v x:=by
 constructor
 ·intro h N
  obtain⟨j,h1,h2⟩:=h N
  exact⟨j+1,by omega,by rw[←itr_succ'];exact h2⟩
 ·intro h N
  obtain⟨j,h1,h2⟩:=h (N+1)
  obtain⟨k,rfl⟩:∃k,j=k+1:=⟨j-1,by omega⟩
  exact⟨k,by omega,by rw[itr_succ'];exact h2⟩
theorem Inf.itr {f:Nat→Nat} {v x:Nat} :∀i,Inf f (itr f v i) x↔Inf f v x
 | 0=>Iff.rfl
 | i+1=>by show Inf f (f (Go.Am.Ar.itr f v i)) x↔_;rw[Inf.next,Inf.itr i]
theorem Inf.follow {f:Nat→Nat} {v x:Nat} (h:Inf f v x) (j:Nat):Inf f v (Go.Am.Ar.itr f x j):=by
 intro N
 obtain⟨k,h1,h2⟩:=h N
 exact⟨k+j,by omega,by rw[←itr_sum,h2]⟩
structure IsVal (f:Nat→Nat) (pr:List Int) (n v:Nat) (x:Vl):Prop where
 c0:0≤x.cy
 inf:Inf f v x.cy.toNat
 mx:∀y:Nat,Inf f v y→relI pr y x.cy≤0
 rise:Rise (-1) x.se
 se:∀u:Int,u∈x.se↔(∃j,((itr f v j:Nat):Int)=u)∧0<relI pr u x.cy
 s0:0≤x.st
 sn:x.st<n
 st:((itr f v x.st.toNat:Nat):Int)=x.cy
 mn:∀j:Nat,(j:Int)<x.st→((itr f v j:Nat):Int)≠x.cy
theorem IsPlay.reach {f:Nat→Nat} {n v m k:Nat} {p l:List Int} (h:IsPlay f v n p l m k):∀j,∃i,i<m∧itr f v j=itr f v i
 | 0=>⟨0,by have:=h.km;omega,rfl⟩
 | j+1=>by
  obtain⟨i,h1,h2⟩:=h.reach j
  by_cases e:i+1<m
  ·exact⟨i+1,e,by show f _=f _;rw[h2]⟩
  ·have e:i+1=m:=by omega
   refine⟨k,h.km,?_⟩
   rw[←h.back,←e]
   show f _=f _;rw[h2]
theorem IsPlay.per {f:Nat→Nat} {n v m k:Nat} {p l:List Int} (h:IsPlay f v n p l m k):∀i j,k≤j→itr f v (j+i*(m-k))=itr f v j
 | 0,j,_=>by simp
 | i+1,j,hj=>by
  have hkm:=h.km
  have e1:itr f v (j+(m-k))=itr f v j:=by
   have e:j+(m-k)=m+(j-k):=by omega
   rw[e,←itr_sum,h.back,itr_sum];congr 1;omega
  have:=h.per i (j+(m-k)) (by omega)
  rw[e1]at this
  rw[←this];congr 1;rw[Nat.add_mul];omega
theorem IsPlay.inf {f:Nat→Nat} {n v m k:Nat} {p l:List Int} (h:IsPlay f v n p l m k) (x:Nat):Inf f v x↔∃j,k≤j∧j<m∧itr f v j=x:=by
 have hkm:=h.km
 constructor
 ·intro hi
  obtain⟨j,h1,h2⟩:=hi k
  --reduce j below m
  have key:∀d j,j≤d→k≤j→∃i,k≤i∧i<m∧itr f v j=itr f v i:=by
   intro d
   induction d with
   | zero=>intro j hj hk;exact⟨j,hk,by omega,rfl⟩
   | succ d ih=>
    intro j hj hk
    by_cases e:j<m
    ·exact⟨j,hk,e,rfl⟩
    ·obtain⟨i,g1,g2,g3⟩:=ih (j-(m-k)) (by omega) (by omega)
     refine⟨i,g1,g2,?_⟩
     rw[←g3,←h.per 1 (j-(m-k)) (by omega)]
     congr 1;omega
  obtain⟨i,g1,g2,g3⟩:=key j j (Nat.le_refl _) h1
  exact⟨i,g1,g2,by rw[←g3];exact h2⟩
 ·rintro⟨j,h1,h2,rfl⟩ N
  refine⟨j+N*(m-k),?_,h.per N j h1⟩
  have:N*1≤N*(m-k):=Nat.mul_le_mul_left N (by omega)
  omega
theorem natI_get {l:List Nat} {i:Nat} :(natI l)[i]? =l[i]?.map fun(v:Nat)=>(v:Int):=by rw[List.getElem?_map]
theorem folV_val {f:Nat→Nat} {pr:List Int} {n v m k:Nat} {p l:List Int} (h:IsPlay f v n p l m k) (hf:∀v,v<n→f v<n) (hv:v<n):IsVal f pr n v (folV n pr p l):=by
 obtain⟨hnd,hran,hlen,hne⟩:=h.facts hf hv
 have hall:=h.all
 have hll:=h.len
 have hkm:=h.km
 obtain⟨x,xs,hL⟩:∃x xs,l=x::xs:=by cases l with | nil=>exact absurd rfl hne | cons x xs=>exact⟨x,xs,rfl⟩
 obtain⟨w,hw⟩:∃w,w=maxR pr x xs:=⟨_,rfl⟩
 have hwl:w∈l:=by
  rw[hL]
  rcases maxR_mem pr xs x with g | g
  ·rw[hw,g];simp
  ·rw[hw];exact List.mem_cons_of_mem _ g
 have hval:folV n pr p l=⟨w,seF n pr (p++l) w,idxI w 0 (p++l)⟩:=by rw[hL];simp only[folV];rw[←hw]
 have hmem:∀u:Int,u∈p++l↔∃j,j<m∧((itr f v j:Nat):Int)=u:=fun u=>by
  rw[hall]
  constructor
  ·intro hu
   obtain⟨a,ha,rfl⟩:=List.mem_map.1 hu
   obtain⟨j,h1,h2⟩:=its_mem.1 ha
   exact⟨j,h1,by rw[h2]⟩
  ·rintro⟨j,h1,rfl⟩
   exact List.mem_map.2 ⟨_,its_mem.2 ⟨j,h1,rfl⟩,rfl⟩
 have hlm:∀u:Int,u∈l↔∃j,k≤j∧j<m∧((itr f v j:Nat):Int)=u:=fun u=>by
  rw[h.l]
  constructor
  ·intro hu
   obtain⟨a,ha,rfl⟩:=List.mem_map.1 hu
   obtain⟨j,hj⟩:=List.getElem?_of_mem ha
   rw[List.getElem?_drop]at hj
   have hj2:=q10 hj
   rw[its_len]at hj2
   rw[its_get hj2]at hj
   simp only[Option.some.injEq]at hj
   exact⟨k+j,by omega,hj2,by rw[hj]⟩
  ·rintro⟨j,h1,h2,rfl⟩
   refine List.mem_map.2 ⟨_,?_,rfl⟩
   refine List.mem_of_getElem? (i:=j-k) ?_
   rw[List.getElem?_drop,show k+(j-k)=j by omega,its_get h2]
 have hwr:=hran w (List.mem_append.2 (.inr hwl))
 obtain⟨jw,hj1,hj2,hj3⟩:=(hlm w).1 hwl
 have hidx:∃i,i<m∧((itr f v i:Nat):Int)=w∧(∀j,j<i→((itr f v j:Nat):Int)≠w)∧idxI w 0 (p++l)=(i:Int):=by
  rcases idxI_spec w (p++l) 0 with⟨h1,_⟩ | ⟨i,h1,h2,h3⟩
  ·exact absurd (List.mem_append.2 (.inr hwl)) h1
  ·have hi:=q10 h1
   rw[hall,List.length_map,its_len]at hi
   have hg:∀j,j<m→(p++l)[j]? =some ((itr f v j:Nat):Int):=fun j hj=>by rw[hall,natI_get,its_get hj];rfl
   refine⟨i,hi,?_,fun j hj e=>h2 ?_,by rw[h3];omega⟩
   ·rw[hg i hi]at h1;simpa using h1
   ·refine List.mem_of_getElem? (i:=j) ?_
    rw[List.getElem?_take,if_pos hj,hg j (by omega),e]
 obtain⟨i,hi1,hi2,hi3,hi4⟩:=hidx
 rw[hval,hi4]
 have hmn:=h.mn
 refine⟨hwr.1,(h.inf _).2 ⟨jw,hj1,hj2,by show _=w.toNat;omega⟩,fun y hy=>?_,seF_rise _ _ _ _,fun u=>?_,by show(0:Int)≤i;omega,by show(i:Int)<n;omega,by show((itr f v ((i:Int)).toNat:Nat):Int)=w;rw[Int.toNat_natCast];exact hi2,fun j hj=>hi3 j (by have hj:(j:Int)<i:=hj;omega)⟩
 ·obtain⟨j,g1,g2,g3⟩:=(h.inf y).1 hy
  have hyl:(y:Int)∈l:=(hlm y).2 ⟨j,g1,g2,by rw[g3]⟩
  rw[hL]at hyl
  show relI pr y w≤0
  rw[hw]
  rcases List.mem_cons.1 hyl with e | hyl
  ·rw[e];exact(maxR_ge pr xs x).1
  ·exact(maxR_ge pr xs x).2 _ hyl
 ·show u∈seF n pr (p++l) w↔_
  rw[seF_mem,hmem]
  constructor
  ·rintro⟨_,⟨j,_,h2⟩,h3⟩;exact⟨⟨j,h2⟩,h3⟩
  ·rintro⟨⟨j,h2⟩,h3⟩
   obtain⟨i',g1,g2⟩:=h.reach j
   have hu:u∈p++l:=(hmem u).2 ⟨i',g1,by rw[←g2];exact h2⟩
   exact⟨hran u hu,⟨i',g1,by rw[←g2];exact h2⟩,h3⟩
section
variable {f:Nat→Nat} {pr:List Int} {n v:Nat} {x y:Vl}
theorem rel_le_eq {a b:Int} (h1:relI pr a b≤0) (h2:relI pr b a≤0):a=b:=by
 have:=(q21 pr).anti a b
 exact relI_zero.1 (show relI pr a b=0 by omega)
theorem IsVal.cyE (h:IsVal f pr n v x):((x.cy.toNat:Nat):Int)=x.cy:=by have:=h.c0;omega
theorem IsVal.cy_lt (hf:∀v,v<n→f v<n) (hv:v<n) (h:IsVal f pr n v x):x.cy<n:=by
 have:=itr_lt hf hv x.st.toNat
 have:=h.st
 omega
theorem IsVal.next_cy (h:IsVal f pr n v x) (k:IsVal f pr n (f v) y):y.cy=x.cy:=by
 have h1:=h.mx _ (Inf.next.1 k.inf)
 have h2:=k.mx _ (Inf.next.2 h.inf)
 rw[k.cyE]at h1
 rw[h.cyE]at h2
 exact rel_le_eq h1 h2
theorem IsVal.at (h:IsVal f pr n v x) (e:(v:Int)=x.cy):x.se=[]∧x.st=0:=by
 constructor
 ·refine List.eq_nil_iff_forall_not_mem.2 fun u hu=>?_
  obtain⟨⟨j,hj⟩,hr⟩:=(h.se u).1 hu
  have hi:Inf f v (itr f v j):=by
   have:=h.inf.follow j
   rwa [show x.cy.toNat=v by omega]at this
  have:=h.mx _ hi
  rw[hj]at this
  omega
 ·have h0:=h.s0
  refine Classical.byContradiction fun hne=>?_
  exact h.mn 0 (by omega) e
theorem IsVal.next_st (h:IsVal f pr n v x) (k:IsVal f pr n (f v) y) (e:(v:Int)≠x.cy):x.st=y.st+1:=by
 have hc:=h.next_cy k
 have h0:=h.s0
 have k0:=k.s0
 have h1:=h.st
 have k1:=k.st
 rw[itr_succ']at k1
 have hpos:x.st≠0:=fun q=>by rw[q]at h1;exact e h1
 have g1:x.st≤y.st+1:=by
  refine Classical.byContradiction fun q=>?_
  exact h.mn (y.st.toNat+1) (by omega) (by rw[←hc];exact k1)
 have g2:y.st+1≤x.st:=by
  refine Classical.byContradiction fun q=>?_
  refine k.mn (x.st.toNat-1) (by omega) ?_
  rw[itr_succ',hc,show x.st.toNat-1+1=x.st.toNat by omega]
  exact h1
 omega
theorem IsVal.next_se (h:IsVal f pr n v x) (k:IsVal f pr n (f v) y) (u:Int):u∈x.se↔u∈y.se∨(u=v∧0<relI pr v x.cy):=by
 have hc:=h.next_cy k
 rw[h.se,k.se,hc]
 constructor
 ·rintro⟨⟨j,hj⟩,hr⟩
  cases j with
  | zero=>exact .inr ⟨hj.symm,by have hj:(v:Int)=u:=hj;rw[hj];exact hr⟩
  | succ j=>exact .inl ⟨⟨j,by rw[itr_succ'];exact hj⟩,hr⟩
 ·rintro(⟨⟨j,hj⟩,hr⟩ | ⟨rfl,hr⟩)
  ·exact⟨⟨j+1,by rw[←itr_succ'];exact hj⟩,hr⟩
  ·exact⟨⟨0,rfl⟩,hr⟩
theorem IsVal.once (h:IsVal f pr n v x) (k:IsVal f pr n (f v) y) (hr:0<relI pr v x.cy):(v:Int)∉y.se:=by
 intro hu
 obtain⟨⟨j,hj⟩,_⟩:=(k.se _).1 hu
 rw[itr_succ']at hj
 have hp:itr f v (j+1)=v:=by omega
 have hi:Inf f v v:=by
  have key:∀i,itr f v (i*(j+1))=v:=by
   intro i
   induction i with
   | zero=>simp[itr]
   | succ i ih=>rw[show(i+1)*(j+1)=i*(j+1)+(j+1) by rw[Nat.add_mul,Nat.one_mul],←itr_sum,ih];exact hp
  intro N
  refine⟨N*(j+1),?_,key N⟩
  have:N*1≤N*(j+1):=Nat.mul_le_mul_left N (by omega)
  omega
 have:=h.mx _ hi
 omega
end
def cyI (pr:List Int) (u v:Int):Int:=if sgI pr u≠sgI pr v then sgI pr u else sgI pr u*relI pr u v
theorem relI_pos {pr:List Int} {u v:Int} :0<relI pr u v↔(prI pr v<prI pr u∨(prI pr u=prI pr v∧v<u)):=by
 unfold relI lex3
 simp only
 rcases cmp3_cases (prI pr u) (prI pr v) with⟨h,e⟩ | ⟨h,e⟩ | ⟨h,e⟩<;>rcases cmp3_cases u v with⟨g,e'⟩ | ⟨g,e'⟩ | ⟨g,e'⟩<;>rw[e,e']<;>simp<;>omega
theorem ordI_cy {pr:List Int} {a b:Vl} (hp:∀v,0≤prI pr v) (h:a.cy≠b.cy):ordI pr a b=cyI pr a.cy b.cy:=by
 unfold ordI lex3
 exact if_pos fun e=>h ((cycI_zero hp).1 e)
theorem ordI_se {pr:List Int} {a b:Vl} (hp:∀v,0≤prI pr v) (h:a.cy=b.cy) (h2:seenI pr a.se b.se≠0):ordI pr a b=seenI pr a.se b.se:=by
 unfold ordI lex3
 rw[if_neg (fun e=>e ((cycI_zero hp).2 h))]
 exact if_pos h2
theorem ordI_st {pr:List Int} {a b:Vl} (hp:∀v,0≤prI pr v) (h:a.cy=b.cy) (h2:seenI pr a.se b.se=0):ordI pr a b=stepI pr a b:=by
 unfold ordI lex3
 rw[if_neg (fun e=>e ((cycI_zero hp).2 h))]
 exact if_neg fun e=>e h2
section
variable {tab:FuncId→Option AF} (T:HasA tab)
include T
end
theorem ord3_cy {pr:List Int} (hp:∀v,0≤prI pr v):Ord3 (cyI pr):=(ord3_cyc hp).comap fun u=>(⟨u,[],0⟩:Vl)
theorem cyI_zero {pr:List Int} (hp:∀v,0≤prI pr v) {a b:Int} :cyI pr a b=0↔a=b:=cycI_zero hp (a:=⟨a,[],0⟩) (b:=⟨b,[],0⟩)
def expE (pr:List Int) (n i:Nat):Nat:=(prI pr i).toNat*n+i
theorem expE_lt {pr:List Int} (hp:∀v,0≤prI pr v) {n i j:Nat} (hi:i<n) (hj:j<n) (h:0<relI pr j i):expE pr n i<expE pr n j:=by
 unfold expE
 have h1:=hp i
 have h2:=hp j
 rcases relI_pos.1 h with h | ⟨h,g⟩
 ·have:(prI pr i).toNat+1≤(prI pr j).toNat:=by omega
  have:=Nat.mul_le_mul_right n this
  rw[Nat.add_mul,Nat.one_mul]at this
  omega
 ·rw[h];omega
theorem expE_inj {pr:List Int} (hp:∀v,0≤prI pr v) {n i j:Nat} (hi:i<n) (hj:j<n) (h:expE pr n i=expE pr n j):i=j:=by
 rcases relI_rng pr i j with e | e | e
 ·have:=(q21 pr).anti i j
  have:=expE_lt hp hi hj (by omega);omega
 ·have:=relI_zero.1 e;omega
 ·have:=expE_lt hp hj hi (by omega);omega
open Classical in
noncomputable def wt (s:Int) (pr:List Int) (n:Nat) (A:List Int):Int:=sumI (fun i=>(if(i:Int)∈A then s*sgI pr i else 0)*2^expE pr n i) n
noncomputable def phi (s:Int) (pr:List Int) (n:Nat) (x:Vl):Int:=(n+1)*wt s pr n x.se-s*sgI pr x.cy*x.st
structure VOk (n:Nat) (x:Vl):Prop where
 c0:0≤x.cy
 cn:x.cy<n
 se:∀u∈x.se,0≤u∧u<n
 rise:Rise (-1) x.se
 s0:0≤x.st
 sn:x.st<n
theorem IsVal.ok {f:Nat→Nat} {pr:List Int} {n v:Nat} {x:Vl} (hf:∀v,v<n→f v<n) (hv:v<n) (h:IsVal f pr n v x):VOk n x:=by
 refine⟨h.c0,h.cy_lt hf hv,fun u hu=>?_,h.rise,h.s0,h.sn⟩
 obtain⟨⟨j,hj⟩,_⟩:=(h.se u).1 hu
 have:=itr_lt hf hv j
 omega
theorem VOk.nn {n:Nat} {x:Vl} (h:VOk n x):Nn x.se:=fun u hu=>(h.se u hu).1
theorem sign_one {s:Int} (hs:s=1∨s= -1) {pr:List Int} (hp:∀v,0≤prI pr v) (v:Int):s*sgI pr v=1∨s*sgI pr v= -1:=by
 rcases hs with rfl | rfl<;>rcases q35 hp v with h | h<;>rw[h]<;>simp
theorem wt_ext (s:Int) (pr:List Int) (n:Nat) {A B:List Int} (h:∀u,u∈A↔u∈B):wt s pr n A=wt s pr n B:=by
 unfold wt
 refine sumI_congr fun i _=>?_
 simp only[h]
theorem wt_add {s:Int} {pr:List Int} {n v:Nat} {A B:List Int} {P:Prop} [Decidable P] (hv:v<n) (h:∀u:Int,u∈A↔u∈B∨(u=v∧P)) (hn:P→(v:Int)∉B):wt s pr n A=wt s pr n B+if P then s*sgI pr v*2^expE pr n v else 0:=by
 by_cases hP:P
 ·rw[if_pos hP]
  unfold wt
  rw[sumI_one (x:=v) hv,sumI_one (g:=fun i=>(if(i:Int)∈B then s*sgI pr i else 0)*2^expE pr n i) (x:=v) hv]
  rw[if_pos ((h v).2 (.inr ⟨rfl,hP⟩)),if_neg (hn hP),Int.zero_mul]
  have:sumI (fun i=>if i=v then 0 else(if(i:Int)∈A then s*sgI pr i else 0)*2^expE pr n i) n=sumI (fun i=>if i=v then 0 else(if(i:Int)∈B then s*sgI pr i else 0)*2^expE pr n i) n:=by
   refine sumI_congr fun i _=>?_
   by_cases e:i=v
   ·rw[if_pos e,if_pos e]
   ·rw[if_neg e,if_neg e]
    have:(i:Int)∈A↔(i:Int)∈B:=by rw[h];exact⟨fun q=>q.elim id fun q=>absurd (by omega) e,.inl⟩
    simp only[this]
  rw[this];omega
 ·rw[if_neg hP,Int.add_zero]
  exact wt_ext s pr n fun u=>by rw[h];exact⟨fun q=>q.elim id fun q=>absurd q.2 hP,.inl⟩
theorem wt_gt {s:Int} (hs:s=1∨s= -1) {pr:List Int} (hp:∀v,0≤prI pr v) {n:Nat} {A B:List Int} (hA:∀u∈A,0≤u∧u<n) (hB:∀u∈B,0≤u∧u<n) (h:0<s*seenI pr A B):wt s pr n B+1≤wt s pr n A:=by
 have sp:=seenI_spec (pr:=pr) (fun u hu=>(hA u hu).1) (fun u hu=>(hB u hu).1)
 rcases sp with⟨_,e⟩ | ⟨x,hx,mx⟩
 ·rw[e,Int.mul_zero]at h;omega
 have hxr:0≤x∧x<n:=by
  rcases hx with⟨q,_⟩ | ⟨q,_⟩
  ·exact hA x q
  ·exact hB x q
 have key:0<sumI (fun i=>((if(i:Int)∈A then s*sgI pr i else 0)-(if(i:Int)∈B then s*sgI pr i else 0))*2^expE pr n i) n:=by
  refine lead (E:=expE pr n) (x:=x.toNat) (fun i j hi hj=>expE_inj hp hi hj) (by omega) (fun i hi=>?_) ?_ (fun i hi hne hd=>?_)
  ·rcases sign_one hs hp i with g | g<;>split<;>split<;>omega
  ·rw[show((x.toNat:Nat):Int)=x by omega]
   have g:=sign_one hs hp x
   rcases hx with⟨h1,h2,h3⟩ | ⟨h1,h2,h3⟩
   ·rw[if_pos h1,if_neg h2];rw[h3]at h;omega
   ·rw[if_neg h2,if_pos h1];rw[h3,Int.mul_neg]at h;omega
  ·have hdif:((i:Int)∈A∧(i:Int)∉B)∨((i:Int)∈B∧(i:Int)∉A):=by
    by_cases h1:(i:Int)∈A<;>by_cases h2:(i:Int)∈B
    ·rw[if_pos h1,if_pos h2]at hd;omega
    ·exact .inl ⟨h1,h2⟩
    ·exact .inr ⟨h2,h1⟩
    ·rw[if_neg h1,if_neg h2]at hd;omega
   have hm:=mx i hdif
   have hz:relI pr i x≠0:=fun q=>hne (by have:=relI_zero.1 q;omega)
   have ha:=(q21 pr).anti x i
   refine expE_lt hp hi (by omega) ?_
   rw[show((x.toNat:Nat):Int)=x by omega]
   omega
 have e:sumI (fun i=>((if(i:Int)∈A then s*sgI pr i else 0)-(if(i:Int)∈B then s*sgI pr i else 0))*2^expE pr n i) n=wt s pr n A-wt s pr n B:=by
  unfold wt
  rw[←sumI_sub]
  refine sumI_congr fun i _=>?_
  rw[Int.sub_mul]
 omega
section
variable {s:Int} (hs:s=1∨s= -1) {pr:List Int} (hp:∀v,0≤prI pr v) {n:Nat} {x y:Vl}
include hs hp
theorem phi_gt (hx:VOk n x) (hy:VOk n y) (hc:x.cy=y.cy) (h:0<s*ordI pr x y):phi s pr n y<phi s pr n x:=by
 have c0:=hx.s0;have c1:=hx.sn;have c2:=hy.s0;have c3:=hy.sn
 have hg:=sign_one hs hp y.cy
 have hm1:s*sgI pr y.cy*x.st=x.st∨s*sgI pr y.cy*x.st= -x.st:=by rcases hg with g | g<;>rw[g]<;>simp
 have hm2:(s*sgI pr y.cy*x.st=x.st∧s*sgI pr y.cy*y.st=y.st)∨(s*sgI pr y.cy*x.st= -x.st∧s*sgI pr y.cy*y.st= -y.st):=by rcases hg with g | g<;>rw[g]<;>simp
 unfold phi
 rw[hc]
 by_cases h2:seenI pr x.se y.se=0
 ·rw[ordI_st hp hc h2]at h
  have e:wt s pr n x.se=wt s pr n y.se:=by
   refine wt_ext s pr n fun u=>?_
   have sp:=seenI_spec (pr:=pr) hx.nn hy.nn
   rw[h2]at sp
   rcases sp with⟨e,_⟩ | ⟨z,hz,_⟩
   ·exact e u
   ·rcases q35 hp z with g | g<;>rcases hz with⟨_,_,q⟩ | ⟨_,_,q⟩<;>omega
  rw[e]
  unfold stepI at h
  rw[hc,←Int.mul_assoc]at h
  rcases hg with g | g<;>rw[g]at h ⊢ <;>rcases cmp3_cases y.st x.st with⟨q,e'⟩ | ⟨q,e'⟩ | ⟨q,e'⟩<;>rw[e']at h<;>omega
 ·rw[ordI_se hp hc h2]at h
  have hw:=wt_gt hs hp hx.se hy.se h
  have hd:((n:Int)+1)*(wt s pr n y.se+1)≤(n+1)*wt s pr n x.se:=Int.mul_le_mul_of_nonneg_left hw (by omega)
  rw[Int.mul_add,Int.mul_one]at hd
  omega
theorem phi_le (hx:VOk n x) (hy:VOk n y) (hc:x.cy=y.cy):0≤s*ordI pr x y↔phi s pr n y≤phi s pr n x:=by
 have an:ordI pr y x= -ordI pr x y:=(ord3_ord hp).anti ⟨x,hx.nn⟩ ⟨y,hy.nn⟩
 have an2:s*ordI pr y x= -(s*ordI pr x y):=by rw[an,Int.mul_neg]
 constructor
 ·intro h
  by_cases e:s*ordI pr x y=0
  ·have z:ordI pr x y=0:=by rcases hs with rfl | rfl<;>omega
   rw[(ordI_zero hp hx.rise hy.rise).1 z];exact Int.le_refl _
  ·have:=phi_gt hs hp hx hy hc (by omega);omega
 ·intro h
  refine Classical.byContradiction fun q=>?_
  have:=phi_gt hs hp hy hx hc.symm (by omega)
  omega
end
noncomputable def dlt (s:Int) (pr:List Int) (n:Nat) (c:Int) (v:Nat):Int:=(n+1)*(if 0<relI pr v c then s*sgI pr v*2^expE pr n v else 0)-s*sgI pr c
theorem phi_next {s:Int} {pr:List Int} {f:Nat→Nat} {n v:Nat} {x y:Vl} (hv:v<n) (h:IsVal f pr n v x) (k:IsVal f pr n (f v) y) (e:(v:Int)≠x.cy):phi s pr n x=phi s pr n y+dlt s pr n x.cy v:=by
 unfold phi dlt
 rw[wt_add (s:=s) (pr:=pr) hv (h.next_se k) (fun q=>h.once k q),h.next_st k e,h.next_cy k,Int.mul_add,Int.mul_add (s*sgI pr x.cy),Int.mul_one]
 omega
theorem phi_at {s:Int} {pr:List Int} {f:Nat→Nat} {n v:Nat} {x:Vl} (h:IsVal f pr n v x) (e:(v:Int)=x.cy):phi s pr n x=0:=by
 obtain⟨h1,h2⟩:=h.at e
 unfold phi
 rw[h1,h2,Int.mul_zero,Int.sub_zero]
 have:wt s pr n []=0:=by
  unfold wt
  exact sumI_zero fun i _=>by rw[if_neg (by simp),Int.zero_mul]
 rw[this,Int.mul_zero]
theorem phi_atn {s:Int} {pr:List Int} {f:Nat→Nat} {n v:Nat} {x y:Vl} (h:IsVal f pr n v x) (k:IsVal f pr n (f v) y) (e:(v:Int)=x.cy):phi s pr n y= -(s*sgI pr x.cy*y.st):=by
 obtain⟨h1,h2⟩:=h.at e
 unfold phi
 have:wt s pr n y.se=0:=by
  unfold wt
  refine sumI_zero fun i _=>?_
  rw[if_neg (fun q=>?_),Int.zero_mul]
  have:=(h.next_se k i).2 (.inl q)
  rw[h1]at this
  cases this
 rw[this,Int.mul_zero,h.next_cy k];omega
end Go.Am.Ar

