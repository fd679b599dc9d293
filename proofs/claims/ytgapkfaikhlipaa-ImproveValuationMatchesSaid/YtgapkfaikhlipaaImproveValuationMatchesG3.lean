/- Plain: values of plays under a strategy of both players: what a move changes, and what goes with it. -/
import Derived.Test.YtgapkfaikhlipaaImproveValuationMatchesG0
import Derived.Test.YtgapkfaikhlipaaImproveValuationMatchesG2
import Derived.Test.YtgapkfaikhlipaaImproveValuationMatchesG1
import Derived.Test.YtgapkfaikhlipaaPmC
set_option linter.unusedVariables false
set_option linter.unusedSimpArgs false
namespace Go.Am.Ar
open Go.Am.PV renaming junk→Zj
def Inf (f:Nat→Nat) (v x:Nat):Prop:=∀N,∃j,N≤j∧itr f v j=x
theorem itr_succ' (f:Nat→Nat) (v:Nat):∀j,itr f (f v) j=itr f v (j+1)
 | 0=>rfl
 | j+1=>by show f _=f _;rw[itr_succ' f v j]
theorem itr_sum (f:Nat→Nat) (v i:Nat):∀j,itr f (itr f v i) j=itr f v (i+j)
 | 0=>rfl
 | j+1=>by show f (itr f (itr f v i) j)=f (itr f v (i+j));rw[itr_sum f v i j]
theorem Inf.next {f:Nat→Nat} {v x:Nat} :Inf f (f v) x↔Inf f v x:=by
 constructor
 ·intro h N
  obtain⟨j,h1,h2⟩:=h N
  exact⟨j+1,by omega,by rw[←itr_succ'];exact h2⟩
 ·intro h N
  obtain⟨j,h1,h2⟩:=h (N+1)
  obtain⟨k,rfl⟩:∃k,j=k+1:=⟨j-1,by omega⟩
  exact⟨k,by omega,by rw[itr_succ'];exact h2⟩
theorem Inf.itr {f:Nat→Nat} {v x:Nat} :∀i,Inf f (itr f v i) x↔Inf f v x
 | 0=>Iff.rfl
 | i+1=>by show Inf f (f (Go.Am.Ar.itr f v i)) x↔_;rw[Inf.next,Inf.itr i]
theorem Inf.follow {f:Nat→Nat} {v x:Nat} (h:Inf f v x) (j:Nat):Inf f v (Go.Am.Ar.itr f x j):=by
 intro N
 obtain⟨k,h1,h2⟩:=h N
 exact⟨k+j,by omega,by rw[←itr_sum,h2]⟩
structure IsVal (f:Nat→Nat) (pr:List Int) (n v:Nat) (x:Vl):Prop where
 c0:0≤x.cy
 inf:Inf f v x.cy.toNat
 mx:∀y:Nat,Inf f v y→relI pr y x.cy≤0
 rise:Rise (-1) x.se
 se:∀u:Int,u∈x.se↔(∃j,((itr f v j:Nat):Int)=u)∧0<relI pr u x.cy
 s0:0≤x.st
 sn:x.st<n
 st:((itr f v x.st.toNat:Nat):Int)=x.cy
 mn:∀j:Nat,(j:Int)<x.st→((itr f v j:Nat):Int)≠x.cy
theorem IsPlay.reach {f:Nat→Nat} {n v m k:Nat} {p l:List Int} (h:IsPlay f v n p l m k):∀j,∃i,i<m∧itr f v j=itr f v i
 | 0=>⟨0,by have:=h.km;omega,rfl⟩
 | j+1=>by
  obtain⟨i,h1,h2⟩:=h.reach j
  by_cases e:i+1<m
  ·exact⟨i+1,e,by show f _=f _;rw[h2]⟩
  ·have e:i+1=m:=by omega
   refine⟨k,h.km,?_⟩
   rw[←h.back,←e]
   show f _=f _;rw[h2]
theorem IsPlay.per {f:Nat→Nat} {n v m k:Nat} {p l:List Int} (h:IsPlay f v n p l m k):∀i j,k≤j→itr f v (j+i*(m-k))=itr f v j
 | 0,j,_=>by simp
 | i+1,j,hj=>by
  have hkm:=h.km
  have e1:itr f v (j+(m-k))=itr f v j:=by
   have e:j+(m-k)=m+(j-k):=by omega
   rw[e,←itr_sum,h.back,itr_sum];congr 1;omega
  have:=h.per i (j+(m-k)) (by omega)
  rw[e1]at this
  rw[←this];congr 1;rw[Nat.add_mul];omega
theorem IsPlay.inf {f:Nat→Nat} {n v m k:Nat} {p l:List Int} (h:IsPlay f v n p l m k) (x:Nat):Inf f v x↔∃j,k≤j∧j<m∧itr f v j=x:=by
 have hkm:=h.km
 constructor
 ·intro hi
  obtain⟨j,h1,h2⟩:=hi k
  --reduce j below m
  have key:∀d j,j≤d→k≤j→∃i,k≤i∧i<m∧itr f v j=itr f v i:=by
   intro d
   induction d with
   | zero=>intro j hj hk;exact⟨j,hk,by omega,rfl⟩
   | succ d ih=>
    intro j hj hk
    by_cases e:j<m
    ·exact⟨j,hk,e,rfl⟩
    ·obtain⟨i,g1,g2,g3⟩:=ih (j-(m-k)) (by omega) (by omega)
     refine⟨i,g1,g2,?_⟩
     rw[←g3,←h.per 1 (j-(m-k)) (by omega)]
     congr 1;omega
  obtain⟨i,g1,g2,g3⟩:=key j j (Nat.le_refl _) h1
  exact⟨i,g1,g2,by rw[←g3];exact h2⟩
 ·rintro⟨j,h1,h2,rfl⟩ N
  refine⟨j+N*(m-k),?_,h.per N j h1⟩
  have:N*1≤N*(m-k):=Nat.mul_le_mul_left N (by omega)
  omega
theorem natI_get {l:List Nat} {i:Nat} :(natI l)[i]? =l[i]?.map fun(v:Nat)=>(v:Int):=by rw[List.getElem?_map]
theorem folV_val {f:Nat→Nat} {pr:List Int} {n v m k:Nat} {p l:List Int} (h:IsPlay f v n p l m k) (hf:∀v,v<n→f v<n) (hv:v<n):IsVal f pr n v (folV n pr p l):=by
 obtain⟨hnd,hran,hlen,hne⟩:=h.facts hf hv
 have hall:=h.all
 have hll:=h.len
 have hkm:=h.km
 obtain⟨x,xs,hL⟩:∃x xs,l=x::xs:=by cases l with | nil=>exact absurd rfl hne | cons x xs=>exact⟨x,xs,rfl⟩
 obtain⟨w,hw⟩:∃w,w=maxR pr x xs:=⟨_,rfl⟩
 have hwl:w∈l:=by
  rw[hL]
  rcases maxR_mem pr xs x with g | g
  ·rw[hw,g];simp
  ·rw[hw];exact List.mem_cons_of_mem _ g
 have hval:folV n pr p l=⟨w,seF n pr (p++l) w,idxI w 0 (p++l)⟩:=by rw[hL];simp only[folV];rw[←hw]
 have hmem:∀u:Int,u∈p++l↔∃j,j<m∧((itr f v j:Nat):Int)=u:=fun u=>by
  rw[hall]
  constructor
  ·intro hu
   obtain⟨a,ha,rfl⟩:=List.mem_map.1 hu
   obtain⟨j,h1,h2⟩:=its_mem.1 ha
   exact⟨j,h1,by rw[h2]⟩
  ·rintro⟨j,h1,rfl⟩
   exact List.mem_map.2 ⟨_,its_mem.2 ⟨j,h1,rfl⟩,rfl⟩
 have hlm:∀u:Int,u∈l↔∃j,k≤j∧j<m∧((itr f v j:Nat):Int)=u:=fun u=>by
  rw[h.l]
  constructor
  ·intro hu
   obtain⟨a,ha,rfl⟩:=List.mem_map.1 hu
   obtain⟨j,hj⟩:=List.getElem?_of_mem ha
   rw[List.getElem?_drop]at hj
   have hj2:=q12 hj
   rw[its_len]at hj2
   rw[its_get hj2]at hj
   simp only[Option.some.injEq]at hj
   exact⟨k+j,by omega,hj2,by rw[hj]⟩
  ·rintro⟨j,h1,h2,rfl⟩
   refine List.mem_map.2 ⟨_,?_,rfl⟩
   refine List.mem_of_getElem? (i:=j-k) ?_
   rw[List.getElem?_drop,show k+(j-k)=j by omega,its_get h2]
 have hwr:=hran w (List.mem_append.2 (.inr hwl))
 obtain⟨jw,hj1,hj2,hj3⟩:=(hlm w).1 hwl
 have hidx:∃i,i<m∧((itr f v i:Nat):Int)=w∧(∀j,j<i→((itr f v j:Nat):Int)≠w)∧idxI w 0 (p++l)=(i:Int):=by
  rcases idxI_spec w (p++l) 0 with⟨h1,_⟩ | ⟨i,h1,h2,h3⟩
  ·exact absurd (List.mem_append.2 (.inr hwl)) h1
  ·have hi:=q12 h1
   rw[hall,List.length_map,its_len]at hi
   have hg:∀j,j<m→(p++l)[j]? =some ((itr f v j:Nat):Int):=fun j hj=>by rw[hall,natI_get,its_get hj];rfl
   refine⟨i,hi,?_,fun j hj e=>h2 ?_,by rw[h3];omega⟩
   ·rw[hg i hi]at h1;simpa using h1
   ·refine List.mem_of_getElem? (i:=j) ?_
    rw[List.getElem?_take,if_pos hj,hg j (by omega),e]
 obtain⟨i,hi1,hi2,hi3,hi4⟩:=hidx
 rw[hval,hi4]
 have hmn:=h.mn
 refine⟨hwr.1,(h.inf _).2 ⟨jw,hj1,hj2,by show _=w.toNat;omega⟩,fun y hy=>?_,seF_rise _ _ _ _,fun u=>?_,by show(0:Int)≤i;omega,by show(i:Int)<n;omega,by show((itr f v ((i:Int)).toNat:Nat):Int)=w;rw[Int.toNat_natCast];exact hi2,fun j hj=>hi3 j (by have hj:(j:Int)<i:=hj;omega)⟩
 ·obtain⟨j,g1,g2,g3⟩:=(h.inf y).1 hy
  have hyl:(y:Int)∈l:=(hlm y).2 ⟨j,g1,g2,by rw[g3]⟩
  rw[hL]at hyl
  show relI pr y w≤0
  rw[hw]
  rcases List.mem_cons.1 hyl with e | hyl
  ·rw[e];exact(maxR_ge pr xs x).1
  ·exact(maxR_ge pr xs x).2 _ hyl
 ·show u∈seF n pr (p++l) w↔_
  rw[seF_mem,hmem]
  constructor
  ·rintro⟨_,⟨j,_,h2⟩,h3⟩;exact⟨⟨j,h2⟩,h3⟩
  ·rintro⟨⟨j,h2⟩,h3⟩
   obtain⟨i',g1,g2⟩:=h.reach j
   have hu:u∈p++l:=(hmem u).2 ⟨i',g1,by rw[←g2];exact h2⟩
   exact⟨hran u hu,⟨i',g1,by rw[←g2];exact h2⟩,h3⟩
section
variable {f:Nat→Nat} {pr:List Int} {n v:Nat} {x y:Vl}
theorem rel_le_eq {a b:Int} (h1:relI pr a b≤0) (h2:relI pr b a≤0):a=b:=by
 have:=(q18 pr).anti a b
 exact relI_zero.1 (show relI pr a b=0 by omega)
theorem IsVal.cyE (h:IsVal f pr n v x):((x.cy.toNat:Nat):Int)=x.cy:=by have:=h.c0;omega
theorem IsVal.cy_lt (hf:∀v,v<n→f v<n) (hv:v<n) (h:IsVal f pr n v x):x.cy<n:=by
 have:=itr_lt hf hv x.st.toNat
 have:=h.st
 omega
theorem IsVal.next_cy (h:IsVal f pr n v x) (k:IsVal f pr n (f v) y):y.cy=x.cy:=by
 have h1:=h.mx _ (Inf.next.1 k.inf)
 have h2:=k.mx _ (Inf.next.2 h.inf)
 rw[k.cyE]at h1
 rw[h.cyE]at h2
 exact rel_le_eq h1 h2
theorem IsVal.at (h:IsVal f pr n v x) (e:(v:Int)=x.cy):x.se=[]∧x.st=0:=by
 constructor
 ·refine List.eq_nil_iff_forall_not_mem.2 fun u hu=>?_
  obtain⟨⟨j,hj⟩,hr⟩:=(h.se u).1 hu
  have hi:Inf f v (itr f v j):=by
   have:=h.inf.follow j
   rwa [show x.cy.toNat=v by omega]at this
  have:=h.mx _ hi
  rw[hj]at this
  omega
 ·have h0:=h.s0
  refine Classical.byContradiction fun hne=>?_
  exact h.mn 0 (by omega) e
theorem IsVal.next_st (h:IsVal f pr n v x) (k:IsVal f pr n (f v) y) (e:(v:Int)≠x.cy):x.st=y.st+1:=by
 have hc:=h.next_cy k
 have h0:=h.s0
 have k0:=k.s0
 have h1:=h.st
 have k1:=k.st
 rw[itr_succ']at k1
 have hpos:x.st≠0:=fun q=>by rw[q]at h1;exact e h1
 have g1:x.st≤y.st+1:=by
  refine Classical.byContradiction fun q=>?_
  exact h.mn (y.st.toNat+1) (by omega) (by rw[←hc];exact k1)
 have g2:y.st+1≤x.st:=by
  refine Classical.byContradiction fun q=>?_
  refine k.mn (x.st.toNat-1) (by omega) ?_
  rw[itr_succ',hc,show x.st.toNat-1+1=x.st.toNat by omega]
  exact h1
 omega
theorem IsVal.next_se (h:IsVal f pr n v x) (k:IsVal f pr n (f v) y) (u:Int):u∈x.se↔u∈y.se∨(u=v∧0<relI pr v x.cy):=by
 have hc:=h.next_cy k
 rw[h.se,k.se,hc]
 constructor
 ·rintro⟨⟨j,hj⟩,hr⟩
  cases j with
  | zero=>exact .inr ⟨hj.symm,by have hj:(v:Int)=u:=hj;rw[hj];exact hr⟩
  | succ j=>exact .inl ⟨⟨j,by rw[itr_succ'];exact hj⟩,hr⟩
 ·rintro(⟨⟨j,hj⟩,hr⟩ | ⟨rfl,hr⟩)
  ·exact⟨⟨j+1,by rw[←itr_succ'];exact hj⟩,hr⟩
  ·exact⟨⟨0,rfl⟩,hr⟩
theorem IsVal.once (h:IsVal f pr n v x) (k:IsVal f pr n (f v) y) (hr:0<relI pr v x.cy):(v:Int)∉y.se:=by
 intro hu
 obtain⟨⟨j,hj⟩,_⟩:=(k.se _).1 hu
 rw[itr_succ']at hj
 have hp:itr f v (j+1)=v:=by omega
 have hi:Inf f v v:=by
  have key:∀i,itr f v (i*(j+1))=v:=by
   intro i
   induction i with
   | zero=>simp[itr]
   | succ i ih=>rw[show(i+1)*(j+1)=i*(j+1)+(j+1) by rw[Nat.add_mul,Nat.one_mul],←itr_sum,ih];exact hp
  intro N
  refine⟨N*(j+1),?_,key N⟩
  have:N*1≤N*(j+1):=Nat.mul_le_mul_left N (by omega)
  omega
 have:=h.mx _ hi
 omega
end
set_option maxRecDepth 10000
open Go.Am renaming pchk→P1,pold→P2,PKNo→P3,ppack→P4,PObj.under→P5,pput→P6,ptset→P7,q55→P8,pev→P9,ofAV→P10,q31→P11,ppad→P12,pfill→P13,q30→P14,AO.effect→P15
open List renaming replicate→L1
open Nat renaming reduceAdd→N1,reduceSub→N2,reduceMul→N3,reduceLT→N4,reduceLeDiff→N5,reduceEqDiff→N6,reduceBEq→N7
open Int renaming reduceToNat→I1,reduceLT→I2,reduceLE→I3,reduceEq→I4,reduceAdd→I5,reduceSub→I6,reduceNeg→I7
def cyI (pr:List Int) (u v:Int):Int:=if sgI pr u≠sgI pr v then sgI pr u else sgI pr u*relI pr u v
theorem par_cases {pr:List Int} {v:Int} (h:0≤prI pr v):((prI pr v).tmod 2=0∧sgI pr v=1)∨((prI pr v).tmod 2=1∧sgI pr v= -1):=by
 unfold sgI
 rw[Int.tmod_eq_emod_of_nonneg h];omega
theorem relI_pos {pr:List Int} {u v:Int} :0<relI pr u v↔(prI pr v<prI pr u∨(prI pr u=prI pr v∧v<u)):=by
 unfold relI lex3
 simp only
 rcases q45 (prI pr u) (prI pr v) with⟨h,e⟩ | ⟨h,e⟩ | ⟨h,e⟩<;>rcases q45 u v with⟨g,e'⟩ | ⟨g,e'⟩ | ⟨g,e'⟩<;>rw[e,e']<;>simp<;>omega
def Dif (a b:List Int) (v:Int):Prop:=(v∈a∧v∉b)∨(v∈b∧v∉a)
open Classical in
theorem dif_dec (a b:List Int) (v:Int):(!(decide (v∈a)==decide (v∈b)))=decide (Dif a b v):=by
 unfold Dif
 by_cases h1:v∈a<;>by_cases h2:v∈b<;>simp[h1,h2]
theorem seenI_none {pr a b:List Int} (ha:Nn a) (hb:Nn b) (h:∀v,¬Dif a b v):seenI pr a b=0:=by
 refine(q51 ha hb).fun (.inl ⟨fun v=>?_,rfl⟩)
 have:=h v
 unfold Dif at this
 by_cases h1:v∈a<;>by_cases h2:v∈b<;>simp_all
theorem seenI_some {pr a b:List Int} {x:Int} (ha:Nn a) (hb:Nn b) (hx:Dif a b x) (h:∀v,Dif a b v→relI pr v x≤0):seenI pr a b=if x∈a then sgI pr x else-sgI pr x:=by
 refine(q51 ha hb).fun (.inr ⟨x,?_,h⟩)
 rcases hx with⟨h1,h2⟩ | ⟨h1,h2⟩
 ·exact .inl ⟨h1,h2,if_pos h1⟩
 ·exact .inr ⟨h1,h2,if_neg h2⟩
theorem ordI_cy {pr:List Int} {a b:Vl} (hp:∀v,0≤prI pr v) (h:a.cy≠b.cy):ordI pr a b=cyI pr a.cy b.cy:=by
 unfold ordI lex3
 exact if_pos fun e=>h ((cycI_zero hp).1 e)
theorem ordI_se {pr:List Int} {a b:Vl} (hp:∀v,0≤prI pr v) (h:a.cy=b.cy) (h2:seenI pr a.se b.se≠0):ordI pr a b=seenI pr a.se b.se:=by
 unfold ordI lex3
 rw[if_neg (fun e=>e ((cycI_zero hp).2 h))]
 exact if_pos h2
theorem ordI_st {pr:List Int} {a b:Vl} (hp:∀v,0≤prI pr v) (h:a.cy=b.cy) (h2:seenI pr a.se b.se=0):ordI pr a b=stepI pr a b:=by
 unfold ordI lex3
 rw[if_neg (fun e=>e ((cycI_zero hp).2 h))]
 exact if_neg fun e=>e h2
section
variable {tab:FuncId→Option AF} (T:HasA tab)
include T
theorem relevant_p {M:Mem} {K:PV→Mem→Prop} {F:GF} {ow pr:List Int} {su:List (List Int)} {u v:Int} (u0:0≤u) (u1:u<pr.length) (v0:0≤v) (v1:v<pr.length)
  (hk:K (.bool (decide (0<relI pr u v))) M):SemC tab 59 [.agg (gmF F ow pr su),p64 u,p64 v] M K:=by
 refine q11 T.h59 (by simp only[PP,P1,P2,P3,P4,P5,P6,P7,P8,P9,P10,P11,P12,P13,P14,L1,P15,N1,N2,N3,N4,N5,N6,N7,I1,I2,I3,I4,I5,I6,I7,reduceIte,reduceCtorEq,PV.under]) ?_
 have gu:=prI_get u0 u1
 have gv:=prI_get v0 v1
 simp only[af59,PP,P1,P2,P3,P4,P5,P6,P7,P8,P9,P10,P11,P12,P13,P14,L1,P15,N1,N2,N3,N4,N5,N6,N7,I1,I2,I3,I4,I5,I6,I7,reduceIte,reduceCtorEq,u0,u1,v0,v1,gu,gv]
 have e:=relI_pos (pr:=pr) (u:=u) (v:=v)
 refine QIf.intro (fun c=>?_) (fun c=>?_)
 ·have:0<relI pr u v:=e.2 (.inl c)
  simp only[PP,P1,P2,P3,P4,P5,P6,P7,P8,P9,P10,P11,P12,P13,P14,L1,P15,N1,N2,N3,N4,N5,N6,N7,I1,I2,I3,I4,I5,I6,I7,reduceIte,reduceCtorEq,c,this]at hk ⊢
  exact hk
 ·simp only[PP,P1,P2,P3,P4,P5,P6,P7,P8,P9,P10,P11,P12,P13,P14,L1,P15,N1,N2,N3,N4,N5,N6,N7,I1,I2,I3,I4,I5,I6,I7,reduceIte,reduceCtorEq,c,u0,u1,v0,v1,gu,gv]
  refine QIf.intro (fun d=>?_) (fun d=>?_)
  ·have e2:decide (0<relI pr u v)=decide (v<u):=by congr 1;exact propext (e.trans ⟨fun h=>h.elim (fun h=>absurd h c) (fun h=>h.2),fun h=> .inr ⟨d,h⟩⟩)
   rw[e2]at hk
   simp only[PP,P1,P2,P3,P4,P5,P6,P7,P8,P9,P10,P11,P12,P13,P14,L1,P15,N1,N2,N3,N4,N5,N6,N7,I1,I2,I3,I4,I5,I6,I7,reduceIte,reduceCtorEq,d]
   exact hk
  ·have:¬0<relI pr u v:=fun h=>(e.1 h).elim c fun h=>d h.1
   simp only[PP,P1,P2,P3,P4,P5,P6,P7,P8,P9,P10,P11,P12,P13,P14,L1,P15,N1,N2,N3,N4,N5,N6,N7,I1,I2,I3,I4,I5,I6,I7,reduceIte,reduceCtorEq,this]at hk
   simp only[PP,P1,P2,P3,P4,P5,P6,P7,P8,P9,P10,P11,P12,P13,P14,L1,P15,N1,N2,N3,N4,N5,N6,N7,I1,I2,I3,I4,I5,I6,I7,reduceIte,reduceCtorEq,d]
   exact hk
theorem better_p {M:Mem} {K:PV→Mem→Prop} {F:GF} {ow pr:List Int} {su:List (List Int)} {u v:Int} (hp:∀v,0≤prI pr v) (u0:0≤u) (u1:u<pr.length) (v0:0≤v) (v1:v<pr.length)
  (hk:K (.bool (decide (0<cyI pr u v))) M):SemC tab 78 [.agg (gmF F ow pr su),p64 u,p64 v] M K:=by
 refine q11 T.h78 (by simp only[PP,P1,P2,P3,P4,P5,P6,P7,P8,P9,P10,P11,P12,P13,P14,L1,P15,N1,N2,N3,N4,N5,N6,N7,I1,I2,I3,I4,I5,I6,I7,reduceIte,reduceCtorEq,PV.under]) ?_
 have gu:=prI_get u0 u1
 have gv:=prI_get v0 v1
 have pu:=par_cases (hp u)
 have pv:=par_cases (hp v)
 simp only[af78,PP,P1,P2,P3,P4,P5,P6,P7,P8,P9,P10,P11,P12,P13,P14,L1,P15,N1,N2,N3,N4,N5,N6,N7,I1,I2,I3,I4,I5,I6,I7,reduceIte,reduceCtorEq,u0,u1,v0,v1,gu,gv,prem (show(2:Int)≠0 by decide)]
 unfold cyI at hk
 refine QIf.intro (fun c=>?_) (fun c=>?_)
 ·have cs:sgI pr u=sgI pr v:=by omega
  rw[if_neg (fun h=>h cs)]at hk
  simp only[PP,P1,P2,P3,P4,P5,P6,P7,P8,P9,P10,P11,P12,P13,P14,L1,P15,N1,N2,N3,N4,N5,N6,N7,I1,I2,I3,I4,I5,I6,I7,reduceIte,reduceCtorEq,c]
  by_cases d:u=v
  ·subst d
   simp only[PP,P1,P2,P3,P4,P5,P6,P7,P8,P9,P10,P11,P12,P13,P14,L1,P15,N1,N2,N3,N4,N5,N6,N7,I1,I2,I3,I4,I5,I6,I7,reduceIte,reduceCtorEq]
   rw[(q18 pr).self]at hk
   simp only[PP,P1,P2,P3,P4,P5,P6,P7,P8,P9,P10,P11,P12,P13,P14,L1,P15,N1,N2,N3,N4,N5,N6,N7,I1,I2,I3,I4,I5,I6,I7,reduceIte,reduceCtorEq,Int.mul_zero,Int.lt_irrefl]at hk
   exact hk
  ·have hz:relI pr u v≠0:=fun h=>d (relI_zero.1 h)
   simp only[PP,P1,P2,P3,P4,P5,P6,P7,P8,P9,P10,P11,P12,P13,P14,L1,P15,N1,N2,N3,N4,N5,N6,N7,I1,I2,I3,I4,I5,I6,I7,reduceIte,reduceCtorEq,d]
   refine relevant_p T u0 u1 v0 v1 ?_
   simp only[PP,P1,P2,P3,P4,P5,P6,P7,P8,P9,P10,P11,P12,P13,P14,L1,P15,N1,N2,N3,N4,N5,N6,N7,I1,I2,I3,I4,I5,I6,I7,reduceIte,reduceCtorEq]
   have e:decide (0<sgI pr u*relI pr u v)=(decide (0<relI pr u v)==decide ((prI pr v).tmod 2=0)):=by
    rcases relI_rng pr u v with r | r | r
    ·rw[r];rcases pu with⟨p1,p2⟩ | ⟨p1,p2⟩<;>rw[p2,←c,p1]<;>decide
    ·exact absurd r hz
    ·rw[r];rcases pu with⟨p1,p2⟩ | ⟨p1,p2⟩<;>rw[p2,←c,p1]<;>decide
   rw[e]at hk
   exact hk
 ·have cs:sgI pr u≠sgI pr v:=by omega
  rw[if_pos cs]at hk
  simp only[PP,P1,P2,P3,P4,P5,P6,P7,P8,P9,P10,P11,P12,P13,P14,L1,P15,N1,N2,N3,N4,N5,N6,N7,I1,I2,I3,I4,I5,I6,I7,reduceIte,reduceCtorEq,c]
  have e:decide (0<sgI pr u)=decide ((prI pr u).tmod 2=0):=by
   rcases pu with⟨p1,p2⟩ | ⟨p1,p2⟩<;>rw[p1,p2]<;>decide
  rw[e]at hk
  exact hk
theorem rcompare_p {M:Mem} {K:PV→Mem→Prop} {F:GF} {fa oa fb ob:Bool} {ow pr:List Int} {su:List (List Int)} {a b:Vl} (hl:pr.length=ow.length) (hlb:ow.length<big) (hp:∀v,0≤prI pr v) (ia:InV pr.length a) (ib:InV pr.length b)
  (hk:K (p64 (ordI pr a b)) M):SemC tab 49 [.agg (gmF F ow pr su),.agg (vlL fa oa a),.agg (vlL fb ob b)] M K:=by
 refine q11 T.h49 (by simp only[PP,P1,P2,P3,P4,P5,P6,P7,P8,P9,P10,P11,P12,P13,P14,L1,P15,N1,N2,N3,N4,N5,N6,N7,I1,I2,I3,I4,I5,I6,I7,reduceIte,reduceCtorEq,PV.under]) ?_
 have hlb':ow.length<1000000000000:=hlb
 simp only[af49,PP,P1,P2,P3,P4,P5,P6,P7,P8,P9,P10,P11,P12,P13,P14,L1,P15,N1,N2,N3,N4,N5,N6,N7,I1,I2,I3,I4,I5,I6,I7,reduceIte,reduceCtorEq]
 refine QIf.intro (fun c=>?_) (fun c=>?_)
 rotate_left
 ·rw[ordI_cy hp c]at hk
  simp only[PP,P1,P2,P3,P4,P5,P6,P7,P8,P9,P10,P11,P12,P13,P14,L1,P15,N1,N2,N3,N4,N5,N6,N7,I1,I2,I3,I4,I5,I6,I7,reduceIte,reduceCtorEq,c]
  refine better_p T hp ia.c0 ia.c1 ib.c0 ib.c1 ?_
  have hr:cyI pr a.cy b.cy=1∨cyI pr a.cy b.cy= -1:=by
   have:=relI_zero (pr:=pr) (u:=a.cy) (v:=b.cy)
   unfold cyI
   split
   ·exact q29 hp _
   ·rcases q29 hp a.cy with h | h<;>rcases relI_rng pr a.cy b.cy with g | g | g<;>rw[h,g]<;>first | decide | exact absurd (this.1 g) c
  simp only[PP,P1,P2,P3,P4,P5,P6,P7,P8,P9,P10,P11,P12,P13,P14,L1,P15,N1,N2,N3,N4,N5,N6,N7,I1,I2,I3,I4,I5,I6,I7,reduceIte,reduceCtorEq]
  refine QIf.intro (fun d=>?_) (fun d=>?_)
  ·rw[show cyI pr a.cy b.cy=1 by omega]at hk
   simp only[PP,P1,P2,P3,P4,P5,P6,P7,P8,P9,P10,P11,P12,P13,P14,L1,P15,N1,N2,N3,N4,N5,N6,N7,I1,I2,I3,I4,I5,I6,I7,reduceIte,reduceCtorEq,d];exact hk
  ·rw[show cyI pr a.cy b.cy= -1 by omega]at hk
   simp only[PP,P1,P2,P3,P4,P5,P6,P7,P8,P9,P10,P11,P12,P13,P14,L1,P15,N1,N2,N3,N4,N5,N6,N7,I1,I2,I3,I4,I5,I6,I7,reduceIte,reduceCtorEq,d];exact hk
 simp only[PP,P1,P2,P3,P4,P5,P6,P7,P8,P9,P10,P11,P12,P13,P14,L1,P15,N1,N2,N3,N4,N5,N6,N7,I1,I2,I3,I4,I5,I6,I7,reduceIte,reduceCtorEq,c]
 have na:Nn a.se:=fun v hv=>(ia.se v hv).1
 have nb:Nn b.se:=fun v hv=>(ib.se v hv).1
 have hdl:∀v,Dif a.se b.se v→0≤v∧v<pr.length:=fun v hv=>by
  rcases hv with⟨h,_⟩ | ⟨h,_⟩
  ·exact ia.se v h
  ·exact ib.se v h
 refine loop2 (fun(k:Nat) (x:Int)=>k≤ow.length∧((x<0∧∀v:Int,v<k→¬Dif a.se b.se v)∨(0≤x∧x<k∧Dif a.se b.se x∧∀v:Int,v<k→Dif a.se b.se v→relI pr v x≤0)))
  (fun k x=>[Zj,Zj,Zj,.ptr 0 0 0,.ptr 1 0 0,.ptr 2 0 0,Zj,p64 x,p64 k,Zj,Zj,Zj,Zj,Zj,Zj,Zj,Zj,Zj,Zj,Zj,Zj,Zj,Zj,Zj,Zj,Zj,Zj,Zj,Zj,Zj,Zj,Zj,Zj,Zj,Zj,Zj,Zj,Zj,Zj,Zj,Zj,Zj,Zj,Zj,Zj,Zj,Zj,Zj,Zj,Zj,Zj,Zj,Zj,Zj,Zj,Zj,Zj,Zj,Zj,Zj,Zj,Zj,Zj,Zj,Zj,Zj,Zj,Zj,Zj,Zj,Zj,Zj,Zj,Zj,Zj,Zj,Zj,Zj,Zj,Zj]) (fun _ _=>[.cells 0 0 (gmF F ow pr su),.cells 0 0 (vlL fa oa a),.cells 0 0 (vlL fb ob b)]) (fun k _=>ow.length-k) 0 (-1) ⟨by omega,.inl ⟨by omega,fun v hv hd=>by have:=hdl v hd;omega⟩⟩ (by simp only[PW,c]) rfl ?_
 intro k x ⟨hle,hx⟩ ih
 refine q15 (by kernel_rfl) ?_
 simp only[PP,P1,P2,P3,P4,P5,P6,P7,P8,P9,P10,P11,P12,P13,P14,L1,P15,N1,N2,N3,N4,N5,N6,N7,I1,I2,I3,I4,I5,I6,I7,reduceIte,reduceCtorEq]
 refine QIf.intro (fun d=>?_) (fun d=>?_)
 ·have hk':k<ow.length:=by omega
  have hw:=q10 (k:=k) (by omega)
  have k0:(0:Int)≤k:=by omega
  simp only[PP,P1,P2,P3,P4,P5,P6,P7,P8,P9,P10,P11,P12,P13,P14,L1,P15,N1,N2,N3,N4,N5,N6,N7,I1,I2,I3,I4,I5,I6,I7,reduceIte,reduceCtorEq,d]
  refine hasInt_p T ia.b ?_
  simp only[PP,P1,P2,P3,P4,P5,P6,P7,P8,P9,P10,P11,P12,P13,P14,L1,P15,N1,N2,N3,N4,N5,N6,N7,I1,I2,I3,I4,I5,I6,I7,reduceIte,reduceCtorEq]
  refine hasInt_p T ib.b ?_
  simp only[PP,P1,P2,P3,P4,P5,P6,P7,P8,P9,P10,P11,P12,P13,P14,L1,P15,N1,N2,N3,N4,N5,N6,N7,I1,I2,I3,I4,I5,I6,I7,reduceIte,reduceCtorEq,dif_dec]
  have old:∀v:Int,v<((k+1:Nat):Int)→v<k∨v=k:=fun v hv=>by omega
  by_cases e:Dif a.se b.se k
  ·simp only[PP,P1,P2,P3,P4,P5,P6,P7,P8,P9,P10,P11,P12,P13,P14,L1,P15,N1,N2,N3,N4,N5,N6,N7,I1,I2,I3,I4,I5,I6,I7,reduceIte,reduceCtorEq,e]
   refine QIf.intro (fun e2=>?_) (fun e2=>?_)
   ·simp only[PP,P1,P2,P3,P4,P5,P6,P7,P8,P9,P10,P11,P12,P13,P14,L1,P15,N1,N2,N3,N4,N5,N6,N7,I1,I2,I3,I4,I5,I6,I7,reduceIte,reduceCtorEq,e2,hw]
    refine q8 (ih (k+1) k ⟨by omega,.inr ⟨k0,by omega,e,fun v hv hd=>?_⟩⟩ (by omega)) (by simp only[PW])
    rcases hx with⟨h1,h2⟩ | ⟨h1,_⟩
    ·rcases old v hv with h | h
     ·exact absurd hd (h2 v h)
     ·rw[h,(q18 pr).self];exact Int.le_refl _
    ·omega
   ·rcases hx with⟨h1,_⟩ | ⟨h1,h2,h3,h4⟩
    ·exact absurd h1 e2
    simp only[PP,P1,P2,P3,P4,P5,P6,P7,P8,P9,P10,P11,P12,P13,P14,L1,P15,N1,N2,N3,N4,N5,N6,N7,I1,I2,I3,I4,I5,I6,I7,reduceIte,reduceCtorEq,e2]
    refine relevant_p T k0 (by omega) h1 (by omega) ?_
    simp only[PP,P1,P2,P3,P4,P5,P6,P7,P8,P9,P10,P11,P12,P13,P14,L1,P15,N1,N2,N3,N4,N5,N6,N7,I1,I2,I3,I4,I5,I6,I7,reduceIte,reduceCtorEq]
    by_cases e3:0<relI pr k x
    ·simp only[PP,P1,P2,P3,P4,P5,P6,P7,P8,P9,P10,P11,P12,P13,P14,L1,P15,N1,N2,N3,N4,N5,N6,N7,I1,I2,I3,I4,I5,I6,I7,reduceIte,reduceCtorEq,e3,hw]
     refine q8 (ih (k+1) k ⟨by omega,.inr ⟨k0,by omega,e,fun v hv hd=>?_⟩⟩ (by omega)) (by simp only[PW])
     rcases old v hv with h | h
     ·refine(q18 pr).tr v x k (h4 v h hd) ?_
      have:=(q18 pr).anti k x
      show relI pr x k≤0
      omega
     ·rw[h,(q18 pr).self];exact Int.le_refl _
    ·simp only[PP,P1,P2,P3,P4,P5,P6,P7,P8,P9,P10,P11,P12,P13,P14,L1,P15,N1,N2,N3,N4,N5,N6,N7,I1,I2,I3,I4,I5,I6,I7,reduceIte,reduceCtorEq,e3,hw]
     refine q8 (ih (k+1) x ⟨by omega,.inr ⟨h1,by omega,h3,fun v hv hd=>?_⟩⟩ (by omega)) (by simp only[PW])
     rcases old v hv with h | h
     ·exact h4 v h hd
     ·rw[h];omega
  ·simp only[PP,P1,P2,P3,P4,P5,P6,P7,P8,P9,P10,P11,P12,P13,P14,L1,P15,N1,N2,N3,N4,N5,N6,N7,I1,I2,I3,I4,I5,I6,I7,reduceIte,reduceCtorEq,e,hw]
   refine q8 (ih (k+1) x ⟨by omega,?_⟩ (by omega)) (by simp only[PW])
   rcases hx with⟨h1,h2⟩ | ⟨h1,h2,h3,h4⟩
   ·refine .inl ⟨h1,fun v hv hd=>?_⟩
    rcases old v hv with h | h
    ·exact h2 v h hd
    ·rw[h]at hd;exact e hd
   ·refine .inr ⟨h1,by omega,h3,fun v hv hd=>?_⟩
    rcases old v hv with h | h
    ·exact h4 v h hd
    ·rw[h]at hd;exact absurd hd e
 ·have hkn:k=ow.length:=by omega
  simp only[PP,P1,P2,P3,P4,P5,P6,P7,P8,P9,P10,P11,P12,P13,P14,L1,P15,N1,N2,N3,N4,N5,N6,N7,I1,I2,I3,I4,I5,I6,I7,reduceIte,reduceCtorEq,d]
  rcases hx with⟨h1,h2⟩ | ⟨h1,h2,h3,h4⟩
  ·have hs:seenI pr a.se b.se=0:=seenI_none na nb fun v hd=>h2 v (by have:=hdl v hd;omega) hd
   rw[ordI_st hp c hs]at hk
   have h1':¬0≤x:=by omega
   have gc:=prI_get ia.c0 ia.c1
   have hc0:=ia.c0
   have hc1:=ia.c1
   simp only[PP,P1,P2,P3,P4,P5,P6,P7,P8,P9,P10,P11,P12,P13,P14,L1,P15,N1,N2,N3,N4,N5,N6,N7,I1,I2,I3,I4,I5,I6,I7,reduceIte,reduceCtorEq,h1']
   unfold stepI at hk
   refine QIf.intro (fun e=>?_) (fun e=>?_)
   ·rw[cmp3_eq e.symm,Int.mul_zero]at hk
    simp only[PP,P1,P2,P3,P4,P5,P6,P7,P8,P9,P10,P11,P12,P13,P14,L1,P15,N1,N2,N3,N4,N5,N6,N7,I1,I2,I3,I4,I5,I6,I7,reduceIte,reduceCtorEq,e];exact hk
   ·simp only[PP,P1,P2,P3,P4,P5,P6,P7,P8,P9,P10,P11,P12,P13,P14,L1,P15,N1,N2,N3,N4,N5,N6,N7,I1,I2,I3,I4,I5,I6,I7,reduceIte,reduceCtorEq,e,gc,hc0,hc1,prem (show(2:Int)≠0 by decide)]
    have hh:(decide (a.st<b.st)==decide ((prI pr a.cy).tmod 2=0))=decide (sgI pr a.cy*cmp3 b.st a.st=1):=by
     rcases q45 b.st a.st with⟨g,e'⟩ | ⟨g,e'⟩ | ⟨g,e'⟩
     ·rw[e'];rcases par_cases (hp a.cy) with⟨p1,p2⟩ | ⟨p1,p2⟩<;>rw[p1,p2]<;>simp<;>omega
     ·exact absurd g.symm e
     ·rw[e'];rcases par_cases (hp a.cy) with⟨p1,p2⟩ | ⟨p1,p2⟩<;>rw[p1,p2]<;>simp<;>omega
    have hr:sgI pr a.cy*cmp3 b.st a.st=1∨sgI pr a.cy*cmp3 b.st a.st= -1:=by
     rcases q45 b.st a.st with⟨g,e'⟩ | ⟨g,e'⟩ | ⟨g,e'⟩
     ·rw[e'];rcases par_cases (hp a.cy) with⟨p1,p2⟩ | ⟨p1,p2⟩<;>rw[p2]<;>decide
     ·exact absurd g.symm e
     ·rw[e'];rcases par_cases (hp a.cy) with⟨p1,p2⟩ | ⟨p1,p2⟩<;>rw[p2]<;>decide
    rw[hh]
    simp only[PP,P1,P2,P3,P4,P5,P6,P7,P8,P9,P10,P11,P12,P13,P14,L1,P15,N1,N2,N3,N4,N5,N6,N7,I1,I2,I3,I4,I5,I6,I7,reduceIte,reduceCtorEq]
    refine QIf.intro (fun g=>?_) (fun g=>?_)
    ·rw[g]at hk;simp only[PP,P1,P2,P3,P4,P5,P6,P7,P8,P9,P10,P11,P12,P13,P14,L1,P15,N1,N2,N3,N4,N5,N6,N7,I1,I2,I3,I4,I5,I6,I7,reduceIte,reduceCtorEq,g];exact hk
    ·rw[show sgI pr a.cy*cmp3 b.st a.st= -1 by omega]at hk
     simp only[PP,P1,P2,P3,P4,P5,P6,P7,P8,P9,P10,P11,P12,P13,P14,L1,P15,N1,N2,N3,N4,N5,N6,N7,I1,I2,I3,I4,I5,I6,I7,reduceIte,reduceCtorEq,g];exact hk
  ·have hs:=seenI_some (pr:=pr) na nb h3 fun v hd=>h4 v (by have:=hdl v hd;omega) hd
   have hr:seenI pr a.se b.se=1∨seenI pr a.se b.se= -1:=by
    rw[hs];have:=q29 hp x;split<;>omega
   rw[ordI_se hp c (by omega)]at hk
   have gx:=prI_get (pr:=pr) h1 (by omega)
   have x1:x<pr.length:=by omega
   simp only[PP,P1,P2,P3,P4,P5,P6,P7,P8,P9,P10,P11,P12,P13,P14,L1,P15,N1,N2,N3,N4,N5,N6,N7,I1,I2,I3,I4,I5,I6,I7,reduceIte,reduceCtorEq,h1]
   refine hasInt_p T ia.b ?_
   have hh:(decide (x∈a.se)==decide ((prI pr x).tmod 2=0))=decide (seenI pr a.se b.se=1):=by
    rw[hs]
    by_cases hx:x∈a.se<;>rcases par_cases (hp x) with⟨p1,p2⟩ | ⟨p1,p2⟩<;>rw[p1,p2]<;>simp[hx]
   simp only[PP,P1,P2,P3,P4,P5,P6,P7,P8,P9,P10,P11,P12,P13,P14,L1,P15,N1,N2,N3,N4,N5,N6,N7,I1,I2,I3,I4,I5,I6,I7,reduceIte,reduceCtorEq,gx,h1,x1,prem (show(2:Int)≠0 by decide),hh]
   refine QIf.intro (fun g=>?_) (fun g=>?_)
   ·rw[g]at hk;simp only[PP,P1,P2,P3,P4,P5,P6,P7,P8,P9,P10,P11,P12,P13,P14,L1,P15,N1,N2,N3,N4,N5,N6,N7,I1,I2,I3,I4,I5,I6,I7,reduceIte,reduceCtorEq,g];exact hk
   ·rw[show seenI pr a.se b.se= -1 by omega]at hk
    simp only[PP,P1,P2,P3,P4,P5,P6,P7,P8,P9,P10,P11,P12,P13,P14,L1,P15,N1,N2,N3,N4,N5,N6,N7,I1,I2,I3,I4,I5,I6,I7,reduceIte,reduceCtorEq,g];exact hk
theorem same_p {M:Mem} {K:PV→Mem→Prop} {fa oa fb ob:Bool} {a b:Vl} (ha:a.se.length<big)
  (hk:∀r:Bool,(r=true↔a=b)→K (.bool r) M):SemC tab 22 [.agg (vlL fa oa a),.agg (vlL fb ob b)] M K:=by
 refine q11 T.h22 (by simp only[PP,P1,P2,P3,P4,P5,P6,P7,P8,P9,P10,P11,P12,P13,P14,L1,P15,N1,N2,N3,N4,N5,N6,N7,I1,I2,I3,I4,I5,I6,I7,reduceIte,reduceCtorEq,PV.under]) ?_
 simp only[af22,PP,P1,P2,P3,P4,P5,P6,P7,P8,P9,P10,P11,P12,P13,P14,L1,P15,N1,N2,N3,N4,N5,N6,N7,I1,I2,I3,I4,I5,I6,I7,reduceIte,reduceCtorEq]
 refine QIf.intro (fun c=>?_) (fun c=>?_)
 ·simp only[PP,P1,P2,P3,P4,P5,P6,P7,P8,P9,P10,P11,P12,P13,P14,L1,P15,N1,N2,N3,N4,N5,N6,N7,I1,I2,I3,I4,I5,I6,I7,reduceIte,reduceCtorEq,c]
  refine QIf.intro (fun d=>?_) (fun d=>?_)
  ·simp only[PP,P1,P2,P3,P4,P5,P6,P7,P8,P9,P10,P11,P12,P13,P14,L1,P15,N1,N2,N3,N4,N5,N6,N7,I1,I2,I3,I4,I5,I6,I7,reduceIte,reduceCtorEq,d]
   refine equalInts_p T ha ?_
   simp only[PP,P1,P2,P3,P4,P5,P6,P7,P8,P9,P10,P11,P12,P13,P14,L1,P15,N1,N2,N3,N4,N5,N6,N7,I1,I2,I3,I4,I5,I6,I7,reduceIte,reduceCtorEq]
   exact hk _ (by cases a;cases b;simp_all)
  ·simp only[PP,P1,P2,P3,P4,P5,P6,P7,P8,P9,P10,P11,P12,P13,P14,L1,P15,N1,N2,N3,N4,N5,N6,N7,I1,I2,I3,I4,I5,I6,I7,reduceIte,reduceCtorEq,d]
   exact hk false (by cases a;cases b;simp_all)
 ·simp only[PP,P1,P2,P3,P4,P5,P6,P7,P8,P9,P10,P11,P12,P13,P14,L1,P15,N1,N2,N3,N4,N5,N6,N7,I1,I2,I3,I4,I5,I6,I7,reduceIte,reduceCtorEq,c]
  exact hk false (by cases a;cases b;simp_all)
end
theorem ord3_cy {pr:List Int} (hp:∀v,0≤prI pr v):Ord3 (cyI pr):=(ord3_cyc hp).comap fun u=>(⟨u,[],0⟩:Vl)
theorem cyI_zero {pr:List Int} (hp:∀v,0≤prI pr v) {a b:Int} :cyI pr a b=0↔a=b:=cycI_zero hp (a:=⟨a,[],0⟩) (b:=⟨b,[],0⟩)
def expE (pr:List Int) (n i:Nat):Nat:=(prI pr i).toNat*n+i
theorem expE_lt {pr:List Int} (hp:∀v,0≤prI pr v) {n i j:Nat} (hi:i<n) (hj:j<n) (h:0<relI pr j i):expE pr n i<expE pr n j:=by
 unfold expE
 have h1:=hp i
 have h2:=hp j
 rcases relI_pos.1 h with h | ⟨h,g⟩
 ·have:(prI pr i).toNat+1≤(prI pr j).toNat:=by omega
  have:=Nat.mul_le_mul_right n this
  rw[Nat.add_mul,Nat.one_mul]at this
  omega
 ·rw[h];omega
theorem expE_inj {pr:List Int} (hp:∀v,0≤prI pr v) {n i j:Nat} (hi:i<n) (hj:j<n) (h:expE pr n i=expE pr n j):i=j:=by
 rcases relI_rng pr i j with e | e | e
 ·have:=(q18 pr).anti i j
  have:=expE_lt hp hi hj (by omega);omega
 ·have:=relI_zero.1 e;omega
 ·have:=expE_lt hp hj hi (by omega);omega
open Classical in
noncomputable def wt (s:Int) (pr:List Int) (n:Nat) (A:List Int):Int:=sumI (fun i=>(if(i:Int)∈A then s*sgI pr i else 0)*2^expE pr n i) n
noncomputable def phi (s:Int) (pr:List Int) (n:Nat) (x:Vl):Int:=(n+1)*wt s pr n x.se-s*sgI pr x.cy*x.st
structure VOk (n:Nat) (x:Vl):Prop where
 c0:0≤x.cy
 cn:x.cy<n
 se:∀u∈x.se,0≤u∧u<n
 rise:Rise (-1) x.se
 s0:0≤x.st
 sn:x.st<n
theorem IsVal.ok {f:Nat→Nat} {pr:List Int} {n v:Nat} {x:Vl} (hf:∀v,v<n→f v<n) (hv:v<n) (h:IsVal f pr n v x):VOk n x:=by
 refine⟨h.c0,h.cy_lt hf hv,fun u hu=>?_,h.rise,h.s0,h.sn⟩
 obtain⟨⟨j,hj⟩,_⟩:=(h.se u).1 hu
 have:=itr_lt hf hv j
 omega
theorem VOk.nn {n:Nat} {x:Vl} (h:VOk n x):Nn x.se:=fun u hu=>(h.se u hu).1
theorem sign_one {s:Int} (hs:s=1∨s= -1) {pr:List Int} (hp:∀v,0≤prI pr v) (v:Int):s*sgI pr v=1∨s*sgI pr v= -1:=by
 rcases hs with rfl | rfl<;>rcases q29 hp v with h | h<;>rw[h]<;>simp
theorem wt_ext (s:Int) (pr:List Int) (n:Nat) {A B:List Int} (h:∀u,u∈A↔u∈B):wt s pr n A=wt s pr n B:=by
 unfold wt
 refine q60 fun i _=>?_
 simp only[h]
theorem wt_add {s:Int} {pr:List Int} {n v:Nat} {A B:List Int} {P:Prop} [Decidable P] (hv:v<n) (h:∀u:Int,u∈A↔u∈B∨(u=v∧P)) (hn:P→(v:Int)∉B):wt s pr n A=wt s pr n B+if P then s*sgI pr v*2^expE pr n v else 0:=by
 by_cases hP:P
 ·rw[if_pos hP]
  unfold wt
  rw[sumI_one (x:=v) hv,sumI_one (g:=fun i=>(if(i:Int)∈B then s*sgI pr i else 0)*2^expE pr n i) (x:=v) hv]
  rw[if_pos ((h v).2 (.inr ⟨rfl,hP⟩)),if_neg (hn hP),Int.zero_mul]
  have:sumI (fun i=>if i=v then 0 else(if(i:Int)∈A then s*sgI pr i else 0)*2^expE pr n i) n=sumI (fun i=>if i=v then 0 else(if(i:Int)∈B then s*sgI pr i else 0)*2^expE pr n i) n:=by
   refine q60 fun i _=>?_
   by_cases e:i=v
   ·rw[if_pos e,if_pos e]
   ·rw[if_neg e,if_neg e]
    have:(i:Int)∈A↔(i:Int)∈B:=by rw[h];exact⟨fun q=>q.elim id fun q=>absurd (by omega) e,.inl⟩
    simp only[this]
  rw[this];omega
 ·rw[if_neg hP,Int.add_zero]
  exact wt_ext s pr n fun u=>by rw[h];exact⟨fun q=>q.elim id fun q=>absurd q.2 hP,.inl⟩
theorem wt_gt {s:Int} (hs:s=1∨s= -1) {pr:List Int} (hp:∀v,0≤prI pr v) {n:Nat} {A B:List Int} (hA:∀u∈A,0≤u∧u<n) (hB:∀u∈B,0≤u∧u<n) (h:0<s*seenI pr A B):wt s pr n B+1≤wt s pr n A:=by
 have sp:=q51 (pr:=pr) (fun u hu=>(hA u hu).1) (fun u hu=>(hB u hu).1)
 rcases sp with⟨_,e⟩ | ⟨x,hx,mx⟩
 ·rw[e,Int.mul_zero]at h;omega
 have hxr:0≤x∧x<n:=by
  rcases hx with⟨q,_⟩ | ⟨q,_⟩
  ·exact hA x q
  ·exact hB x q
 have key:0<sumI (fun i=>((if(i:Int)∈A then s*sgI pr i else 0)-(if(i:Int)∈B then s*sgI pr i else 0))*2^expE pr n i) n:=by
  refine lead (E:=expE pr n) (x:=x.toNat) (fun i j hi hj=>expE_inj hp hi hj) (by omega) (fun i hi=>?_) ?_ (fun i hi hne hd=>?_)
  ·rcases sign_one hs hp i with g | g<;>split<;>split<;>omega
  ·rw[show((x.toNat:Nat):Int)=x by omega]
   have g:=sign_one hs hp x
   rcases hx with⟨h1,h2,h3⟩ | ⟨h1,h2,h3⟩
   ·rw[if_pos h1,if_neg h2];rw[h3]at h;omega
   ·rw[if_neg h2,if_pos h1];rw[h3,Int.mul_neg]at h;omega
  ·have hdif:((i:Int)∈A∧(i:Int)∉B)∨((i:Int)∈B∧(i:Int)∉A):=by
    by_cases h1:(i:Int)∈A<;>by_cases h2:(i:Int)∈B
    ·rw[if_pos h1,if_pos h2]at hd;omega
    ·exact .inl ⟨h1,h2⟩
    ·exact .inr ⟨h2,h1⟩
    ·rw[if_neg h1,if_neg h2]at hd;omega
   have hm:=mx i hdif
   have hz:relI pr i x≠0:=fun q=>hne (by have:=relI_zero.1 q;omega)
   have ha:=(q18 pr).anti x i
   refine expE_lt hp hi (by omega) ?_
   rw[show((x.toNat:Nat):Int)=x by omega]
   omega
 have e:sumI (fun i=>((if(i:Int)∈A then s*sgI pr i else 0)-(if(i:Int)∈B then s*sgI pr i else 0))*2^expE pr n i) n=wt s pr n A-wt s pr n B:=by
  unfold wt
  rw[←sumI_sub]
  refine q60 fun i _=>?_
  rw[Int.sub_mul]
 omega
section
variable {s:Int} (hs:s=1∨s= -1) {pr:List Int} (hp:∀v,0≤prI pr v) {n:Nat} {x y:Vl}
include hs hp
theorem phi_gt (hx:VOk n x) (hy:VOk n y) (hc:x.cy=y.cy) (h:0<s*ordI pr x y):phi s pr n y<phi s pr n x:=by
 have c0:=hx.s0;have c1:=hx.sn;have c2:=hy.s0;have c3:=hy.sn
 have hg:=sign_one hs hp y.cy
 have hm1:s*sgI pr y.cy*x.st=x.st∨s*sgI pr y.cy*x.st= -x.st:=by rcases hg with g | g<;>rw[g]<;>simp
 have hm2:(s*sgI pr y.cy*x.st=x.st∧s*sgI pr y.cy*y.st=y.st)∨(s*sgI pr y.cy*x.st= -x.st∧s*sgI pr y.cy*y.st= -y.st):=by rcases hg with g | g<;>rw[g]<;>simp
 unfold phi
 rw[hc]
 by_cases h2:seenI pr x.se y.se=0
 ·rw[ordI_st hp hc h2]at h
  have e:wt s pr n x.se=wt s pr n y.se:=by
   refine wt_ext s pr n fun u=>?_
   have sp:=q51 (pr:=pr) hx.nn hy.nn
   rw[h2]at sp
   rcases sp with⟨e,_⟩ | ⟨z,hz,_⟩
   ·exact e u
   ·rcases q29 hp z with g | g<;>rcases hz with⟨_,_,q⟩ | ⟨_,_,q⟩<;>omega
  rw[e]
  unfold stepI at h
  rw[hc,←Int.mul_assoc]at h
  rcases hg with g | g<;>rw[g]at h ⊢ <;>rcases q45 y.st x.st with⟨q,e'⟩ | ⟨q,e'⟩ | ⟨q,e'⟩<;>rw[e']at h<;>omega
 ·rw[ordI_se hp hc h2]at h
  have hw:=wt_gt hs hp hx.se hy.se h
  have hd:((n:Int)+1)*(wt s pr n y.se+1)≤(n+1)*wt s pr n x.se:=Int.mul_le_mul_of_nonneg_left hw (by omega)
  rw[Int.mul_add,Int.mul_one]at hd
  omega
theorem phi_le (hx:VOk n x) (hy:VOk n y) (hc:x.cy=y.cy):0≤s*ordI pr x y↔phi s pr n y≤phi s pr n x:=by
 have an:ordI pr y x= -ordI pr x y:=(ord3_ord hp).anti ⟨x,hx.nn⟩ ⟨y,hy.nn⟩
 have an2:s*ordI pr y x= -(s*ordI pr x y):=by rw[an,Int.mul_neg]
 constructor
 ·intro h
  by_cases e:s*ordI pr x y=0
  ·have z:ordI pr x y=0:=by rcases hs with rfl | rfl<;>omega
   rw[(ordI_zero hp hx.rise hy.rise).1 z];exact Int.le_refl _
  ·have:=phi_gt hs hp hx hy hc (by omega);omega
 ·intro h
  refine Classical.byContradiction fun q=>?_
  have:=phi_gt hs hp hy hx hc.symm (by omega)
  omega
end
noncomputable def dlt (s:Int) (pr:List Int) (n:Nat) (c:Int) (v:Nat):Int:=(n+1)*(if 0<relI pr v c then s*sgI pr v*2^expE pr n v else 0)-s*sgI pr c
theorem phi_next {s:Int} {pr:List Int} {f:Nat→Nat} {n v:Nat} {x y:Vl} (hv:v<n) (h:IsVal f pr n v x) (k:IsVal f pr n (f v) y) (e:(v:Int)≠x.cy):phi s pr n x=phi s pr n y+dlt s pr n x.cy v:=by
 unfold phi dlt
 rw[wt_add (s:=s) (pr:=pr) hv (h.next_se k) (fun q=>h.once k q),h.next_st k e,h.next_cy k,Int.mul_add,Int.mul_add (s*sgI pr x.cy),Int.mul_one]
 omega
theorem phi_at {s:Int} {pr:List Int} {f:Nat→Nat} {n v:Nat} {x:Vl} (h:IsVal f pr n v x) (e:(v:Int)=x.cy):phi s pr n x=0:=by
 obtain⟨h1,h2⟩:=h.at e
 unfold phi
 rw[h1,h2,Int.mul_zero,Int.sub_zero]
 have:wt s pr n []=0:=by
  unfold wt
  exact sumI_zero fun i _=>by rw[if_neg (by simp),Int.zero_mul]
 rw[this,Int.mul_zero]
theorem phi_atn {s:Int} {pr:List Int} {f:Nat→Nat} {n v:Nat} {x y:Vl} (h:IsVal f pr n v x) (k:IsVal f pr n (f v) y) (e:(v:Int)=x.cy):phi s pr n y= -(s*sgI pr x.cy*y.st):=by
 obtain⟨h1,h2⟩:=h.at e
 unfold phi
 have:wt s pr n y.se=0:=by
  unfold wt
  refine sumI_zero fun i _=>?_
  rw[if_neg (fun q=>?_),Int.zero_mul]
  have:=(h.next_se k i).2 (.inl q)
  rw[h1]at this
  cases this
 rw[this,Int.mul_zero,h.next_cy k];omega
theorem least_of {p:Nat→Prop} (h:∃k,p k):∃k,p k∧∀j,j<k→¬p j:=by
 obtain⟨k,hk⟩:=h
 induction k using Nat.strongRecOn with
 | ind k ih=>
  by_cases e:∃j,j<k∧p j
  ·obtain⟨j,h1,h2⟩:=e
   exact ih j h1 h2
  ·exact⟨k,hk,fun j hj hp=>e ⟨j,hj,hp⟩⟩
section
variable {s:Int} (hs:s=1∨s= -1) {pr:List Int} (hp:∀v,0≤prI pr v)
include hs hp
theorem g_trans {u v w:Int} (h1:0≤s*cyI pr u v) (h2:0≤s*cyI pr v w):0≤s*cyI pr u w:=by
 have O:=ord3_cy hp
 have t1:=O.tr u v w;have t2:=O.tr w v u
 have a1:=O.anti u v;have a2:=O.anti v w;have a3:=O.anti u w
 rcases hs with rfl | rfl<;>omega
theorem g_anti {u v:Int} (h1:0≤s*cyI pr u v) (h2:0≤s*cyI pr v u):u=v:=by
 have a1:=(ord3_cy hp).anti u v
 refine(cyI_zero hp).1 ?_
 rcases hs with rfl | rfl<;>omega
theorem g_refl (u:Int):0≤s*cyI pr u u:=by have _:=hs;rw[(ord3_cy hp).self,Int.mul_zero];exact Int.le_refl _
theorem g_of {x y:Vl} (h:0≤s*ordI pr x y):0≤s*cyI pr x.cy y.cy:=by
 by_cases e:x.cy=y.cy
 ·rw[e];exact g_refl hs hp _
 ·rw[ordI_cy hp e]at h;exact h
theorem pos_a {W c:Int} (h1:s*sgI pr W=1) (h2:0<relI pr W c):0<s*cyI pr W c:=by
 have _:=hs;have _:=hp
 have e:relI pr W c=1:=by have:=relI_rng pr W c;omega
 unfold cyI
 split
 ·omega
 ·rw[e,Int.mul_one];omega
theorem pos_b {W c:Int} (h1:s*sgI pr c= -1) (h2:relI pr W c<0):0<s*cyI pr W c:=by
 have _:=hs
 have e:relI pr W c= -1:=by have:=relI_rng pr W c;omega
 unfold cyI
 have g1:=q29 hp W
 have g2:=q29 hp c
 split
 ·rename_i q
  have:sgI pr W= -sgI pr c:=by omega
  rw[this,Int.mul_neg];omega
 ·rename_i q
  have:sgI pr W=sgI pr c:=Classical.byContradiction q
  rw[this,e,Int.mul_neg,Int.mul_neg,Int.mul_one];omega
end
section
variable {s:Int} (hs:s=1∨s= -1) {pr:List Int} (hp:∀v,0≤prI pr v) {n:Nat} {f f':Nat→Nat} {a a':Nat→Vl}
 (hf:∀v,v<n→f v<n) (hf':∀v,v<n→f' v<n) (ha:∀v,v<n→IsVal f pr n v (a v)) (ha':∀v,v<n→IsVal f' pr n v (a' v))
 (him:∀v,v<n→0≤s*ordI pr (a (f' v)) (a (f v)))
include hs hp hf hf' ha him
theorem key_step {v:Nat} (hv:v<n):0≤s*cyI pr (a (f' v)).cy (a v).cy:=by
 have _:=hf'
 have h:=g_of hs hp (him v hv)
 rwa [(ha v hv).next_cy (ha (f v) (hf v hv))]at h
theorem key_path {v:Nat} (hv:v<n):∀j,0≤s*cyI pr (a (itr f' v j)).cy (a v).cy
 | 0=>g_refl hs hp _
 | j+1=>g_trans hs hp (key_step hs hp hf hf' ha him (itr_lt hf' hv j)) (key_path hv j)
theorem key_loop {W:Nat} (hW:W<n) (hI:Inf f' W W) (hm:∀y,Inf f' W y→relI pr y W≤0) (hne:(W:Int)≠(a W).cy):0<s*cyI pr W (a W).cy:=by
 obtain⟨c,hc⟩:∃c,c=(a W).cy:=⟨_,rfl⟩
 rw[←hc]at hne ⊢
 obtain⟨P,⟨hP0,hPW⟩,hPm⟩:=least_of (p:=fun k=>0<k∧itr f' W k=W) (by obtain⟨j,h1,h2⟩:=hI 1;exact⟨j,by omega,h2⟩)
 have hlt:∀i,itr f' W i<n:=itr_lt hf' hW
 have hdist:∀i j,i<P→j<P→itr f' W i=itr f' W j→i=j:=by
  have one:∀i j,i<j→j<P→itr f' W i≠itr f' W j:=fun i j hij hj e=>by
   refine hPm (i+(P-j)) (by omega) ⟨by omega,?_⟩
   rw[←itr_sum,e,itr_sum,show j+(P-j)=P by omega];exact hPW
  intro i j hi hj e
  rcases Nat.lt_trichotomy i j with h | h | h
  ·exact absurd e (one i j h hj)
  ·exact h
  ·exact absurd e.symm (one j i h hi)
 have hPn:P≤n:=by
  have hnd:(its f' W P).Nodup:=by
   unfold its
   rw[List.Nodup,List.pairwise_map]
   refine List.Pairwise.imp_of_mem (fun {i j} hi hj (q:i≠j) e=>?_) List.nodup_range
   exact q (hdist i j (List.mem_range.1 hi) (List.mem_range.1 hj) e)
  have:=nodup_lenN n _ hnd (its_lt hf' hW)
  rwa [its_len]at this
 have hcy:∀i,i≤P→(a (itr f' W i)).cy=c:=fun i hi=>by
  have h1:=key_path hs hp hf hf' ha him hW i
  have h2:=key_path hs hp hf hf' ha him (hlt i) (P-i)
  rw[itr_sum,show i+(P-i)=P by omega,hPW,←hc]at h2
  rw[←hc]at h1
  exact g_anti hs hp h1 h2
 have hsc:=sign_one hs hp c
 let r:Nat→Int:=fun i=>if((itr f' W i:Nat):Int)=c then s*sgI pr c*(a (f (itr f' W i))).st else-(s*sgI pr c)
 let t:Nat→Int:=fun i=>if 0<relI pr (itr f' W i) c then s*sgI pr (itr f' W i) else 0
 have hstep:∀i,i<P→-((n+1)*(t i*2^expE pr n (itr f' W i))+r i)≤phi s pr n (a (itr f' W (i+1)))-phi s pr n (a (itr f' W i)):=fun i hi=>by
  have hv:=hlt i
  have h0:=ha _ hv
  have h1:=ha _ (hf _ hv)
  have ci:(a (itr f' W i)).cy=c:=hcy i (by omega)
  have e1:(a (f (itr f' W i))).cy=c:=by rw[h0.next_cy h1];exact ci
  have e2:(a (f' (itr f' W i))).cy=c:=hcy (i+1) (by omega)
  have hle:=(phi_le hs hp ((ha _ (hf' _ hv)).ok hf (hf' _ hv)) (h1.ok hf (hf _ hv)) (by rw[e1,e2])).1 (him _ hv)
  have eq:phi s pr n (a (f (itr f' W i)))=phi s pr n (a (itr f' W i))-((n+1)*(t i*2^expE pr n (itr f' W i))+r i):=by
   show _=_-(((n:Int)+1)*((if 0<relI pr (itr f' W i) c then s*sgI pr (itr f' W i) else 0)*2^expE pr n (itr f' W i))+(if((itr f' W i:Nat):Int)=c then s*sgI pr c*(a (f (itr f' W i))).st else-(s*sgI pr c)))
   by_cases e:((itr f' W i:Nat):Int)=c
   ·have q1:=phi_atn (s:=s) h0 h1 (by rw[ci];exact e)
    have q2:=phi_at (s:=s) h0 (by rw[ci];exact e)
    rw[ci]at q1
    rw[if_pos e,q1,q2,e,(q18 pr).self,if_neg (by omega),Int.zero_mul,Int.mul_zero];omega
   ·have q1:=phi_next (s:=s) hv h0 h1 (by rw[ci];exact e)
    rw[ci]at q1
    unfold dlt at q1
    rw[if_neg e,q1]
    split
    ·omega
    ·rw[Int.zero_mul,Int.mul_zero];omega
  show _≤phi s pr n (a (f' (itr f' W i)))-_
  omega
 have hsum:=sumI_le hstep
 have htele:=sumI_tele (fun i=>phi s pr n (a (itr f' W i))) P
 have hzero:itr f' W 0=W:=rfl
 rw[hPW,hzero,Int.sub_self]at htele
 rw[htele]at hsum
 obtain⟨T,hT⟩:∃T,T=sumI (fun i=>t i*2^expE pr n (itr f' W i)) P:=⟨_,rfl⟩
 obtain⟨R,hR⟩:∃R,R=sumI r P:=⟨_,rfl⟩
 have hsplit:sumI (fun i=> -((n+1)*(t i*2^expE pr n (itr f' W i))+r i)) P= -((n+1)*T+R):=by
  have h1:=sumI_mul (-1) (fun i=>((n:Int)+1)*(t i*2^expE pr n (itr f' W i))+r i) P
  have h2:=sumI_add (fun i=>((n:Int)+1)*(t i*2^expE pr n (itr f' W i))) r P
  have h3:=sumI_mul ((n:Int)+1) (fun i=>t i*2^expE pr n (itr f' W i)) P
  rw[h2,h3,←hT,←hR]at h1
  simp only[Int.neg_mul,Int.one_mul]at h1
  exact h1
 rw[hsplit]at hsum
 have hRn:R≤n:=by
  rw[hR]
  rcases hsc with g | g
  ·by_cases hx:∃x,x<P∧((itr f' W x:Nat):Int)=c
   ·obtain⟨x,hx,he⟩:=hx
    rw[sumI_one hx]
    have h1:r x<n:=by
     show(if _ then _ else _)<(n:Int)
     rw[if_pos he,g,Int.one_mul]
     exact(ha _ (hf _ (hlt x))).sn
    have h2:sumI (fun i=>if i=x then 0 else r i) P≤sumI (fun _=>0) P:=by
     refine sumI_le fun i hi=>?_
     by_cases q:i=x
     ·rw[if_pos q];exact Int.le_refl _
     ·rw[if_neg q]
      show(if _ then _ else _)≤(0:Int)
      rw[if_neg (fun e=>q (hdist i x hi hx (by omega))),g];omega
    rw[sumI_const]at h2
    omega
   ·have h2:sumI r P≤sumI (fun _=>0) P:=by
     refine sumI_le fun i hi=>?_
     show(if _ then _ else _)≤(0:Int)
     rw[if_neg (fun e=>hx ⟨i,hi,e⟩),g];omega
    rw[sumI_const]at h2
    omega
  ·have h2:sumI r P≤sumI (fun _=>1) P:=by
    refine sumI_le fun i hi=>?_
    have h0:=(ha _ (hf _ (hlt i))).s0
    rw[show r i=(if((itr f' W i:Nat):Int)=c then s*sgI pr c*(a (f (itr f' W i))).st else-(s*sgI pr c)) from rfl,g]
    split<;>omega
   rw[sumI_const]at h2
   omega
 have hinf:∀i,Inf f' W (itr f' W i):=fun i=>hI.follow i
 rcases relI_rng pr W c with e | e | e
 ·--less relevant
  have hT0:T=0:=by
   rw[hT]
   refine sumI_zero fun i hi=>?_
   show(if _ then _ else _)*_=(0:Int)
   have h1:=hm _ (hinf i)
   have h2:=(q18 pr).tr _ _ _ h1 (show relI pr W c≤0 by omega)
   rw[if_neg (by omega),Int.zero_mul]
  have hRP:R= -(s*sgI pr c)*P:=by
   rw[hR,←sumI_const]
   refine q60 fun i hi=>?_
   show(if _ then _ else _)=_
   rw[if_neg (fun q=>?_)]
   have h1:=hm _ (hinf i)
   rw[q]at h1
   have:=(q18 pr).anti W c
   omega
  rw[hT0,Int.mul_zero,hRP]at hsum
  rcases hsc with g | g
  ·rw[g]at hsum;omega
  ·exact pos_b hs hp g (by omega)
 ·exact absurd (relI_zero.1 e) hne
 ·rcases sign_one hs hp W with g | g
  ·exact pos_a hs hp g (by omega)
  ·exfalso
   have hneg:T<0:=by
    rw[hT]
    refine lead_neg (E:=fun i=>expE pr n (itr f' W i)) (x:=0) (fun i j hi hj q=>hdist i j hi hj (expE_inj hp (hlt i) (hlt j) q)) hP0 (fun i hi=>?_) ?_ (fun i hi h0 hd=>?_)
    ·show(if _ then _ else _)=(-1:Int)∨(if _ then _ else _)=(0:Int)∨(if _ then _ else _)=(1:Int)
     have:=sign_one hs hp (itr f' W i:Nat)
     split
     ·omega
     ·omega
    ·show(if _ then _ else _)=(-1:Int)
     rw[hzero,if_pos (by omega)];exact g
    ·show expE pr n (itr f' W i)<expE pr n (itr f' W 0)
     rw[hzero]
     refine expE_lt hp (hlt i) hW ?_
     have h1:=hm _ (hinf i)
     have h2:=(q18 pr).anti W (itr f' W i:Nat)
     have h3:relI pr (itr f' W i:Nat) W≠0:=fun q=>h0 (hdist i 0 hi hP0 (by have:=relI_zero.1 q;rw[hzero];omega))
     omega
   have h1:((n:Int)+1)*T≤(n+1)*(-1):=Int.mul_le_mul_of_nonneg_left (by omega) (by omega)
   omega
include ha'
theorem key_cy {v:Nat} (hv:v<n):0≤s*cyI pr (a' v).cy (a v).cy:=by
 have h':=ha' v hv
 have hW:(a' v).cy.toNat<n:=by have:=h'.cy_lt hf' hv;have:=h'.c0;omega
 have eW:itr f' v (a' v).st.toNat=(a' v).cy.toNat:=by have:=h'.st;omega
 have hI:∀y,Inf f' (a' v).cy.toNat y↔Inf f' v y:=fun y=>by rw[←eW];exact Inf.itr _
 have hc:=h'.cyE
 have h1:=key_path hs hp hf hf' ha him hv (a' v).st.toNat
 rw[eW]at h1
 refine g_trans hs hp ?_ h1
 by_cases e:(((a' v).cy.toNat:Nat):Int)=(a (a' v).cy.toNat).cy
 ·rw[←e,hc];exact g_refl hs hp _
 ·have:=key_loop hs hp hf hf' ha him hW ((hI _).2 h'.inf) (fun y hy=>by rw[hc];exact h'.mx y ((hI y).1 hy)) e
  rw[hc]at this
  omega
theorem key_phi:∀(d:Nat) {v:Nat},v<n→(a' v).st=d→(a' v).cy=(a v).cy→phi s pr n (a v)≤phi s pr n (a' v):=by
 intro d
 induction d with
 | zero=>
  intro v hv hd hc
  have h':=ha' v hv
  have e:(v:Int)=(a' v).cy:=by
   have:=h'.st
   rw[hd]at this
   exact this
  rw[phi_at (ha v hv) (by rw[←hc];exact e),phi_at h' e]
  exact Int.le_refl _
 | succ d ih=>
  intro v hv hd hc
  have h:=ha v hv
  have h':=ha' v hv
  have k:=ha (f v) (hf v hv)
  have k1:=ha (f' v) (hf' v hv)
  have k':=ha' (f' v) (hf' v hv)
  have ne':(v:Int)≠(a' v).cy:=fun e=>by
   have:=(h'.at e).2;omega
  have e1:=h'.next_cy k'
  have e2:=h.next_cy k
  have hcf:(a' (f' v)).cy=(a (f' v)).cy:=by
   refine g_anti hs hp (key_cy hs hp hf hf' ha ha' him (hf' v hv)) ?_
   rw[e1,hc]
   exact key_step hs hp hf hf' ha him hv
  have hst:=h'.next_st k' ne'
  have q1:=ih (hf' v hv) (by omega) hcf
  have q2:=(phi_le hs hp (k1.ok hf (hf' v hv)) (k.ok hf (hf v hv)) (by rw[←hcf,e1,hc,e2])).1 (him v hv)
  have p1:=phi_next (s:=s) hv h k (by rw[←hc];exact ne')
  have p2:=phi_next (s:=s) hv h' k' ne'
  rw[p1,p2,hc]
  omega
theorem key {v:Nat} (hv:v<n):0≤s*ordI pr (a' v) (a v):=by
 have hc:=key_cy hs hp hf hf' ha ha' him hv
 by_cases e:(a' v).cy=(a v).cy
 ·refine(phi_le hs hp ((ha' v hv).ok hf' hv) ((ha v hv).ok hf hv) e).2 ?_
  have h0:=(ha' v hv).s0
  exact key_phi hs hp hf hf' ha ha' him (a' v).st.toNat hv (by omega) e
 ·rw[ordI_cy hp e];exact hc
end
def vlsL (l:List Vl):List PV:=l.flatMap (vlL false true)
theorem q64 (l:List Vl):(vlsL l).length=l.length*3:=by
 unfold vlsL
 induction l with
 | nil=>rfl
 | cons x l ih=>rw[List.flatMap_cons,List.length_append,ih];simp;omega
theorem vlL_und (m:Nat) (x:Vl):q14 m (vlL false true x)=true:=by simp[q14,PV.under,q58]
theorem vlsL_und (m:Nat) (l:List Vl):q14 m (vlsL l)=true:=by
 rw[q37]
 intro v hv
 obtain⟨x,_,hx⟩:=List.mem_flatMap.1 hv
 exact(q37 m _).1 (vlL_und m x) v hx
theorem vlsL_young (l:List Vl):youngL (vlsL l)=true:=by
 rw[youngL_iff]
 intro v hv
 obtain⟨x,_,hx⟩:=List.mem_flatMap.1 hv
 simp only[List.mem_cons,List.not_mem_nil,or_false]at hx
 rcases hx with rfl | rfl | rfl<;>simp[PV.young,youngL_ints]
theorem under_slV (m:Nat) (f o:Bool) (sz n:Nat) (l:List Vl):PV.under m (.sl f o sz n (vlsL l))=true:=by
 simp only[PV.under];exact vlsL_und m l
theorem vlsL_app (l:List Vl) (x:Vl):vlsL l++vlL false true x=vlsL (l++[x]):=by simp[vlsL]
theorem vlsL_split {l:List Vl} {k:Nat} {x:Vl} (h:l[k]? =some x):vlsL l=vlsL (l.take k)++(vlL false true x++vlsL (l.drop (k+1))):=by
 obtain⟨hk,rfl⟩:=List.getElem?_eq_some_iff.1 h
 have e:l=l.take k++l[k]::l.drop (k+1):=by rw[←List.drop_eq_getElem_cons hk,List.take_append_drop]
 unfold vlsL
 conv=>lhs;rw[e]
 rw[List.flatMap_append,List.flatMap_cons]
theorem psub_vls {l:List Vl} {k:Nat} {x:Vl} (h:l[k]? =some x):psub (vlsL l) (k*3) 3=vlL false true x:=by
 have hk:=q12 h
 rw[vlsL_split h]
 unfold psub
 rw[List.drop_left' (by rw[q64,List.length_take];congr 1;omega)]
 rfl
def celV (n:Nat) (xs:List Vl):List PV:=vlsL xs++q30 (n-xs.length) [p64 0,.nils,p64 0]
theorem prepl_len (n:Nat) (z:List PV):(q30 n z).length=n*z.length:=by
 induction n with
 | zero=>simp[q30]
 | succ n ih=>rw[q30,List.length_append,ih,Nat.add_mul,Nat.one_mul];omega
theorem celV_len {n:Nat} {xs:List Vl} (h:xs.length≤n):(celV n xs).length=n*3:=by
 unfold celV
 rw[List.length_append,q64,prepl_len]
 simp only[List.length_cons,List.length_nil]
 omega
theorem celV_put {n:Nat} {xs:List Vl} (x:Vl) (h:xs.length<n):(celV n xs).take (xs.length*3)++(vlL false true x++(celV n xs).drop (xs.length*3+3))=celV n (xs++[x]):=by
 obtain⟨m,hm⟩:∃m,n-xs.length=m+1:=⟨n-xs.length-1,by omega⟩
 have hm2:n-(xs++[x]).length=m:=by simp;omega
 unfold celV
 rw[hm,hm2,q30,←q64 xs,List.take_left' rfl,←vlsL_app,←List.drop_drop,List.drop_left' rfl]
 rw[show [p64 0,PV.nils,p64 0]++q30 m [p64 0,.nils,p64 0]=([p64 0,.nils,p64 0]:List PV)++q30 m [p64 0,.nils,p64 0] from rfl,List.drop_left' (by rfl)]
 simp
theorem celV_full {n:Nat} {xs:List Vl} (h:xs.length=n):celV n xs=vlsL xs:=by
 unfold celV
 rw[h,Nat.sub_self];simp[q30]
def q19 (ow pr:List Int) (su:List (List Int)) (st:List Int):List Vl:=tabA st.length fun v=>folA ow pr su st v
section
variable {tab:FuncId→Option AF} (T:HasA tab)
include T
theorem values_p {M:Mem} {K:PV→Mem→Prop} {F:GF} {f5 o5:Bool} {ow pr st:List Int} {su:List (List Int)} (B:Bnd ow pr su) (h14:ow.length≤14) (hn:st.length≤14) (hk:K (.sl false true 3 st.length (vlsL (q19 ow pr su st))) M):
  SemC tab 70 [.agg (gmF F ow pr su),slI f5 o5 .i64 st] M K:=by
 refine q11 T.h70 (by simp only[PP,P1,P2,P3,P4,P5,P6,P7,P8,P9,P10,P11,P12,P13,P14,L1,P15,N1,N2,N3,N4,N5,N6,N7,I1,I2,I3,I4,I5,I6,I7,reduceIte,reduceCtorEq]) ?_
 have e0:q30 st.length [PV.int .i64 0,.nils,.int .i64 0]=celV st.length []:=by simp[celV,vlsL]
 simp only[af70,PP,P1,P2,P3,P4,P5,P6,P7,P8,P9,P10,P11,P12,P13,P14,L1,P15,N1,N2,N3,N4,N5,N6,N7,I1,I2,I3,I4,I5,I6,I7,reduceIte,reduceCtorEq,e0]
 refine⟨by omega,?_⟩
 refine loop2 (fun(k ver:Nat)=>k≤st.length) (fun k ver=>[Zj,slI f5 o5 .i64 st,.ptr 0 0 0,Zj,Zj,.ref 1 0 3 0 st.length,Zj,Zj,Zj,Zj,Zj,p64 st.length,p64 k,Zj,Zj,Zj,Zj,Zj,Zj,Zj,Zj,Zj,Zj,Zj,Zj,Zj,Zj])
  (fun k ver=>[.cells 0 0 (gmF F ow pr su),.cells 0 ver (celV st.length (tabA k fun v=>folA ow pr su st v))]) (fun k _=>st.length-k) 0 0 (Nat.zero_le _) (by simp only[PW]) rfl ?_
 intro k ver hle ih
 have hXl:=celV_len (n:=st.length) (xs:=tabA k fun v=>folA ow pr su st v) (by rw[q23];exact hle)
 obtain⟨X,hX⟩:∃X,X=celV st.length (tabA k fun v=>folA ow pr su st v):=⟨_,rfl⟩
 rw[←hX]at hXl ⊢
 refine q15 (by kernel_rfl) ?_
 simp only[PP,P1,P2,P3,P4,P5,P6,P7,P8,P9,P10,P11,P12,P13,P14,L1,P15,N1,N2,N3,N4,N5,N6,N7,I1,I2,I3,I4,I5,I6,I7,reduceIte,reduceCtorEq]
 refine QIf.intro (fun c=>?_) (fun c=>?_)
 ·have hk':k<st.length:=by omega
  have k0:(0:Int)≤k:=by omega
  have hw:=q10 (k:=k) (by show _<1000000000000;omega)
  simp only[PP,P1,P2,P3,P4,P5,P6,P7,P8,P9,P10,P11,P12,P13,P14,L1,P15,N1,N2,N3,N4,N5,N6,N7,I1,I2,I3,I4,I5,I6,I7,reduceIte,reduceCtorEq,c]
  refine follow_p T B h14 (by show _<1000000000000;omega) ?_
  have hb:k*3+3≤X.length:=by omega
  simp only[PP,P1,P2,P3,P4,P5,P6,P7,P8,P9,P10,P11,P12,P13,P14,L1,P15,N1,N2,N3,N4,N5,N6,N7,I1,I2,I3,I4,I5,I6,I7,reduceIte,reduceCtorEq,c,k0,hw,hb]
  refine q20 (ih (k+1) (ver+1) (by omega) (by omega)) (by simp only[PW]) ?_
  rw[tabA_succ,←celV_put _ (by rw[q23];exact hk'),q23,←hX]
  simp
 ·have hkn:k=st.length:=by omega
  have hz:st.length*3≤X.length:=by omega
  have hps:psub X 0 (st.length*3)=X:=q53 _ _ (by omega)
  have hu:q14 0 X=true:=by rw[hX,hkn,celV_full (q23 _ _)];exact vlsL_und 0 _
  simp only[PP,P1,P2,P3,P4,P5,P6,P7,P8,P9,P10,P11,P12,P13,P14,L1,P15,N1,N2,N3,N4,N5,N6,N7,I1,I2,I3,I4,I5,I6,I7,reduceIte,reduceCtorEq,c,hz,hps,hu]
  rw[hX,hkn,celV_full (q23 _ _)]
  exact hk
end
abbrev vz:Vl:=⟨0,[],0⟩
def atV (l:List Vl) (v:Int):Vl:=l.getD v.toNat vz
def bestM (s:Int) (pr:List Int) (l:List Vl):Int→List Int→Int
 | b,[]=>b
 | b,u::row=>bestM s pr l (if 0<s*ordI pr (atV l u) (atV l b) then u else b) row
def impA (s:Int) (ow pr:List Int) (su:List (List Int)) (l:List Vl) (player:Int) (st:List Int) (v:Nat):Int:=
 if ow.getD v 0=player then bestM s pr l (st.getD v 0) (su.getD v []) else st.getD v 0
def impM (s:Int) (ow pr:List Int) (su:List (List Int)) (l:List Vl) (player:Int) (st:List Int):List Int:=tabA st.length (impA s ow pr su l player st)
def chgM (s:Int) (ow pr:List Int) (su:List (List Int)) (l:List Vl) (player:Int) (st:List Int):Bool:=decide (impM s ow pr su l player st≠st)
def BtC (tab:FuncId→Option AF) (f:PV) (s:Int) (pr:List Int):Prop:=
 ∃(g:FuncId) (cap:List PV),f= .func (.func g) [] cap∧q14 0 cap=true∧∀(fa oa fb ob:Bool) (a b:Vl) (M:Mem) (K:PV→Mem→Prop),InV pr.length a→InV pr.length b→K (p64 (s*ordI pr a b)) M→SemC tab g ([.agg (vlL fa oa a),.agg (vlL fb ob b)]++cap) M K
section
variable {tab:FuncId→Option AF} (T:HasA tab)
include T
theorem bt_zero {F:GF} {ow pr:List Int} {su:List (List Int)} (hp:∀v,0≤prI pr v):BtC tab (ordV (gmF F ow pr su)) 1 pr:=
 ⟨_,_,rfl,by simp only[PP,P1,P2,P3,P4,P5,P6,P7,P8,P9,P10,P11,P12,P13,P14,L1,P15,N1,N2,N3,N4,N5,N6,N7,I1,I2,I3,I4,I5,I6,I7,reduceIte,reduceCtorEq,PV.under],fun fa oa fb ob a b M K ia ib hk=>ord4_p T hp ia ib (by rw[Int.one_mul]at hk;exact hk)⟩
theorem bt_one {F:GF} {ow pr:List Int} {su:List (List Int)} (hp:∀v,0≤prI pr v):BtC tab (.func (.func 69) [] [.cp [ordV (gmF F ow pr su)] 0]) (-1) pr:=by
 refine⟨_,_,rfl,by simp only[PP,P1,P2,P3,P4,P5,P6,P7,P8,P9,P10,P11,P12,P13,P14,L1,P15,N1,N2,N3,N4,N5,N6,N7,I1,I2,I3,I4,I5,I6,I7,reduceIte,reduceCtorEq,PV.under],fun fa oa fb ob a b M K ia ib hk=>?_⟩
 refine q11 T.h69 (by simp only[PP,P1,P2,P3,P4,P5,P6,P7,P8,P9,P10,P11,P12,P13,P14,L1,P15,N1,N2,N3,N4,N5,N6,N7,I1,I2,I3,I4,I5,I6,I7,reduceIte,reduceCtorEq,PV.under]) ?_
 simp only[af69,PP,P1,P2,P3,P4,P5,P6,P7,P8,P9,P10,P11,P12,P13,P14,L1,P15,N1,N2,N3,N4,N5,N6,N7,I1,I2,I3,I4,I5,I6,I7,reduceIte,reduceCtorEq]
 refine ord4_p T hp ib ia ?_
 simp only[PP,P1,P2,P3,P4,P5,P6,P7,P8,P9,P10,P11,P12,P13,P14,L1,P15,N1,N2,N3,N4,N5,N6,N7,I1,I2,I3,I4,I5,I6,I7,reduceIte,reduceCtorEq]
 have e:ordI pr b a= -1*ordI pr a b:=by
  have:=(ord3_ord hp).anti ⟨a,fun v hv=>(ia.se v hv).1⟩ ⟨b,fun v hv=>(ib.se v hv).1⟩
  simp only at this
  rw[this];omega
 rw[e]
 exact hk
set_option maxHeartbeats 1000000 in
theorem improve_q {K:PV→Mem→Prop} {F:GF} {f5 o5 fi oi:Bool} {ow pr st:List Int} {su:List (List Int)} {l:List Vl} {L:List PV} {bt:PV} {s player:Int} {g ver n:Nat} (hLl:L.length=l.length*3) (hLp:∀(k:Nat) (x:Vl),l[k]? =some x→psub L (k*3) 3=vlL fi oi x) (V:Valid ow pr su) (hn:st.length=n) (hl:l.length=n) (hno:n=ow.length) (hbt:BtC tab bt s pr)
  (hst:∀v,v<n→0≤st.getD v 0∧st.getD v 0<n) (hin:∀x∈l,InV pr.length x)
  (hk:∀ver',K (.bool (chgM s ow pr su l player st)) [.cells g ver' ((impM s ow pr su l player st).map p64)]):
  SemC tab 46 [.agg [p8 player,bt],.agg (gmF F ow pr su),.ref 0 g 1 0 n,.sl f5 o5 3 n L] [.cells g ver (st.map p64)] K:=by
 have hs:=V.s
 have hpl:=V.p
 have n1:=V.n1
 obtain⟨gb,cap,rfl,hcap,hsem⟩:=hbt
 refine SemC_res (q33 T.h46 ?_)
 simp only[af46,PP,P1,P2,P3,P4,P5,P6,P7,P8,P9,P10,P11,P12,P13,P14,L1,P15,N1,N2,N3,N4,N5,N6,N7,I1,I2,I3,I4,I5,I6,I7,reduceIte,reduceCtorEq]
 refine loop2 (fun(k ver:Nat)=>k≤n) (fun k ver=>[Zj,Zj,.ref 0 g 1 0 n,.sl f5 o5 3 n L,.ptr 1 0 0,.ptr 2 0 0,Zj,Zj,.bool (decide (∃v,v<k∧impA s ow pr su l player st v≠st.getD v 0)),Zj,Zj,Zj,Zj,Zj,Zj,slR F.f3 F.o3 F.f4 F.o4 .i64 su,p64 su.length,p64 k,Zj,Zj,Zj,Zj,Zj,Zj,Zj,Zj,Zj,Zj,Zj,Zj,Zj,Zj,Zj,Zj,Zj,Zj,Zj,Zj,Zj,Zj,Zj,Zj,Zj,Zj,Zj,Zj,Zj,Zj,Zj,Zj,Zj,Zj,Zj,Zj,Zj,Zj,Zj,Zj,Zj,Zj,Zj,Zj,Zj,Zj,Zj,Zj,Zj,Zj,Zj])
  (fun k ver=>[.cells g ver ((tabA n fun v=>if v<k then impA s ow pr su l player st v else st.getD v 0).map p64),.cells 0 0 [p8 player,.func (.func gb) [] cap],.cells 0 0 (gmF F ow pr su)]) (fun k _=>n-k) 0 ver (Nat.zero_le _) (by
   have e:¬∃v,v<0∧impA s ow pr su l player st v≠st.getD v 0:=fun⟨v,h,_⟩=>by omega
   simp only[PW,e,decide_false]) (by
   congr 2
   congr 1
   refine tabA_ext hn fun v hv=>?_
   rw[if_neg (by omega)]
   obtain⟨x,hx⟩:=q13 (xs:=st) (k:=v) (by omega)
   rw[getD_some hx,hx]) ?_
 intro k ver hle ih
 obtain⟨X,hX⟩:∃X,X=tabA n fun v=>if v<k then impA s ow pr su l player st v else st.getD v 0:=⟨_,rfl⟩
 have hXl:X.length=n:=by rw[hX,q23]
 obtain⟨ch,hch⟩:∃ch,ch=decide (∃v,v<k∧impA s ow pr su l player st v≠st.getD v 0):=⟨_,rfl⟩
 rw[←hX,←hch]
 refine q15 (by kernel_rfl) ?_
 simp only[PP,P1,P2,P3,P4,P5,P6,P7,P8,P9,P10,P11,P12,P13,P14,L1,P15,N1,N2,N3,N4,N5,N6,N7,I1,I2,I3,I4,I5,I6,I7,reduceIte,reduceCtorEq]
 refine QIf.intro (fun c=>?_) (fun c=>?_)
 rotate_left
 ·have hkn:k=n:=by omega
  have hXi:X=impM s ow pr su l player st:=by
   rw[hX];unfold impM
   rw[hn]
   exact q38 fun v hv=>if_pos (by omega)
  have hce:ch=chgM s ow pr su l player st:=by
   rw[hch];unfold chgM
   congr 1
   apply propext
   constructor
   ·rintro⟨v,hv,hne⟩ e
    have h1:(impM s ow pr su l player st)[v]? =some (impA s ow pr su l player st v):=q66 (by omega)
    rw[e]at h1
    exact hne (getD_some h1).symm
   ·intro hne
    refine Classical.byContradiction fun hno=>hne ?_
    refine(tabA_ext rfl fun v hv=>?_).symm
    obtain⟨x,hx⟩:=q13 (xs:=st) (k:=v) hv
    rw[hx]
    congr 1
    refine Classical.byContradiction fun q=>hno ⟨v,by omega,fun e=>q ?_⟩
    rw[e,getD_some hx]
  simp only[PP,P1,P2,P3,P4,P5,P6,P7,P8,P9,P10,P11,P12,P13,P14,L1,P15,N1,N2,N3,N4,N5,N6,N7,I1,I2,I3,I4,I5,I6,I7,reduceIte,reduceCtorEq,c]
  refine⟨.bool ch,[.cells g ver (X.map p64)],by simp[pfrz,q67,q43,PV.under],?_,?_⟩
  ·exact pfrzM_cons (pfrzO_ok (by simp only[cutOk,q58])) rfl
  ·rw[hXi,hce];exact hk ver
 have hk':k<n:=by omega
 have k0:(0:Int)≤k:=by omega
 have hw:=q10 (k:=k) (by show _<1000000000000;omega)
 obtain⟨row,gr⟩:=q13 (xs:=su) (k:=k) (by omega)
 obtain⟨o,go⟩:=q13 (xs:=ow) (k:=k) (by omega)
 have er:su.getD k []=row:=by simp[List.getD,gr]
 have eo:ow.getD k 0=o:=getD_some go
 have ko:(k:Int)<ow.length:=by omega
 obtain⟨x0,gx0⟩:=q13 (xs:=st) (k:=k) (by omega)
 have ex0:st.getD k 0=x0:=getD_some gx0
 have gX:X[k]? =some x0:=by rw[hX,q66 hk',if_neg (by omega),ex0]
 have hup:∀y,impA s ow pr su l player st k=y→X.set k y=tabA n fun v=>if v<k+1 then impA s ow pr su l player st v else st.getD v 0:=fun y hy=>by
  rw[hX,tabA_set y hk']
  refine q38 fun v hv=>?_
  by_cases e:v=k
  ·subst e;rw[if_pos rfl,if_pos (by omega),hy]
  ·rw[if_neg e]
   by_cases q:v<k
   ·rw[if_pos q,if_pos (by omega)]
   ·rw[if_neg q,if_neg (by omega)]
 have hcu:∀y,impA s ow pr su l player st k=y→decide (∃v,v<k+1∧impA s ow pr su l player st v≠st.getD v 0)=(if ch=true then true else decide (y≠x0)):=fun y hy=>by
  rw[hch]
  by_cases e:∃v,v<k∧impA s ow pr su l player st v≠st.getD v 0
  ·obtain⟨v,h1,h2⟩:=e
   rw[decide_eq_true (p:=∃v,v<k∧impA s ow pr su l player st v≠st.getD v 0) ⟨v,h1,h2⟩,if_pos rfl]
   exact decide_eq_true ⟨v,by omega,h2⟩
  ·rw[decide_eq_false e,if_neg (by simp)]
   congr 1
   apply propext
   constructor
   ·rintro⟨v,h1,h2⟩
    by_cases q:v=k
    ·subst q;rw[hy,ex0]at h2;exact h2
    ·exact absurd ⟨v,by omega,h2⟩ e
   ·intro q;exact⟨k,by omega,by rw[hy,ex0];exact q⟩
 simp only[PP,P1,P2,P3,P4,P5,P6,P7,P8,P9,P10,P11,P12,P13,P14,L1,P15,N1,N2,N3,N4,N5,N6,N7,I1,I2,I3,I4,I5,I6,I7,reduceIte,reduceCtorEq,c,gr,go,k0,ko]
 refine QIf.intro (fun d=>?_) (fun d=>?_)
 rotate_left
 ·--the other player's position
  have hi:impA s ow pr su l player st k=x0:=by unfold impA;rw[eo,if_neg d,ex0]
  have h1:=hup x0 hi
  have h2:=hcu x0 hi
  simp only[PP,P1,P2,P3,P4,P5,P6,P7,P8,P9,P10,P11,P12,P13,P14,L1,P15,N1,N2,N3,N4,N5,N6,N7,I1,I2,I3,I4,I5,I6,I7,reduceIte,reduceCtorEq,d,hw]
  refine q20 (ih (k+1) ver (by omega) (by omega)) ?_ ?_
  ·rw[h2]
   cases ch<;>simp only[PW,ne_eq,not_true_eq_false,decide_false,Bool.false_eq_true,if_false,if_true]
  ·rw[←h1]
   have:X.set k x0=X:=by
    refine List.ext_getElem? fun i=>?_
    by_cases e:k=i
    ·subst e;rw[List.getElem?_set_self (by omega),gX]
    ·rw[List.getElem?_set_ne e]
   rw[this]
 have hi:impA s ow pr su l player st k=bestM s pr l x0 row:=by unfold impA;rw[eo,if_pos d,ex0,er]
 have hx0:=hst k hk'
 rw[ex0]at hx0
 simp only[PP,P1,P2,P3,P4,P5,P6,P7,P8,P9,P10,P11,P12,P13,P14,L1,P15,N1,N2,N3,N4,N5,N6,N7,I1,I2,I3,I4,I5,I6,I7,reduceIte,reduceCtorEq,d,gX,k0,c]
 have hrow:∀u∈row,0≤u∧u<ow.length:=fun u hu=>su_range V (v:=k) (by omega) (by rw[er];exact hu)
 refine⟨by omega,?_⟩
 refine loop2 (fun(j:Nat) (b:Int)=>j≤row.length∧(0≤b∧b<n)∧bestM s pr l b (row.drop j)=bestM s pr l x0 row) (fun j b=>[Zj,Zj,.ref 0 g 1 0 n,.sl f5 o5 3 n L,.ptr 1 0 0,.ptr 2 0 0,Zj,Zj,.bool ch,p64 k,Zj,p64 b,Zj,Zj,Zj,slR F.f3 F.o3 F.f4 F.o4 .i64 su,p64 su.length,p64 k,Zj,Zj,Zj,Zj,Zj,Zj,Zj,Zj,Zj,Zj,Zj,Zj,Zj,Zj,Zj,Zj,slI F.f4 F.o4 .i64 row,p64 row.length,p64 j,Zj,Zj,Zj,Zj,Zj,Zj,Zj,Zj,Zj,Zj,Zj,Zj,Zj,Zj,Zj,Zj,Zj,Zj,Zj,Zj,Zj,Zj,Zj,Zj,Zj,Zj,Zj,Zj,Zj,Zj,Zj,Zj])
  (fun _ _=>[.cells g ver (X.map p64),.cells 0 0 [p8 player,.func (.func gb) [] cap],.cells 0 0 (gmF F ow pr su)]) (fun j _=>row.length-j) 0 x0 ⟨Nat.zero_le _,hx0,rfl⟩ (by simp only[PW]) rfl ?_
 intro j b ⟨hj,hb,hbe⟩ ih2
 refine q15 (by kernel_rfl) ?_
 simp only[PP,P1,P2,P3,P4,P5,P6,P7,P8,P9,P10,P11,P12,P13,P14,L1,P15,N1,N2,N3,N4,N5,N6,N7,I1,I2,I3,I4,I5,I6,I7,reduceIte,reduceCtorEq]
 have hrl:row.length≤4096:=by
  obtain⟨_,_,_,_,hp⟩:=V.row k (by omega)
  have hp:=posM_rise hp
  have hk2:k<su.length:=by omega
  have e:su[k]=row:=by rw[List.getElem?_eq_getElem hk2]at gr;cases gr;rfl
  rw[e]at hp
  have hnd:(row.map Int.toNat).Nodup:=by
   rw[List.Nodup,List.pairwise_map]
   refine hp.1.imp_of_mem fun {a b} ha hb (q:a<b)=>?_
   have:=hp.2 a ha;have:=hp.2 b hb;omega
  have:=nodup_lenN ow.length _ hnd (fun x hx=>by
   obtain⟨y,hy,rfl⟩:=List.mem_map.1 hx
   have:=hp.2 y hy;omega)
  rw[List.length_map]at this;omega
 refine QIf.intro (fun e=>?_) (fun e=>?_)
 ·have hj':j<row.length:=by omega
  obtain⟨u,gu⟩:=q13 hj'
  obtain⟨u0,u1⟩:=hrow u (List.mem_of_getElem? gu)
  have j0:(0:Int)≤j:=by omega
  have hwj:=q10 (k:=j) (by show _<1000000000000;omega)
  obtain⟨lu,glu⟩:=q13 (xs:=l) (k:=u.toNat) (by omega)
  obtain⟨lb,glb⟩:=q13 (xs:=l) (k:=b.toNat) (by omega)
  have elu:atV l u=lu:=by simp[atV,List.getD,glu]
  have elb:atV l b=lb:=by simp[atV,List.getD,glb]
  have pu:=hLp _ _ glu
  have pb:=hLp _ _ glb
  have un:u<n:=by omega
  have b1:u.toNat*3+3≤L.length:=by rw[hLl];omega
  have b2:b.toNat*3+3≤L.length:=by rw[hLl];omega
  have b0:=hb.1
  have bn:=hb.2
  rw[drop_some gu,bestM,elu,elb]at hbe
  simp only[PP,P1,P2,P3,P4,P5,P6,P7,P8,P9,P10,P11,P12,P13,P14,L1,P15,N1,N2,N3,N4,N5,N6,N7,I1,I2,I3,I4,I5,I6,I7,reduceIte,reduceCtorEq,e,gu,j0,u0,un,b0,bn,pu,pb,b1,b2]
  refine hsem _ _ _ _ lu lb _ _ (hin lu (List.mem_of_getElem? glu)) (hin lb (List.mem_of_getElem? glb)) ?_
  simp only[PP,P1,P2,P3,P4,P5,P6,P7,P8,P9,P10,P11,P12,P13,P14,L1,P15,N1,N2,N3,N4,N5,N6,N7,I1,I2,I3,I4,I5,I6,I7,reduceIte,reduceCtorEq]
  refine QIf.intro (fun q=>?_) (fun q=>?_)
  ·rw[if_pos q]at hbe
   simp only[PP,P1,P2,P3,P4,P5,P6,P7,P8,P9,P10,P11,P12,P13,P14,L1,P15,N1,N2,N3,N4,N5,N6,N7,I1,I2,I3,I4,I5,I6,I7,reduceIte,reduceCtorEq,q,hwj]
   exact q8 (ih2 (j+1) u ⟨by omega,⟨u0,un⟩,hbe⟩ (by omega)) (by simp only[PW])
  ·rw[if_neg q]at hbe
   simp only[PP,P1,P2,P3,P4,P5,P6,P7,P8,P9,P10,P11,P12,P13,P14,L1,P15,N1,N2,N3,N4,N5,N6,N7,I1,I2,I3,I4,I5,I6,I7,reduceIte,reduceCtorEq,q,hwj]
   exact q8 (ih2 (j+1) b ⟨by omega,hb,hbe⟩ (by omega)) (by simp only[PW])
 ·rw[List.drop_eq_nil_of_le (by omega),bestM]at hbe
  rw[←hbe]at hi
  have h1:=hup b hi
  have h2:=hcu b hi
  have kn:(k:Int)<n:=by omega
  have hkX:k<X.length:=by omega
  have hset:(X.map p64).set k (p64 b)=(X.set k b).map p64:=by rw[List.map_set]
  cases hcc:ch with
  | true=>
   rw[hcc,if_pos rfl]at h2
   simp only[PP,P1,P2,P3,P4,P5,P6,P7,P8,P9,P10,P11,P12,P13,P14,L1,P15,N1,N2,N3,N4,N5,N6,N7,I1,I2,I3,I4,I5,I6,I7,reduceIte,reduceCtorEq,e,k0,kn,hw,gX,hkX,hset]
   refine⟨by omega,q20 (ih (k+1) (ver+1) (by omega) (by omega)) ?_ (by rw[h1])⟩
   rw[h2]
   simp only[PW]
  | false=>
   rw[hcc,if_neg (by simp)]at h2
   simp only[PP,P1,P2,P3,P4,P5,P6,P7,P8,P9,P10,P11,P12,P13,P14,L1,P15,N1,N2,N3,N4,N5,N6,N7,I1,I2,I3,I4,I5,I6,I7,reduceIte,reduceCtorEq,e,k0,kn,hw,gX,hkX,hset]
   refine⟨by omega,q20 (ih (k+1) (ver+1) (by omega) (by omega)) ?_ (by rw[h1])⟩
   rw[h2]
   simp only[PW,ne_eq]
theorem improve_p {K:PV→Mem→Prop} {F:GF} {f5 o5:Bool} {ow pr st:List Int} {su:List (List Int)} {l:List Vl} {bt:PV} {s player:Int} {g ver n:Nat} (V:Valid ow pr su) (hn:st.length=n) (hl:l.length=n) (hno:n=ow.length) (hbt:BtC tab bt s pr)
  (hst:∀v,v<n→0≤st.getD v 0∧st.getD v 0<n) (hin:∀x∈l,InV pr.length x)
  (hk:∀ver',K (.bool (chgM s ow pr su l player st)) [.cells g ver' ((impM s ow pr su l player st).map p64)]):
  SemC tab 46 [.agg [p8 player,bt],.agg (gmF F ow pr su),.ref 0 g 1 0 n,.sl f5 o5 3 n (vlsL l)] [.cells g ver (st.map p64)] K:=
 improve_q T (fi:=false) (oi:=true) (q64 l) (fun k x h=>psub_vls h) V hn hl hno hbt hst hin hk
end
structure MvOk (su:List (List Int)) (n:Nat) (st:List Int):Prop where
 l:st.length=n
 m:∀v,v<n→st.getD v 0∈su.getD v []
def fnM (st:List Int) (v:Nat):Nat:=(st.getD v 0).toNat
section
variable {ow pr:List Int} {su:List (List Int)} (V:Valid ow pr su)
include V
theorem MvOk.rng {st:List Int} (h:MvOk su ow.length st) {v:Nat} (hv:v<ow.length):0≤st.getD v 0∧st.getD v 0<ow.length:=su_range V hv (h.m v hv)
theorem MvOk.fn {st:List Int} (h:MvOk su ow.length st):∀v,v<ow.length→fnM st v<ow.length:=fun v hv=>by have:=h.rng V hv;unfold fnM;omega
theorem MvOk.mov {st:List Int} (h:MvOk su ow.length st):movM su 0 st=true:=by
 have _:=V
 have key:∀(l:List Int) (k:Nat),(∀(i:Nat) (u:Int),l[i]? =some u→u∈su.getD (k+i) [])→movM su k l=true:=by
  intro l
  induction l with
  | nil=>intro k _;rfl
  | cons x l ih=>
   intro k hx
   rw[movM,if_pos (by simpa using hx 0 x rfl)]
   exact ih (k+1) fun i u hu=>by rw[show k+1+i=k+(i+1) by omega];exact hx (i+1) u (by simpa using hu)
 refine key st 0 fun i u hu=>?_
 have hi:=q12 hu
 have:=h.m i (by rw[←h.l];exact hi)
 rw[getD_some hu]at this
 rwa [Nat.zero_add]
theorem MvOk.play {st:List Int} (h:MvOk su ow.length st) (hc:checkM ow pr su=0) {v:Nat} (hv:v<ow.length):playE ow pr su st v=0:=by
 unfold playE
 rw[if_pos hc,if_neg (by omega),if_neg (by omega),if_pos (by rw[h.l]),if_pos (h.mov V)]
theorem MvOk.val {st:List Int} (h:MvOk su ow.length st) (hc:checkM ow pr su=0) {v:Nat} (hv:v<ow.length):IsVal (fnM st) pr ow.length v (folA ow pr su st v):=by
 unfold folA
 rw[if_pos (h.play V hc hv)]
 obtain⟨m,k,hP⟩:=play_spec (st:=st) (f:=fnM st) (n:=ow.length) (v:=v) (fun v hv=>by
  obtain⟨x,hx⟩:=q13 (xs:=st) (k:=v) (by rw[h.l];exact hv)
  have:=h.rng V hv
  unfold fnM
  rw[getD_some hx]at this ⊢
  rw[hx];congr 1;omega) (h.fn V) hv
 exact folV_val hP (h.fn V) hv
end
theorem valsM_at {ow pr st:List Int} {su:List (List Int)} {v:Nat} (hv:v<st.length):atV (q19 ow pr su st) v=folA ow pr su st v:=by
 have:=q66 (f:=fun v:Nat=>folA ow pr su st v) hv
 unfold atV
 rw[Int.toNat_natCast]
 show(tabA st.length fun v:Nat=>folA ow pr su st v).getD v vz=_
 rw[List.getD,this];rfl
theorem VOk.inV {n:Nat} {x:Vl} (h:VOk n x) (hn:n≤4096):InV n x:=by
 refine⟨h.c0,h.cn,h.se,?_⟩
 have hnd:(x.se.map Int.toNat).Nodup:=by
  have key:∀(l:List Int) (k:Int),Rise k l→-1≤k→(l.map Int.toNat).Nodup∧∀y∈l.map Int.toNat,k<y:=by
   intro l
   induction l with
   | nil=>intro k _ _;exact⟨List.nodup_nil,fun y hy=>by cases hy⟩
   | cons a l ih=>
    intro k h hk
    obtain⟨h1,h2⟩:=h
    obtain⟨i1,i2⟩:=ih a h2 (by omega)
    refine⟨List.nodup_cons.2 ⟨fun q=>?_,i1⟩,fun y hy=>?_⟩
    ·have:=i2 _ q;omega
    ·rcases List.mem_cons.1 hy with rfl | hy
     ·omega
     ·have:=i2 y hy;omega
  exact(key x.se (-1) h.rise (by omega)).1
 have:=nodup_lenN n _ hnd (fun y hy=>by
  obtain⟨z,hz,rfl⟩:=List.mem_map.1 hy
  have:=h.se z hz;omega)
 rw[List.length_map]at this
 show _<1000000000000
 omega
section
variable {s:Int} (hs:s=1∨s= -1) {pr:List Int} (hp:∀v,0≤prI pr v)
include hs hp
theorem bestM_spec (l:List Vl) (hl:∀v,Nn (atV l v).se):∀(row:List Int) (b:Int),(bestM s pr l b row=b∨bestM s pr l b row∈row)∧0≤s*ordI pr (atV l (bestM s pr l b row)) (atV l b)∧∀u∈row,0≤s*ordI pr (atV l (bestM s pr l b row)) (atV l u)
 | [],b=>⟨.inl rfl,by
   have:=(ord3_ord hp).self ⟨atV l b,hl b⟩
   simp only at this
   rw[bestM,this,Int.mul_zero];exact Int.le_refl _,fun u hu=>by cases hu⟩
 | u::row,b=>by
  rw[bestM]
  obtain⟨h1,h2,h3⟩:=bestM_spec l hl row (if 0<s*ordI pr (atV l u) (atV l b) then u else b)
  obtain⟨c,hc⟩:∃c,c=bestM s pr l (if 0<s*ordI pr (atV l u) (atV l b) then u else b) row:=⟨_,rfl⟩
  rw[←hc]at h1 h2 h3 ⊢
  have O:=ord3_ord hp
  have tr:∀x y z:Int,0≤s*ordI pr (atV l x) (atV l y)→0≤s*ordI pr (atV l y) (atV l z)→0≤s*ordI pr (atV l x) (atV l z):=fun x y z q1 q2=>by
   have t1:=O.tr ⟨atV l x,hl x⟩ ⟨atV l y,hl y⟩ ⟨atV l z,hl z⟩
   have t2:=O.tr ⟨atV l z,hl z⟩ ⟨atV l y,hl y⟩ ⟨atV l x,hl x⟩
   have a1:=O.anti ⟨atV l x,hl x⟩ ⟨atV l y,hl y⟩
   have a2:=O.anti ⟨atV l y,hl y⟩ ⟨atV l z,hl z⟩
   have a3:=O.anti ⟨atV l x,hl x⟩ ⟨atV l z,hl z⟩
   simp only at t1 t2 a1 a2 a3
   rcases hs with rfl | rfl<;>omega
  have se:∀x:Int,ordI pr (atV l x) (atV l x)=0:=fun x=>O.self ⟨atV l x,hl x⟩
  have an:=O.anti ⟨atV l u,hl u⟩ ⟨atV l b,hl b⟩
  simp only at an
  by_cases e:0<s*ordI pr (atV l u) (atV l b)
  ·rw[if_pos e]at h1 h2
   refine⟨.inr ?_,tr _ _ _ h2 (by omega),fun x hx=>?_⟩
   ·rcases h1 with h1 | h1
    ·rw[h1];simp
    ·exact List.mem_cons_of_mem _ h1
   ·rcases List.mem_cons.1 hx with rfl | hx
    ·exact h2
    ·exact h3 x hx
  ·rw[if_neg e]at h1 h2
   refine⟨?_,h2,fun x hx=>?_⟩
   ·rcases h1 with h1 | h1
    ·exact .inl h1
    ·exact .inr (List.mem_cons_of_mem _ h1)
   ·rcases List.mem_cons.1 hx with rfl | hx
    ·exact tr _ _ _ h2 (by rcases hs with rfl | rfl<;>omega)
    ·exact h3 x hx
theorem bestM_stay (l:List Vl):∀(row:List Int) (b:Int),(∀u∈row,¬0<s*ordI pr (atV l u) (atV l b))→bestM s pr l b row=b
 | [],b,_=>rfl
 | u::row,b,h=>by
  have _:=hs;have _:=hp
  rw[bestM,if_neg (h u (by simp))]
  exact bestM_stay l row b fun x hx=>h x (List.mem_cons_of_mem _ hx)
end
def allMv:List (List Int)→List (List Int)
 | []=>[[]]
 | row::su=>row.flatMap fun u=>(allMv su).map (u:: ·)
theorem allMv_mem:∀(su:List (List Int)) (st:List Int),st∈allMv su↔st.length=su.length∧∀v,v<su.length→st.getD v 0∈su.getD v []
 | [],st=>by simp[allMv]
 | row::su,st=>by
  unfold allMv
  simp only[List.mem_flatMap,List.mem_map]
  constructor
  ·rintro⟨u,hu,t,ht,rfl⟩
   obtain⟨h1,h2⟩:=(allMv_mem su t).1 ht
   refine⟨by simp[h1],fun v hv=>?_⟩
   cases v with
   | zero=>simpa using hu
   | succ v=>simpa using h2 v (by simpa using hv)
  ·rintro⟨h1,h2⟩
   cases st with
   | nil=>simp at h1
   | cons u t=>
    refine⟨u,by simpa using h2 0 (by simp),t,(allMv_mem su t).2 ⟨by simpa using h1,fun v hv=>?_⟩,rfl⟩
    simpa using h2 (v+1) (by simpa using hv)
theorem filter_ltQ {α:Type} {p q:α→Bool} :∀{l:List α},(∀x∈l,p x=true→q x=true)→(∃x∈l,q x=true∧p x=false)→(l.filter p).length<(l.filter q).length
 | [],_,⟨x,hx,_⟩=>by cases hx
 | y::l,h,⟨x,hx,h1,h2⟩=>by
  have mono:∀l:List α,(∀x∈l,p x=true→q x=true)→(l.filter p).length≤(l.filter q).length:=by
   intro l
   induction l with
   | nil=>intro _;exact Nat.le_refl _
   | cons z l ih=>
    intro h
    have:=ih fun x hx=>h x (List.mem_cons_of_mem _ hx)
    have hz:=h z (by simp)
    cases hp:p z<;>cases hq:q z<;>simp[List.filter_cons,hp,hq]<;>first | omega | (rw[hq]at hz;exact absurd (hz hp) (by simp))
  have hm:=mono l fun x hx=>h x (List.mem_cons_of_mem _ hx)
  have hy:=h y (by simp)
  rcases List.mem_cons.1 hx with rfl | hx
  ·simp only[List.filter_cons,h1,h2,if_true,Bool.false_eq_true,if_false,List.length_cons];omega
  ·have ih:=filter_ltQ (l:=l) (fun x hx=>h x (List.mem_cons_of_mem _ hx)) ⟨x,hx,h1,h2⟩
   cases hp:p y<;>cases hq:q y<;>simp[List.filter_cons,hp,hq]<;>first | omega | (rw[hq]at hy;exact absurd (hy hp) (by simp))
theorem filter_leQ {α:Type} {p q:α→Bool} :∀{l:List α},(∀x∈l,p x=true→q x=true)→(l.filter p).length≤(l.filter q).length
 | [],_=>Nat.le_refl _
 | z::l,h=>by
  have:=filter_leQ (l:=l) fun x hx=>h x (List.mem_cons_of_mem _ hx)
  have hz:=h z (by simp)
  cases hp:p z<;>cases hq:q z<;>simp[List.filter_cons,hp,hq]<;>first | omega | (rw[hq]at hz;exact absurd (hz hp) (by simp))
def cntM (s:Int) (ow pr:List Int) (su:List (List Int)) (st:List Int):Nat:=
 (((allMv su).flatMap fun g=>(List.range ow.length).map fun v=>(g,v)).filter fun x=>decide (0<s*ordI pr (folA ow pr su x.1 x.2) (folA ow pr su st x.2))).length
def muM (s:Int) (ow pr:List Int) (su:List (List Int)) (player:Int) (st:List Int):Nat:=
 2*cntM s ow pr su st+(if chgM s ow pr su (q19 ow pr su st) player st=true then 1 else 0)
end Go.Am.Ar

