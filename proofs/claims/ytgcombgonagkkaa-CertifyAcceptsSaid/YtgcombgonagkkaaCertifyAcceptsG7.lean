/- Plain: moves that are better for the values at hand give better values, and what goes with it. -/
import Derived.Test.YtgcombgonagkkaaCertifyAcceptsG6
import Derived.Test.YtgcombgonagkkaaPmC
import Derived.Test.YtgcombgonagkkaaCertifyAcceptsG5
import Derived.Test.YtgcombgonagkkaaCertifyAcceptsG2
set_option linter.unusedVariables false
set_option linter.unusedSimpArgs false
namespace Go.Am.Ar
open Go.Am.PV renaming junk→Zj
theorem least_of {p:Nat→Prop} (h:∃k,p k):∃k,p k∧∀j,j<k→¬p j:=by
 obtain⟨k,hk⟩:=h
 induction k using Nat.strongRecOn with
 | ind k ih=>
  by_cases e:∃j,j<k∧p j
  ·obtain⟨j,h1,h2⟩:=e
   exact ih j h1 h2
  ·exact⟨k,hk,fun j hj hp=>e ⟨j,hj,hp⟩⟩
section
variable {s:Int} (hs:s=1∨s= -1) {pr:List Int} (hp:∀v,0≤prI pr v)
include hs hp
theorem g_trans {u v w:Int} (h1:0≤s*cyI pr u v) (h2:0≤s*cyI pr v w):0≤s*cyI pr u w:=by
 have O:=ord3_cy hp
 have t1:=O.tr u v w;have t2:=O.tr w v u
 have a1:=O.anti u v;have a2:=O.anti v w;have a3:=O.anti u w
 rcases hs with rfl | rfl<;>omega
theorem g_anti {u v:Int} (h1:0≤s*cyI pr u v) (h2:0≤s*cyI pr v u):u=v:=by
 have a1:=(ord3_cy hp).anti u v
 refine(cyI_zero hp).1 ?_
 rcases hs with rfl | rfl<;>omega
theorem g_refl (u:Int):0≤s*cyI pr u u:=by have _:=hs;rw[(ord3_cy hp).self,Int.mul_zero];exact Int.le_refl _
theorem g_of {x y:Vl} (h:0≤s*ordI pr x y):0≤s*cyI pr x.cy y.cy:=by
 by_cases e:x.cy=y.cy
 ·rw[e];exact g_refl hs hp _
 ·rw[ordI_cy hp e]at h;exact h
theorem pos_a {W c:Int} (h1:s*sgI pr W=1) (h2:0<relI pr W c):0<s*cyI pr W c:=by
 have _:=hs;have _:=hp
 have e:relI pr W c=1:=by have:=relI_rng pr W c;omega
 unfold cyI
 split
 ·omega
 ·rw[e,Int.mul_one];omega
theorem pos_b {W c:Int} (h1:s*sgI pr c= -1) (h2:relI pr W c<0):0<s*cyI pr W c:=by
 have _:=hs
 have e:relI pr W c= -1:=by have:=relI_rng pr W c;omega
 unfold cyI
 have g1:=q35 hp W
 have g2:=q35 hp c
 split
 ·rename_i q
  have:sgI pr W= -sgI pr c:=by omega
  rw[this,Int.mul_neg];omega
 ·rename_i q
  have:sgI pr W=sgI pr c:=Classical.byContradiction q
  rw[this,e,Int.mul_neg,Int.mul_neg,Int.mul_one];omega
end
section
variable {s:Int} (hs:s=1∨s= -1) {pr:List Int} (hp:∀v,0≤prI pr v) {n:Nat} {f f':Nat→Nat} {a a':Nat→Vl}
 (hf:∀v,v<n→f v<n) (hf':∀v,v<n→f' v<n) (ha:∀v,v<n→IsVal f pr n v (a v)) (ha':∀v,v<n→IsVal f' pr n v (a' v))
 (him:∀v,v<n→0≤s*ordI pr (a (f' v)) (a (f v)))
include hs hp hf hf' ha him
theorem key_step {v:Nat} (hv:v<n):0≤s*cyI pr (a (f' v)).cy (a v).cy:=by
 have _:=hf'
 have h:=g_of hs hp (him v hv)
 rwa [(ha v hv).next_cy (ha (f v) (hf v hv))]at h
theorem key_path {v:Nat} (hv:v<n):∀j,0≤s*cyI pr (a (itr f' v j)).cy (a v).cy
 | 0=>g_refl hs hp _
 | j+1=>g_trans hs hp (key_step hs hp hf hf' ha him (itr_lt hf' hv j)) (key_path hv j)
theorem key_loop {W:Nat} (hW:W<n) (hI:Inf f' W W) (hm:∀y,Inf f' W y→relI pr y W≤0) (hne:(W:Int)≠(a W).cy):0<s*cyI pr W (a W).cy:=by
 obtain⟨c,hc⟩:∃c,c=(a W).cy:=⟨_,rfl⟩
 rw[←hc]at hne ⊢
 obtain⟨P,⟨hP0,hPW⟩,hPm⟩:=least_of (p:=fun k=>0<k∧itr f' W k=W) (by obtain⟨j,h1,h2⟩:=hI 1;exact⟨j,by omega,h2⟩)
 have hlt:∀i,itr f' W i<n:=itr_lt hf' hW
 have hdist:∀i j,i<P→j<P→itr f' W i=itr f' W j→i=j:=by
  have one:∀i j,i<j→j<P→itr f' W i≠itr f' W j:=fun i j hij hj e=>by
   refine hPm (i+(P-j)) (by omega) ⟨by omega,?_⟩
   rw[←itr_sum,e,itr_sum,show j+(P-j)=P by omega];exact hPW
  intro i j hi hj e
  rcases Nat.lt_trichotomy i j with h | h | h
  ·exact absurd e (one i j h hj)
  ·exact h
  ·exact absurd e.symm (one j i h hi)
 have hPn:P≤n:=by
  have hnd:(its f' W P).Nodup:=by
   unfold its
   rw[List.Nodup,List.pairwise_map]
   refine List.Pairwise.imp_of_mem (fun {i j} hi hj (q:i≠j) e=>?_) List.nodup_range
   exact q (hdist i j (List.mem_range.1 hi) (List.mem_range.1 hj) e)
  have:=nodup_lenN n _ hnd (its_lt hf' hW)
  rwa [its_len]at this
 have hcy:∀i,i≤P→(a (itr f' W i)).cy=c:=fun i hi=>by
  have h1:=key_path hs hp hf hf' ha him hW i
  have h2:=key_path hs hp hf hf' ha him (hlt i) (P-i)
  rw[itr_sum,show i+(P-i)=P by omega,hPW,←hc]at h2
  rw[←hc]at h1
  exact g_anti hs hp h1 h2
 have hsc:=sign_one hs hp c
 let r:Nat→Int:=fun i=>if((itr f' W i:Nat):Int)=c then s*sgI pr c*(a (f (itr f' W i))).st else-(s*sgI pr c)
 let t:Nat→Int:=fun i=>if 0<relI pr (itr f' W i) c then s*sgI pr (itr f' W i) else 0
 have hstep:∀i,i<P→-((n+1)*(t i*2^expE pr n (itr f' W i))+r i)≤phi s pr n (a (itr f' W (i+1)))-phi s pr n (a (itr f' W i)):=fun i hi=>by
  have hv:=hlt i
  have h0:=ha _ hv
  have h1:=ha _ (hf _ hv)
  have ci:(a (itr f' W i)).cy=c:=hcy i (by omega)
  have e1:(a (f (itr f' W i))).cy=c:=by rw[h0.next_cy h1];exact ci
  have e2:(a (f' (itr f' W i))).cy=c:=hcy (i+1) (by omega)
  have hle:=(phi_le hs hp ((ha _ (hf' _ hv)).ok hf (hf' _ hv)) (h1.ok hf (hf _ hv)) (by rw[e1,e2])).1 (him _ hv)
  have eq:phi s pr n (a (f (itr f' W i)))=phi s pr n (a (itr f' W i))-((n+1)*(t i*2^expE pr n (itr f' W i))+r i):=by
   show _=_-(((n:Int)+1)*((if 0<relI pr (itr f' W i) c then s*sgI pr (itr f' W i) else 0)*2^expE pr n (itr f' W i))+(if((itr f' W i:Nat):Int)=c then s*sgI pr c*(a (f (itr f' W i))).st else-(s*sgI pr c)))
   by_cases e:((itr f' W i:Nat):Int)=c
   ·have q1:=phi_atn (s:=s) h0 h1 (by rw[ci];exact e)
    have q2:=phi_at (s:=s) h0 (by rw[ci];exact e)
    rw[ci]at q1
    rw[if_pos e,q1,q2,e,(q21 pr).self,if_neg (by omega),Int.zero_mul,Int.mul_zero];omega
   ·have q1:=phi_next (s:=s) hv h0 h1 (by rw[ci];exact e)
    rw[ci]at q1
    unfold dlt at q1
    rw[if_neg e,q1]
    split
    ·omega
    ·rw[Int.zero_mul,Int.mul_zero];omega
  show _≤phi s pr n (a (f' (itr f' W i)))-_
  omega
 have hsum:=sumI_le hstep
 have htele:=sumI_tele (fun i=>phi s pr n (a (itr f' W i))) P
 have hzero:itr f' W 0=W:=rfl
 rw[hPW,hzero,Int.sub_self]at htele
 rw[htele]at hsum
 obtain⟨T,hT⟩:∃T,T=sumI (fun i=>t i*2^expE pr n (itr f' W i)) P:=⟨_,rfl⟩
 obtain⟨R,hR⟩:∃R,R=sumI r P:=⟨_,rfl⟩
 have hsplit:sumI (fun i=> -((n+1)*(t i*2^expE pr n (itr f' W i))+r i)) P= -((n+1)*T+R):=by
  have h1:=sumI_mul (-1) (fun i=>((n:Int)+1)*(t i*2^expE pr n (itr f' W i))+r i) P
  have h2:=sumI_add (fun i=>((n:Int)+1)*(t i*2^expE pr n (itr f' W i))) r P
  have h3:=sumI_mul ((n:Int)+1) (fun i=>t i*2^expE pr n (itr f' W i)) P
  rw[h2,h3,←hT,←hR]at h1
  simp only[Int.neg_mul,Int.one_mul]at h1
  exact h1
 rw[hsplit]at hsum
 have hRn:R≤n:=by
  rw[hR]
  rcases hsc with g | g
  ·by_cases hx:∃x,x<P∧((itr f' W x:Nat):Int)=c
   ·obtain⟨x,hx,he⟩:=hx
    rw[sumI_one hx]
    have h1:r x<n:=by
     show(if _ then _ else _)<(n:Int)
     rw[if_pos he,g,Int.one_mul]
     exact(ha _ (hf _ (hlt x))).sn
    have h2:sumI (fun i=>if i=x then 0 else r i) P≤sumI (fun _=>0) P:=by
     refine sumI_le fun i hi=>?_
     by_cases q:i=x
     ·rw[if_pos q];exact Int.le_refl _
     ·rw[if_neg q]
      show(if _ then _ else _)≤(0:Int)
      rw[if_neg (fun e=>q (hdist i x hi hx (by omega))),g];omega
    rw[sumI_const]at h2
    omega
   ·have h2:sumI r P≤sumI (fun _=>0) P:=by
     refine sumI_le fun i hi=>?_
     show(if _ then _ else _)≤(0:Int)
     rw[if_neg (fun e=>hx ⟨i,hi,e⟩),g];omega
    rw[sumI_const]at h2
    omega
  ·have h2:sumI r P≤sumI (fun _=>1) P:=by
    refine sumI_le fun i hi=>?_
    have h0:=(ha _ (hf _ (hlt i))).s0
    rw[show r i=(if((itr f' W i:Nat):Int)=c then s*sgI pr c*(a (f (itr f' W i))).st else-(s*sgI pr c)) from rfl,g]
    split<;>omega
   rw[sumI_const]at h2
   omega
 have hinf:∀i,Inf f' W (itr f' W i):=fun i=>hI.follow i
 rcases relI_rng pr W c with e | e | e
 ·--less relevant
  have hT0:T=0:=by
   rw[hT]
   refine sumI_zero fun i hi=>?_
   show(if _ then _ else _)*_=(0:Int)
   have h1:=hm _ (hinf i)
   have h2:=(q21 pr).tr _ _ _ h1 (show relI pr W c≤0 by omega)
   rw[if_neg (by omega),Int.zero_mul]
  have hRP:R= -(s*sgI pr c)*P:=by
   rw[hR,←sumI_const]
   refine sumI_congr fun i hi=>?_
   show(if _ then _ else _)=_
   rw[if_neg (fun q=>?_)]
   have h1:=hm _ (hinf i)
   rw[q]at h1
   have:=(q21 pr).anti W c
   omega
  rw[hT0,Int.mul_zero,hRP]at hsum
  rcases hsc with g | g
  ·rw[g]at hsum;omega
  ·exact pos_b hs hp g (by omega)
 ·exact absurd (relI_zero.1 e) hne
 ·rcases sign_one hs hp W with g | g
  ·exact pos_a hs hp g (by omega)
  ·exfalso
   have hneg:T<0:=by
    rw[hT]
    refine lead_neg (E:=fun i=>expE pr n (itr f' W i)) (x:=0) (fun i j hi hj q=>hdist i j hi hj (expE_inj hp (hlt i) (hlt j) q)) hP0 (fun i hi=>?_) ?_ (fun i hi h0 hd=>?_)
    ·show(if _ then _ else _)=(-1:Int)∨(if _ then _ else _)=(0:Int)∨(if _ then _ else _)=(1:Int)
     have:=sign_one hs hp (itr f' W i:Nat)
     split
     ·omega
     ·omega
    ·show(if _ then _ else _)=(-1:Int)
     rw[hzero,if_pos (by omega)];exact g
    ·show expE pr n (itr f' W i)<expE pr n (itr f' W 0)
     rw[hzero]
     refine expE_lt hp (hlt i) hW ?_
     have h1:=hm _ (hinf i)
     have h2:=(q21 pr).anti W (itr f' W i:Nat)
     have h3:relI pr (itr f' W i:Nat) W≠0:=fun q=>h0 (hdist i 0 hi hP0 (by have:=relI_zero.1 q;rw[hzero];omega))
     omega
   have h1:((n:Int)+1)*T≤(n+1)*(-1):=Int.mul_le_mul_of_nonneg_left (by omega) (by omega)
   omega
include ha'
theorem key_cy {v:Nat} (hv:v<n):0≤s*cyI pr (a' v).cy (a v).cy:=by
 have h':=ha' v hv
 have hW:(a' v).cy.toNat<n:=by have:=h'.cy_lt hf' hv;have:=h'.c0;omega
 have eW:itr f' v (a' v).st.toNat=(a' v).cy.toNat:=by have:=h'.st;omega
 have hI:∀y,Inf f' (a' v).cy.toNat y↔Inf f' v y:=fun y=>by rw[←eW];exact Inf.itr _
 have hc:=h'.cyE
 have h1:=key_path hs hp hf hf' ha him hv (a' v).st.toNat
 rw[eW]at h1
 refine g_trans hs hp ?_ h1
 by_cases e:(((a' v).cy.toNat:Nat):Int)=(a (a' v).cy.toNat).cy
 ·rw[←e,hc];exact g_refl hs hp _
 ·have:=key_loop hs hp hf hf' ha him hW ((hI _).2 h'.inf) (fun y hy=>by rw[hc];exact h'.mx y ((hI y).1 hy)) e
  rw[hc]at this
  omega
theorem key_phi:∀(d:Nat) {v:Nat},v<n→(a' v).st=d→(a' v).cy=(a v).cy→phi s pr n (a v)≤phi s pr n (a' v):=by
 intro d
 induction d with
 | zero=>
  intro v hv hd hc
  have h':=ha' v hv
  have e:(v:Int)=(a' v).cy:=by
   have:=h'.st
   rw[hd]at this
   exact this
  rw[phi_at (ha v hv) (by rw[←hc];exact e),phi_at h' e]
  exact Int.le_refl _
 | succ d ih=>
  intro v hv hd hc
  have h:=ha v hv
  have h':=ha' v hv
  have k:=ha (f v) (hf v hv)
  have k1:=ha (f' v) (hf' v hv)
  have k':=ha' (f' v) (hf' v hv)
  have ne':(v:Int)≠(a' v).cy:=fun e=>by
   have:=(h'.at e).2;omega
  have e1:=h'.next_cy k'
  have e2:=h.next_cy k
  have hcf:(a' (f' v)).cy=(a (f' v)).cy:=by
   refine g_anti hs hp (key_cy hs hp hf hf' ha ha' him (hf' v hv)) ?_
   rw[e1,hc]
   exact key_step hs hp hf hf' ha him hv
  have hst:=h'.next_st k' ne'
  have q1:=ih (hf' v hv) (by omega) hcf
  have q2:=(phi_le hs hp (k1.ok hf (hf' v hv)) (k.ok hf (hf v hv)) (by rw[←hcf,e1,hc,e2])).1 (him v hv)
  have p1:=phi_next (s:=s) hv h k (by rw[←hc];exact ne')
  have p2:=phi_next (s:=s) hv h' k' ne'
  rw[p1,p2,hc]
  omega
theorem key {v:Nat} (hv:v<n):0≤s*ordI pr (a' v) (a v):=by
 have hc:=key_cy hs hp hf hf' ha ha' him hv
 by_cases e:(a' v).cy=(a v).cy
 ·refine(phi_le hs hp ((ha' v hv).ok hf' hv) ((ha v hv).ok hf hv) e).2 ?_
  have h0:=(ha' v hv).s0
  exact key_phi hs hp hf hf' ha ha' him (a' v).st.toNat hv (by omega) e
 ·rw[ordI_cy hp e];exact hc
end
set_option maxRecDepth 10000
open Go.Am renaming pchk→P1,pold→P2,PKNo→P3,ppack→P4,PObj.under→P5,pput→P6,ptset→P7,q60→P8,pev→P9,ofAV→P10,q30→P11,ppad→P12,pfill→P13,q39→P14,AO.effect→P15
open List renaming replicate→L1
open Nat renaming reduceAdd→N1,reduceSub→N2,reduceMul→N3,reduceLT→N4,reduceLeDiff→N5,reduceEqDiff→N6,reduceBEq→N7
open Int renaming reduceToNat→I1,reduceLT→I2,reduceLE→I3,reduceEq→I4,reduceAdd→I5,reduceSub→I6,reduceNeg→I7
def vlsL (l:List Vl):List PV:=l.flatMap (vlL false true)
theorem vlsL_len (l:List Vl):(vlsL l).length=l.length*3:=by
 unfold vlsL
 induction l with
 | nil=>rfl
 | cons x l ih=>rw[List.flatMap_cons,List.length_append,ih];simp;omega
theorem vlL_und (m:Nat) (x:Vl):q14 m (vlL false true x)=true:=by simp[q14,PV.under,q16]
theorem vlsL_und (m:Nat) (l:List Vl):q14 m (vlsL l)=true:=by
 rw[q53]
 intro v hv
 obtain⟨x,_,hx⟩:=List.mem_flatMap.1 hv
 exact(q53 m _).1 (vlL_und m x) v hx
theorem vlsL_young (l:List Vl):youngL (vlsL l)=true:=by
 rw[youngL_iff]
 intro v hv
 obtain⟨x,_,hx⟩:=List.mem_flatMap.1 hv
 simp only[List.mem_cons,List.not_mem_nil,or_false]at hx
 rcases hx with rfl | rfl | rfl<;>simp[PV.young,youngL_ints]
theorem under_slV (m:Nat) (f o:Bool) (sz n:Nat) (l:List Vl):PV.under m (.sl f o sz n (vlsL l))=true:=by
 simp only[PV.under];exact vlsL_und m l
theorem vlsL_app (l:List Vl) (x:Vl):vlsL l++vlL false true x=vlsL (l++[x]):=by simp[vlsL]
theorem vlsL_split {l:List Vl} {k:Nat} {x:Vl} (h:l[k]? =some x):vlsL l=vlsL (l.take k)++(vlL false true x++vlsL (l.drop (k+1))):=by
 obtain⟨hk,rfl⟩:=List.getElem?_eq_some_iff.1 h
 have e:l=l.take k++l[k]::l.drop (k+1):=by rw[←List.drop_eq_getElem_cons hk,List.take_append_drop]
 unfold vlsL
 conv=>lhs;rw[e]
 rw[List.flatMap_append,List.flatMap_cons]
theorem psub_vls {l:List Vl} {k:Nat} {x:Vl} (h:l[k]? =some x):psub (vlsL l) (k*3) 3=vlL false true x:=by
 have hk:=q10 h
 rw[vlsL_split h]
 unfold psub
 rw[List.drop_left' (by rw[vlsL_len,List.length_take];congr 1;omega)]
 rfl
def celV (n:Nat) (xs:List Vl):List PV:=vlsL xs++q39 (n-xs.length) [p64 0,.nils,p64 0]
theorem prepl_len (n:Nat) (z:List PV):(q39 n z).length=n*z.length:=by
 induction n with
 | zero=>simp[q39]
 | succ n ih=>rw[q39,List.length_append,ih,Nat.add_mul,Nat.one_mul];omega
theorem celV_len {n:Nat} {xs:List Vl} (h:xs.length≤n):(celV n xs).length=n*3:=by
 unfold celV
 rw[List.length_append,vlsL_len,prepl_len]
 simp only[List.length_cons,List.length_nil]
 omega
theorem celV_put {n:Nat} {xs:List Vl} (x:Vl) (h:xs.length<n):(celV n xs).take (xs.length*3)++(vlL false true x++(celV n xs).drop (xs.length*3+3))=celV n (xs++[x]):=by
 obtain⟨m,hm⟩:∃m,n-xs.length=m+1:=⟨n-xs.length-1,by omega⟩
 have hm2:n-(xs++[x]).length=m:=by simp;omega
 unfold celV
 rw[hm,hm2,q39,←vlsL_len xs,List.take_left' rfl,←vlsL_app,←List.drop_drop,List.drop_left' rfl]
 rw[show [p64 0,PV.nils,p64 0]++q39 m [p64 0,.nils,p64 0]=([p64 0,.nils,p64 0]:List PV)++q39 m [p64 0,.nils,p64 0] from rfl,List.drop_left' (by rfl)]
 simp
theorem celV_full {n:Nat} {xs:List Vl} (h:xs.length=n):celV n xs=vlsL xs:=by
 unfold celV
 rw[h,Nat.sub_self];simp[q39]
def q26 (ow pr:List Int) (su:List (List Int)) (st:List Int):List Vl:=tabA st.length fun v=>folA ow pr su st v
section
variable {tab:FuncId→Option AF} (T:HasA tab)
include T
theorem values_p {M:Mem} {K:PV→Mem→Prop} {F:GF} {f5 o5:Bool} {ow pr st:List Int} {su:List (List Int)} (B:Bnd ow pr su) (h14:ow.length≤14) (hn:st.length≤14) (hk:K (.sl false true 3 st.length (vlsL (q26 ow pr su st))) M):
  SemC tab 53 [.agg (gmF F ow pr su),slI f5 o5 .i64 st] M K:=by
 refine q11 T.h53 (by simp only[PP,P1,P2,P3,P4,P5,P6,P7,P8,P9,P10,P11,P12,P13,P14,L1,P15,N1,N2,N3,N4,N5,N6,N7,I1,I2,I3,I4,I5,I6,I7,reduceIte,reduceCtorEq]) ?_
 have e0:q39 st.length [PV.int .i64 0,.nils,.int .i64 0]=celV st.length []:=by simp[celV,vlsL]
 simp only[af53,PP,P1,P2,P3,P4,P5,P6,P7,P8,P9,P10,P11,P12,P13,P14,L1,P15,N1,N2,N3,N4,N5,N6,N7,I1,I2,I3,I4,I5,I6,I7,reduceIte,reduceCtorEq,e0]
 refine⟨by omega,?_⟩
 refine loop2 (fun(k ver:Nat)=>k≤st.length) (fun k ver=>[Zj,slI f5 o5 .i64 st,.ptr 0 0 0,Zj,Zj,.ref 1 0 3 0 st.length,Zj,Zj,Zj,Zj,Zj,p64 st.length,p64 k,Zj,Zj,Zj,Zj,Zj,Zj,Zj,Zj,Zj,Zj,Zj,Zj,Zj,Zj])
  (fun k ver=>[.cells 0 0 (gmF F ow pr su),.cells 0 ver (celV st.length (tabA k fun v=>folA ow pr su st v))]) (fun k _=>st.length-k) 0 0 (Nat.zero_le _) (by simp only[PW]) rfl ?_
 intro k ver hle ih
 have hXl:=celV_len (n:=st.length) (xs:=tabA k fun v=>folA ow pr su st v) (by rw[q27];exact hle)
 obtain⟨X,hX⟩:∃X,X=celV st.length (tabA k fun v=>folA ow pr su st v):=⟨_,rfl⟩
 rw[←hX]at hXl ⊢
 refine q15 (by kernel_rfl) ?_
 simp only[PP,P1,P2,P3,P4,P5,P6,P7,P8,P9,P10,P11,P12,P13,P14,L1,P15,N1,N2,N3,N4,N5,N6,N7,I1,I2,I3,I4,I5,I6,I7,reduceIte,reduceCtorEq]
 refine QIf.intro (fun c=>?_) (fun c=>?_)
 ·have hk':k<st.length:=by omega
  have k0:(0:Int)≤k:=by omega
  have hw:=q12 (k:=k) (by show _<1000000000000;omega)
  simp only[PP,P1,P2,P3,P4,P5,P6,P7,P8,P9,P10,P11,P12,P13,P14,L1,P15,N1,N2,N3,N4,N5,N6,N7,I1,I2,I3,I4,I5,I6,I7,reduceIte,reduceCtorEq,c]
  refine follow_p T B h14 (by show _<1000000000000;omega) ?_
  have hb:k*3+3≤X.length:=by omega
  simp only[PP,P1,P2,P3,P4,P5,P6,P7,P8,P9,P10,P11,P12,P13,P14,L1,P15,N1,N2,N3,N4,N5,N6,N7,I1,I2,I3,I4,I5,I6,I7,reduceIte,reduceCtorEq,c,k0,hw,hb]
  refine q19 (ih (k+1) (ver+1) (by omega) (by omega)) (by simp only[PW]) ?_
  rw[tabA_succ,←celV_put _ (by rw[q27];exact hk'),q27,←hX]
  simp
 ·have hkn:k=st.length:=by omega
  have hz:st.length*3≤X.length:=by omega
  have hps:psub X 0 (st.length*3)=X:=q49 _ _ (by omega)
  have hu:q14 0 X=true:=by rw[hX,hkn,celV_full (q27 _ _)];exact vlsL_und 0 _
  simp only[PP,P1,P2,P3,P4,P5,P6,P7,P8,P9,P10,P11,P12,P13,P14,L1,P15,N1,N2,N3,N4,N5,N6,N7,I1,I2,I3,I4,I5,I6,I7,reduceIte,reduceCtorEq,c,hz,hps,hu]
  rw[hX,hkn,celV_full (q27 _ _)]
  exact hk
end
abbrev vz:Vl:=⟨0,[],0⟩
def atV (l:List Vl) (v:Int):Vl:=l.getD v.toNat vz
def bestM (s:Int) (pr:List Int) (l:List Vl):Int→List Int→Int
 | b,[]=>b
 | b,u::row=>bestM s pr l (if 0<s*ordI pr (atV l u) (atV l b) then u else b) row
def impA (s:Int) (ow pr:List Int) (su:List (List Int)) (l:List Vl) (player:Int) (st:List Int) (v:Nat):Int:=
 if ow.getD v 0=player then bestM s pr l (st.getD v 0) (su.getD v []) else st.getD v 0
def impM (s:Int) (ow pr:List Int) (su:List (List Int)) (l:List Vl) (player:Int) (st:List Int):List Int:=tabA st.length (impA s ow pr su l player st)
def chgM (s:Int) (ow pr:List Int) (su:List (List Int)) (l:List Vl) (player:Int) (st:List Int):Bool:=decide (impM s ow pr su l player st≠st)
def BtC (tab:FuncId→Option AF) (f:PV) (s:Int) (pr:List Int):Prop:=
 ∃(g:FuncId) (cap:List PV),f= .func (.func g) [] cap∧q14 0 cap=true∧∀(a b:Vl) (M:Mem) (K:PV→Mem→Prop),InV pr.length a→InV pr.length b→K (p64 (s*ordI pr a b)) M→SemC tab g ([.agg (vlL false true a),.agg (vlL false true b)]++cap) M K
section
variable {tab:FuncId→Option AF} (T:HasA tab)
include T
theorem bt_zero {F:GF} {ow pr:List Int} {su:List (List Int)} (hp:∀v,0≤prI pr v):BtC tab (ordV (gmF F ow pr su)) 1 pr:=
 ⟨_,_,rfl,by simp only[PP,P1,P2,P3,P4,P5,P6,P7,P8,P9,P10,P11,P12,P13,P14,L1,P15,N1,N2,N3,N4,N5,N6,N7,I1,I2,I3,I4,I5,I6,I7,reduceIte,reduceCtorEq,PV.under],fun a b M K ia ib hk=>ord4_p T hp ia ib (by rw[Int.one_mul]at hk;exact hk)⟩
theorem bt_one {F:GF} {ow pr:List Int} {su:List (List Int)} (hp:∀v,0≤prI pr v):BtC tab (.func (.func 52) [] [.cp [ordV (gmF F ow pr su)] 0]) (-1) pr:=by
 refine⟨_,_,rfl,by simp only[PP,P1,P2,P3,P4,P5,P6,P7,P8,P9,P10,P11,P12,P13,P14,L1,P15,N1,N2,N3,N4,N5,N6,N7,I1,I2,I3,I4,I5,I6,I7,reduceIte,reduceCtorEq,PV.under],fun a b M K ia ib hk=>?_⟩
 refine q11 T.h52 (by simp only[PP,P1,P2,P3,P4,P5,P6,P7,P8,P9,P10,P11,P12,P13,P14,L1,P15,N1,N2,N3,N4,N5,N6,N7,I1,I2,I3,I4,I5,I6,I7,reduceIte,reduceCtorEq,PV.under]) ?_
 simp only[af52,PP,P1,P2,P3,P4,P5,P6,P7,P8,P9,P10,P11,P12,P13,P14,L1,P15,N1,N2,N3,N4,N5,N6,N7,I1,I2,I3,I4,I5,I6,I7,reduceIte,reduceCtorEq]
 refine ord4_p T hp ib ia ?_
 simp only[PP,P1,P2,P3,P4,P5,P6,P7,P8,P9,P10,P11,P12,P13,P14,L1,P15,N1,N2,N3,N4,N5,N6,N7,I1,I2,I3,I4,I5,I6,I7,reduceIte,reduceCtorEq]
 have e:ordI pr b a= -1*ordI pr a b:=by
  have:=(ord3_ord hp).anti ⟨a,fun v hv=>(ia.se v hv).1⟩ ⟨b,fun v hv=>(ib.se v hv).1⟩
  simp only at this
  rw[this];omega
 rw[e]
 exact hk
set_option maxHeartbeats 1000000 in
theorem improve_p {K:PV→Mem→Prop} {F:GF} {f5 o5:Bool} {ow pr st:List Int} {su:List (List Int)} {l:List Vl} {bt:PV} {s player:Int} {g ver n:Nat} (V:Valid ow pr su) (hn:st.length=n) (hl:l.length=n) (hno:n=ow.length) (hbt:BtC tab bt s pr)
  (hst:∀v,v<n→0≤st.getD v 0∧st.getD v 0<n) (hin:∀x∈l,InV pr.length x)
  (hk:∀ver',K (.bool (chgM s ow pr su l player st)) [.cells g ver' ((impM s ow pr su l player st).map p64)]):
  SemC tab 22 [.agg [p8 player,bt],.agg (gmF F ow pr su),.ref 0 g 1 0 n,.sl f5 o5 3 n (vlsL l)] [.cells g ver (st.map p64)] K:=by
 have hs:=V.s
 have hpl:=V.p
 have n1:=V.n1
 obtain⟨gb,cap,rfl,hcap,hsem⟩:=hbt
 refine SemC_res (q34 T.h22 ?_)
 simp only[af22,PP,P1,P2,P3,P4,P5,P6,P7,P8,P9,P10,P11,P12,P13,P14,L1,P15,N1,N2,N3,N4,N5,N6,N7,I1,I2,I3,I4,I5,I6,I7,reduceIte,reduceCtorEq]
 refine loop2 (fun(k ver:Nat)=>k≤n) (fun k ver=>[Zj,Zj,.ref 0 g 1 0 n,.sl f5 o5 3 n (vlsL l),.ptr 1 0 0,.ptr 2 0 0,Zj,Zj,.bool (decide (∃v,v<k∧impA s ow pr su l player st v≠st.getD v 0)),Zj,Zj,Zj,Zj,Zj,Zj,slR F.f3 F.o3 F.f4 F.o4 .i64 su,p64 su.length,p64 k,Zj,Zj,Zj,Zj,Zj,Zj,Zj,Zj,Zj,Zj,Zj,Zj,Zj,Zj,Zj,Zj,Zj,Zj,Zj,Zj,Zj,Zj,Zj,Zj,Zj,Zj,Zj,Zj,Zj,Zj,Zj,Zj,Zj,Zj,Zj,Zj,Zj,Zj,Zj,Zj,Zj,Zj,Zj,Zj,Zj,Zj,Zj,Zj,Zj,Zj,Zj])
  (fun k ver=>[.cells g ver ((tabA n fun v=>if v<k then impA s ow pr su l player st v else st.getD v 0).map p64),.cells 0 0 [p8 player,.func (.func gb) [] cap],.cells 0 0 (gmF F ow pr su)]) (fun k _=>n-k) 0 ver (Nat.zero_le _) (by
   have e:¬∃v,v<0∧impA s ow pr su l player st v≠st.getD v 0:=fun⟨v,h,_⟩=>by omega
   simp only[PW,e,decide_false]) (by
   congr 2
   congr 1
   refine tabA_ext hn fun v hv=>?_
   rw[if_neg (by omega)]
   obtain⟨x,hx⟩:=q9 (xs:=st) (k:=v) (by omega)
   rw[getD_some hx,hx]) ?_
 intro k ver hle ih
 obtain⟨X,hX⟩:∃X,X=tabA n fun v=>if v<k then impA s ow pr su l player st v else st.getD v 0:=⟨_,rfl⟩
 have hXl:X.length=n:=by rw[hX,q27]
 obtain⟨ch,hch⟩:∃ch,ch=decide (∃v,v<k∧impA s ow pr su l player st v≠st.getD v 0):=⟨_,rfl⟩
 rw[←hX,←hch]
 refine q15 (by kernel_rfl) ?_
 simp only[PP,P1,P2,P3,P4,P5,P6,P7,P8,P9,P10,P11,P12,P13,P14,L1,P15,N1,N2,N3,N4,N5,N6,N7,I1,I2,I3,I4,I5,I6,I7,reduceIte,reduceCtorEq]
 refine QIf.intro (fun c=>?_) (fun c=>?_)
 rotate_left
 ·have hkn:k=n:=by omega
  have hXi:X=impM s ow pr su l player st:=by
   rw[hX];unfold impM
   rw[hn]
   exact tabA_congr fun v hv=>if_pos (by omega)
  have hce:ch=chgM s ow pr su l player st:=by
   rw[hch];unfold chgM
   congr 1
   apply propext
   constructor
   ·rintro⟨v,hv,hne⟩ e
    have h1:(impM s ow pr su l player st)[v]? =some (impA s ow pr su l player st v):=q38 (by omega)
    rw[e]at h1
    exact hne (getD_some h1).symm
   ·intro hne
    refine Classical.byContradiction fun hno=>hne ?_
    refine(tabA_ext rfl fun v hv=>?_).symm
    obtain⟨x,hx⟩:=q9 (xs:=st) (k:=v) hv
    rw[hx]
    congr 1
    refine Classical.byContradiction fun q=>hno ⟨v,by omega,fun e=>q ?_⟩
    rw[e,getD_some hx]
  simp only[PP,P1,P2,P3,P4,P5,P6,P7,P8,P9,P10,P11,P12,P13,P14,L1,P15,N1,N2,N3,N4,N5,N6,N7,I1,I2,I3,I4,I5,I6,I7,reduceIte,reduceCtorEq,c]
  refine⟨.bool ch,[.cells g ver (X.map p64)],by simp[pfrz,pfrz2,q42,PV.under],?_,?_⟩
  ·exact pfrzM_cons (pfrzO_ok (by simp only[cutOk,q16])) rfl
  ·rw[hXi,hce];exact hk ver
 have hk':k<n:=by omega
 have k0:(0:Int)≤k:=by omega
 have hw:=q12 (k:=k) (by show _<1000000000000;omega)
 obtain⟨row,gr⟩:=q9 (xs:=su) (k:=k) (by omega)
 obtain⟨o,go⟩:=q9 (xs:=ow) (k:=k) (by omega)
 have er:su.getD k []=row:=by simp[List.getD,gr]
 have eo:ow.getD k 0=o:=getD_some go
 have ko:(k:Int)<ow.length:=by omega
 obtain⟨x0,gx0⟩:=q9 (xs:=st) (k:=k) (by omega)
 have ex0:st.getD k 0=x0:=getD_some gx0
 have gX:X[k]? =some x0:=by rw[hX,q38 hk',if_neg (by omega),ex0]
 have hup:∀y,impA s ow pr su l player st k=y→X.set k y=tabA n fun v=>if v<k+1 then impA s ow pr su l player st v else st.getD v 0:=fun y hy=>by
  rw[hX,tabA_set y hk']
  refine tabA_congr fun v hv=>?_
  by_cases e:v=k
  ·subst e;rw[if_pos rfl,if_pos (by omega),hy]
  ·rw[if_neg e]
   by_cases q:v<k
   ·rw[if_pos q,if_pos (by omega)]
   ·rw[if_neg q,if_neg (by omega)]
 have hcu:∀y,impA s ow pr su l player st k=y→decide (∃v,v<k+1∧impA s ow pr su l player st v≠st.getD v 0)=(if ch=true then true else decide (y≠x0)):=fun y hy=>by
  rw[hch]
  by_cases e:∃v,v<k∧impA s ow pr su l player st v≠st.getD v 0
  ·obtain⟨v,h1,h2⟩:=e
   rw[decide_eq_true (p:=∃v,v<k∧impA s ow pr su l player st v≠st.getD v 0) ⟨v,h1,h2⟩,if_pos rfl]
   exact decide_eq_true ⟨v,by omega,h2⟩
  ·rw[decide_eq_false e,if_neg (by simp)]
   congr 1
   apply propext
   constructor
   ·rintro⟨v,h1,h2⟩
    by_cases q:v=k
    ·subst q;rw[hy,ex0]at h2;exact h2
    ·exact absurd ⟨v,by omega,h2⟩ e
   ·intro q;exact⟨k,by omega,by rw[hy,ex0];exact q⟩
 simp only[PP,P1,P2,P3,P4,P5,P6,P7,P8,P9,P10,P11,P12,P13,P14,L1,P15,N1,N2,N3,N4,N5,N6,N7,I1,I2,I3,I4,I5,I6,I7,reduceIte,reduceCtorEq,c,gr,go,k0,ko]
 refine QIf.intro (fun d=>?_) (fun d=>?_)
 rotate_left
 ·--the other player's position
  have hi:impA s ow pr su l player st k=x0:=by unfold impA;rw[eo,if_neg d,ex0]
  have h1:=hup x0 hi
  have h2:=hcu x0 hi
  simp only[PP,P1,P2,P3,P4,P5,P6,P7,P8,P9,P10,P11,P12,P13,P14,L1,P15,N1,N2,N3,N4,N5,N6,N7,I1,I2,I3,I4,I5,I6,I7,reduceIte,reduceCtorEq,d,hw]
  refine q19 (ih (k+1) ver (by omega) (by omega)) ?_ ?_
  ·rw[h2]
   cases ch<;>simp only[PW,ne_eq,not_true_eq_false,decide_false,Bool.false_eq_true,if_false,if_true]
  ·rw[←h1]
   have:X.set k x0=X:=by
    refine List.ext_getElem? fun i=>?_
    by_cases e:k=i
    ·subst e;rw[List.getElem?_set_self (by omega),gX]
    ·rw[List.getElem?_set_ne e]
   rw[this]
 have hi:impA s ow pr su l player st k=bestM s pr l x0 row:=by unfold impA;rw[eo,if_pos d,ex0,er]
 have hx0:=hst k hk'
 rw[ex0]at hx0
 simp only[PP,P1,P2,P3,P4,P5,P6,P7,P8,P9,P10,P11,P12,P13,P14,L1,P15,N1,N2,N3,N4,N5,N6,N7,I1,I2,I3,I4,I5,I6,I7,reduceIte,reduceCtorEq,d,gX,k0,c]
 have hrow:∀u∈row,0≤u∧u<ow.length:=fun u hu=>q43 V (v:=k) (by omega) (by rw[er];exact hu)
 refine⟨by omega,?_⟩
 refine loop2 (fun(j:Nat) (b:Int)=>j≤row.length∧(0≤b∧b<n)∧bestM s pr l b (row.drop j)=bestM s pr l x0 row) (fun j b=>[Zj,Zj,.ref 0 g 1 0 n,.sl f5 o5 3 n (vlsL l),.ptr 1 0 0,.ptr 2 0 0,Zj,Zj,.bool ch,p64 k,Zj,p64 b,Zj,Zj,Zj,slR F.f3 F.o3 F.f4 F.o4 .i64 su,p64 su.length,p64 k,Zj,Zj,Zj,Zj,Zj,Zj,Zj,Zj,Zj,Zj,Zj,Zj,Zj,Zj,Zj,Zj,slI F.f4 F.o4 .i64 row,p64 row.length,p64 j,Zj,Zj,Zj,Zj,Zj,Zj,Zj,Zj,Zj,Zj,Zj,Zj,Zj,Zj,Zj,Zj,Zj,Zj,Zj,Zj,Zj,Zj,Zj,Zj,Zj,Zj,Zj,Zj,Zj,Zj,Zj,Zj])
  (fun _ _=>[.cells g ver (X.map p64),.cells 0 0 [p8 player,.func (.func gb) [] cap],.cells 0 0 (gmF F ow pr su)]) (fun j _=>row.length-j) 0 x0 ⟨Nat.zero_le _,hx0,rfl⟩ (by simp only[PW]) rfl ?_
 intro j b ⟨hj,hb,hbe⟩ ih2
 refine q15 (by kernel_rfl) ?_
 simp only[PP,P1,P2,P3,P4,P5,P6,P7,P8,P9,P10,P11,P12,P13,P14,L1,P15,N1,N2,N3,N4,N5,N6,N7,I1,I2,I3,I4,I5,I6,I7,reduceIte,reduceCtorEq]
 have hrl:row.length≤4096:=by
  obtain⟨_,_,_,_,hp⟩:=V.row k (by omega)
  have hp:=posM_rise hp
  have hk2:k<su.length:=by omega
  have e:su[k]=row:=by rw[List.getElem?_eq_getElem hk2]at gr;cases gr;rfl
  rw[e]at hp
  have hnd:(row.map Int.toNat).Nodup:=by
   rw[List.Nodup,List.pairwise_map]
   refine hp.1.imp_of_mem fun {a b} ha hb (q:a<b)=>?_
   have:=hp.2 a ha;have:=hp.2 b hb;omega
  have:=nodup_lenN ow.length _ hnd (fun x hx=>by
   obtain⟨y,hy,rfl⟩:=List.mem_map.1 hx
   have:=hp.2 y hy;omega)
  rw[List.length_map]at this;omega
 refine QIf.intro (fun e=>?_) (fun e=>?_)
 ·have hj':j<row.length:=by omega
  obtain⟨u,gu⟩:=q9 hj'
  obtain⟨u0,u1⟩:=hrow u (List.mem_of_getElem? gu)
  have j0:(0:Int)≤j:=by omega
  have hwj:=q12 (k:=j) (by show _<1000000000000;omega)
  obtain⟨lu,glu⟩:=q9 (xs:=l) (k:=u.toNat) (by omega)
  obtain⟨lb,glb⟩:=q9 (xs:=l) (k:=b.toNat) (by omega)
  have elu:atV l u=lu:=by simp[atV,List.getD,glu]
  have elb:atV l b=lb:=by simp[atV,List.getD,glb]
  have pu:=psub_vls glu
  have pb:=psub_vls glb
  have un:u<n:=by omega
  have b1:u.toNat*3+3≤(vlsL l).length:=by rw[vlsL_len];omega
  have b2:b.toNat*3+3≤(vlsL l).length:=by rw[vlsL_len];omega
  have b0:=hb.1
  have bn:=hb.2
  rw[drop_some gu,bestM,elu,elb]at hbe
  simp only[PP,P1,P2,P3,P4,P5,P6,P7,P8,P9,P10,P11,P12,P13,P14,L1,P15,N1,N2,N3,N4,N5,N6,N7,I1,I2,I3,I4,I5,I6,I7,reduceIte,reduceCtorEq,e,gu,j0,u0,un,b0,bn,pu,pb,b1,b2]
  refine hsem lu lb _ _ (hin lu (List.mem_of_getElem? glu)) (hin lb (List.mem_of_getElem? glb)) ?_
  simp only[PP,P1,P2,P3,P4,P5,P6,P7,P8,P9,P10,P11,P12,P13,P14,L1,P15,N1,N2,N3,N4,N5,N6,N7,I1,I2,I3,I4,I5,I6,I7,reduceIte,reduceCtorEq]
  refine QIf.intro (fun q=>?_) (fun q=>?_)
  ·rw[if_pos q]at hbe
   simp only[PP,P1,P2,P3,P4,P5,P6,P7,P8,P9,P10,P11,P12,P13,P14,L1,P15,N1,N2,N3,N4,N5,N6,N7,I1,I2,I3,I4,I5,I6,I7,reduceIte,reduceCtorEq,q,hwj]
   exact q8 (ih2 (j+1) u ⟨by omega,⟨u0,un⟩,hbe⟩ (by omega)) (by simp only[PW])
  ·rw[if_neg q]at hbe
   simp only[PP,P1,P2,P3,P4,P5,P6,P7,P8,P9,P10,P11,P12,P13,P14,L1,P15,N1,N2,N3,N4,N5,N6,N7,I1,I2,I3,I4,I5,I6,I7,reduceIte,reduceCtorEq,q,hwj]
   exact q8 (ih2 (j+1) b ⟨by omega,hb,hbe⟩ (by omega)) (by simp only[PW])
 ·rw[List.drop_eq_nil_of_le (by omega),bestM]at hbe
  rw[←hbe]at hi
  have h1:=hup b hi
  have h2:=hcu b hi
  have kn:(k:Int)<n:=by omega
  have hkX:k<X.length:=by omega
  have hset:(X.map p64).set k (p64 b)=(X.set k b).map p64:=by rw[List.map_set]
  cases hcc:ch with
  | true=>
   rw[hcc,if_pos rfl]at h2
   simp only[PP,P1,P2,P3,P4,P5,P6,P7,P8,P9,P10,P11,P12,P13,P14,L1,P15,N1,N2,N3,N4,N5,N6,N7,I1,I2,I3,I4,I5,I6,I7,reduceIte,reduceCtorEq,e,k0,kn,hw,gX,hkX,hset]
   refine⟨by omega,q19 (ih (k+1) (ver+1) (by omega) (by omega)) ?_ (by rw[h1])⟩
   rw[h2]
   simp only[PW]
  | false=>
   rw[hcc,if_neg (by simp)]at h2
   simp only[PP,P1,P2,P3,P4,P5,P6,P7,P8,P9,P10,P11,P12,P13,P14,L1,P15,N1,N2,N3,N4,N5,N6,N7,I1,I2,I3,I4,I5,I6,I7,reduceIte,reduceCtorEq,e,k0,kn,hw,gX,hkX,hset]
   refine⟨by omega,q19 (ih (k+1) (ver+1) (by omega) (by omega)) ?_ (by rw[h1])⟩
   rw[h2]
   simp only[PW,ne_eq]
end
structure MvOk (su:List (List Int)) (n:Nat) (st:List Int):Prop where
 l:st.length=n
 m:∀v,v<n→st.getD v 0∈su.getD v []
def fnM (st:List Int) (v:Nat):Nat:=(st.getD v 0).toNat
section
variable {ow pr:List Int} {su:List (List Int)} (V:Valid ow pr su)
include V
theorem MvOk.rng {st:List Int} (h:MvOk su ow.length st) {v:Nat} (hv:v<ow.length):0≤st.getD v 0∧st.getD v 0<ow.length:=q43 V hv (h.m v hv)
theorem MvOk.fn {st:List Int} (h:MvOk su ow.length st):∀v,v<ow.length→fnM st v<ow.length:=fun v hv=>by have:=h.rng V hv;unfold fnM;omega
theorem MvOk.mov {st:List Int} (h:MvOk su ow.length st):movM su 0 st=true:=by
 have _:=V
 have key:∀(l:List Int) (k:Nat),(∀(i:Nat) (u:Int),l[i]? =some u→u∈su.getD (k+i) [])→movM su k l=true:=by
  intro l
  induction l with
  | nil=>intro k _;rfl
  | cons x l ih=>
   intro k hx
   rw[movM,if_pos (by simpa using hx 0 x rfl)]
   exact ih (k+1) fun i u hu=>by rw[show k+1+i=k+(i+1) by omega];exact hx (i+1) u (by simpa using hu)
 refine key st 0 fun i u hu=>?_
 have hi:=q10 hu
 have:=h.m i (by rw[←h.l];exact hi)
 rw[getD_some hu]at this
 rwa [Nat.zero_add]
theorem MvOk.play {st:List Int} (h:MvOk su ow.length st) (hc:q37 ow pr su=0) {v:Nat} (hv:v<ow.length):playE ow pr su st v=0:=by
 unfold playE
 rw[if_pos hc,if_neg (by omega),if_neg (by omega),if_pos (by rw[h.l]),if_pos (h.mov V)]
theorem MvOk.val {st:List Int} (h:MvOk su ow.length st) (hc:q37 ow pr su=0) {v:Nat} (hv:v<ow.length):IsVal (fnM st) pr ow.length v (folA ow pr su st v):=by
 unfold folA
 rw[if_pos (h.play V hc hv)]
 obtain⟨m,k,hP⟩:=play_spec (st:=st) (f:=fnM st) (n:=ow.length) (v:=v) (fun v hv=>by
  obtain⟨x,hx⟩:=q9 (xs:=st) (k:=v) (by rw[h.l];exact hv)
  have:=h.rng V hv
  unfold fnM
  rw[getD_some hx]at this ⊢
  rw[hx];congr 1;omega) (h.fn V) hv
 exact folV_val hP (h.fn V) hv
end
theorem valsM_at {ow pr st:List Int} {su:List (List Int)} {v:Nat} (hv:v<st.length):atV (q26 ow pr su st) v=folA ow pr su st v:=by
 have:=q38 (f:=fun v:Nat=>folA ow pr su st v) hv
 unfold atV
 rw[Int.toNat_natCast]
 show(tabA st.length fun v:Nat=>folA ow pr su st v).getD v vz=_
 rw[List.getD,this];rfl
theorem VOk.inV {n:Nat} {x:Vl} (h:VOk n x) (hn:n≤4096):InV n x:=by
 refine⟨h.c0,h.cn,h.se,?_⟩
 have hnd:(x.se.map Int.toNat).Nodup:=by
  have key:∀(l:List Int) (k:Int),Rise k l→-1≤k→(l.map Int.toNat).Nodup∧∀y∈l.map Int.toNat,k<y:=by
   intro l
   induction l with
   | nil=>intro k _ _;exact⟨List.nodup_nil,fun y hy=>by cases hy⟩
   | cons a l ih=>
    intro k h hk
    obtain⟨h1,h2⟩:=h
    obtain⟨i1,i2⟩:=ih a h2 (by omega)
    refine⟨List.nodup_cons.2 ⟨fun q=>?_,i1⟩,fun y hy=>?_⟩
    ·have:=i2 _ q;omega
    ·rcases List.mem_cons.1 hy with rfl | hy
     ·omega
     ·have:=i2 y hy;omega
  exact(key x.se (-1) h.rise (by omega)).1
 have:=nodup_lenN n _ hnd (fun y hy=>by
  obtain⟨z,hz,rfl⟩:=List.mem_map.1 hy
  have:=h.se z hz;omega)
 rw[List.length_map]at this
 show _<1000000000000
 omega
section
variable {s:Int} (hs:s=1∨s= -1) {pr:List Int} (hp:∀v,0≤prI pr v)
include hs hp
theorem bestM_spec (l:List Vl) (hl:∀v,Nn (atV l v).se):∀(row:List Int) (b:Int),(bestM s pr l b row=b∨bestM s pr l b row∈row)∧0≤s*ordI pr (atV l (bestM s pr l b row)) (atV l b)∧∀u∈row,0≤s*ordI pr (atV l (bestM s pr l b row)) (atV l u)
 | [],b=>⟨.inl rfl,by
   have:=(ord3_ord hp).self ⟨atV l b,hl b⟩
   simp only at this
   rw[bestM,this,Int.mul_zero];exact Int.le_refl _,fun u hu=>by cases hu⟩
 | u::row,b=>by
  rw[bestM]
  obtain⟨h1,h2,h3⟩:=bestM_spec l hl row (if 0<s*ordI pr (atV l u) (atV l b) then u else b)
  obtain⟨c,hc⟩:∃c,c=bestM s pr l (if 0<s*ordI pr (atV l u) (atV l b) then u else b) row:=⟨_,rfl⟩
  rw[←hc]at h1 h2 h3 ⊢
  have O:=ord3_ord hp
  have tr:∀x y z:Int,0≤s*ordI pr (atV l x) (atV l y)→0≤s*ordI pr (atV l y) (atV l z)→0≤s*ordI pr (atV l x) (atV l z):=fun x y z q1 q2=>by
   have t1:=O.tr ⟨atV l x,hl x⟩ ⟨atV l y,hl y⟩ ⟨atV l z,hl z⟩
   have t2:=O.tr ⟨atV l z,hl z⟩ ⟨atV l y,hl y⟩ ⟨atV l x,hl x⟩
   have a1:=O.anti ⟨atV l x,hl x⟩ ⟨atV l y,hl y⟩
   have a2:=O.anti ⟨atV l y,hl y⟩ ⟨atV l z,hl z⟩
   have a3:=O.anti ⟨atV l x,hl x⟩ ⟨atV l z,hl z⟩
   simp only at t1 t2 a1 a2 a3
   rcases hs with rfl | rfl<;>omega
  have se:∀x:Int,ordI pr (atV l x) (atV l x)=0:=fun x=>O.self ⟨atV l x,hl x⟩
  have an:=O.anti ⟨atV l u,hl u⟩ ⟨atV l b,hl b⟩
  simp only at an
  by_cases e:0<s*ordI pr (atV l u) (atV l b)
  ·rw[if_pos e]at h1 h2
   refine⟨.inr ?_,tr _ _ _ h2 (by omega),fun x hx=>?_⟩
   ·rcases h1 with h1 | h1
    ·rw[h1];simp
    ·exact List.mem_cons_of_mem _ h1
   ·rcases List.mem_cons.1 hx with rfl | hx
    ·exact h2
    ·exact h3 x hx
  ·rw[if_neg e]at h1 h2
   refine⟨?_,h2,fun x hx=>?_⟩
   ·rcases h1 with h1 | h1
    ·exact .inl h1
    ·exact .inr (List.mem_cons_of_mem _ h1)
   ·rcases List.mem_cons.1 hx with rfl | hx
    ·exact tr _ _ _ h2 (by rcases hs with rfl | rfl<;>omega)
    ·exact h3 x hx
theorem bestM_stay (l:List Vl):∀(row:List Int) (b:Int),(∀u∈row,¬0<s*ordI pr (atV l u) (atV l b))→bestM s pr l b row=b
 | [],b,_=>rfl
 | u::row,b,h=>by
  have _:=hs;have _:=hp
  rw[bestM,if_neg (h u (by simp))]
  exact bestM_stay l row b fun x hx=>h x (List.mem_cons_of_mem _ hx)
end
def allMv:List (List Int)→List (List Int)
 | []=>[[]]
 | row::su=>row.flatMap fun u=>(allMv su).map (u:: ·)
theorem allMv_mem:∀(su:List (List Int)) (st:List Int),st∈allMv su↔st.length=su.length∧∀v,v<su.length→st.getD v 0∈su.getD v []
 | [],st=>by simp[allMv]
 | row::su,st=>by
  unfold allMv
  simp only[List.mem_flatMap,List.mem_map]
  constructor
  ·rintro⟨u,hu,t,ht,rfl⟩
   obtain⟨h1,h2⟩:=(allMv_mem su t).1 ht
   refine⟨by simp[h1],fun v hv=>?_⟩
   cases v with
   | zero=>simpa using hu
   | succ v=>simpa using h2 v (by simpa using hv)
  ·rintro⟨h1,h2⟩
   cases st with
   | nil=>simp at h1
   | cons u t=>
    refine⟨u,by simpa using h2 0 (by simp),t,(allMv_mem su t).2 ⟨by simpa using h1,fun v hv=>?_⟩,rfl⟩
    simpa using h2 (v+1) (by simpa using hv)
theorem filter_ltQ {α:Type} {p q:α→Bool} :∀{l:List α},(∀x∈l,p x=true→q x=true)→(∃x∈l,q x=true∧p x=false)→(l.filter p).length<(l.filter q).length
 | [],_,⟨x,hx,_⟩=>by cases hx
 | y::l,h,⟨x,hx,h1,h2⟩=>by
  have mono:∀l:List α,(∀x∈l,p x=true→q x=true)→(l.filter p).length≤(l.filter q).length:=by
   intro l
   induction l with
   | nil=>intro _;exact Nat.le_refl _
   | cons z l ih=>
    intro h
    have:=ih fun x hx=>h x (List.mem_cons_of_mem _ hx)
    have hz:=h z (by simp)
    cases hp:p z<;>cases hq:q z<;>simp[List.filter_cons,hp,hq]<;>first | omega | (rw[hq]at hz;exact absurd (hz hp) (by simp))
  have hm:=mono l fun x hx=>h x (List.mem_cons_of_mem _ hx)
  have hy:=h y (by simp)
  rcases List.mem_cons.1 hx with rfl | hx
  ·simp only[List.filter_cons,h1,h2,if_true,Bool.false_eq_true,if_false,List.length_cons];omega
  ·have ih:=filter_ltQ (l:=l) (fun x hx=>h x (List.mem_cons_of_mem _ hx)) ⟨x,hx,h1,h2⟩
   cases hp:p y<;>cases hq:q y<;>simp[List.filter_cons,hp,hq]<;>first | omega | (rw[hq]at hy;exact absurd (hy hp) (by simp))
theorem filter_leQ {α:Type} {p q:α→Bool} :∀{l:List α},(∀x∈l,p x=true→q x=true)→(l.filter p).length≤(l.filter q).length
 | [],_=>Nat.le_refl _
 | z::l,h=>by
  have:=filter_leQ (l:=l) fun x hx=>h x (List.mem_cons_of_mem _ hx)
  have hz:=h z (by simp)
  cases hp:p z<;>cases hq:q z<;>simp[List.filter_cons,hp,hq]<;>first | omega | (rw[hq]at hz;exact absurd (hz hp) (by simp))
def cntM (s:Int) (ow pr:List Int) (su:List (List Int)) (st:List Int):Nat:=
 (((allMv su).flatMap fun g=>(List.range ow.length).map fun v=>(g,v)).filter fun x=>decide (0<s*ordI pr (folA ow pr su x.1 x.2) (folA ow pr su st x.2))).length
def muM (s:Int) (ow pr:List Int) (su:List (List Int)) (player:Int) (st:List Int):Nat:=
 2*cntM s ow pr su st+(if chgM s ow pr su (q26 ow pr su st) player st=true then 1 else 0)
theorem impM_at {s:Int} {ow pr:List Int} {su:List (List Int)} {l:List Vl} {player:Int} {st:List Int} {v:Nat} (hv:v<st.length):(impM s ow pr su l player st).getD v 0=impA s ow pr su l player st v:=by
 unfold impM
 rw[List.getD,q38 hv];rfl
theorem impM_len {s:Int} {ow pr:List Int} {su:List (List Int)} {l:List Vl} {player:Int} {st:List Int} :(impM s ow pr su l player st).length=st.length:=q27 _ _
theorem chg_false {s:Int} {ow pr:List Int} {su:List (List Int)} {l:List Vl} {player:Int} {st:List Int} :chgM s ow pr su l player st=false↔∀v,v<st.length→ow.getD v 0=player→bestM s pr l (st.getD v 0) (su.getD v [])=st.getD v 0:=by
 unfold chgM
 rw[decide_eq_false_iff_not,Classical.not_not]
 constructor
 ·intro h v hv ho
  have:=impM_at (s:=s) (ow:=ow) (pr:=pr) (su:=su) (l:=l) (player:=player) hv
  rw[h]at this
  unfold impA at this
  rw[if_pos ho]at this
  exact this.symm
 ·intro h
  refine(tabA_ext rfl fun v hv=>?_).symm
  obtain⟨x,hx⟩:=q9 (xs:=st) (k:=v) hv
  rw[hx]
  congr 1
  unfold impA
  split
  ·rename_i ho;rw[h v hv ho,getD_some hx]
  ·rw[getD_some hx]
section
variable {ow pr:List Int} {su:List (List Int)} (hc:q37 ow pr su=0)
include hc
theorem q47 {st:List Int} (h:MvOk su ow.length st) {v:Nat} (hv:v<ow.length):VOk ow.length (folA ow pr su st v):=(h.val (q25 hc) hc hv).ok (h.fn (q25 hc)) hv
theorem vals_at {st:List Int} (h:MvOk su ow.length st) {v:Int} (v0:0≤v) (v1:v<ow.length):atV (q26 ow pr su st) v=folA ow pr su st v:=by
 have _:=hc
 obtain⟨k,rfl⟩:∃k:Nat,v=k:=⟨v.toNat,by omega⟩
 exact valsM_at (by rw[h.l];omega)
theorem vals_nn {st:List Int} (h:MvOk su ow.length st) (v:Int):Nn (atV (q26 ow pr su st) v).se:=by
 by_cases hv:v.toNat<ow.length
 ·have e:atV (q26 ow pr su st) v=folA ow pr su st (v.toNat:Nat):=by
   have:=valsM_at (ow:=ow) (pr:=pr) (su:=su) (st:=st) (v:=v.toNat) (by rw[h.l];exact hv)
   unfold atV at this ⊢
   rw[Int.toNat_natCast]at this
   exact this
  rw[e];exact(q47 hc h hv).nn
 ·unfold atV q26
  rw[List.getD,tabA_none (by rw[h.l];omega)]
  intro x hx;cases hx
theorem vals_in {st:List Int} (h:MvOk su ow.length st):∀x∈q26 ow pr su st,InV pr.length x:=fun x hx=>by
 have V:=q25 hc
 obtain⟨v,hv,rfl⟩:=tabA_mem hx
 rw[V.p]
 exact(q47 hc h (by rw[←h.l];exact hv)).inV V.n1
theorem key_fol {s:Int} (hs:s=1∨s= -1) {st st':List Int} (h:MvOk su ow.length st) (h':MvOk su ow.length st')
  (him:∀v,v<ow.length→0≤s*ordI pr (folA ow pr su st (st'.getD v 0)) (folA ow pr su st (st.getD v 0))) {v:Nat} (hv:v<ow.length):0≤s*ordI pr (folA ow pr su st' v) (folA ow pr su st v):=by
 have V:=q25 hc
 refine key hs (fun v=>(V.prI v).1) (f:=fnM st) (f':=fnM st') (a:=fun v=>folA ow pr su st v) (a':=fun v=>folA ow pr su st' v) (h.fn V) (h'.fn V) (fun v hv=>h.val V hc hv) (fun v hv=>h'.val V hc hv) (fun v hv=>?_) hv
 have h1:=h.rng V hv
 have h2:=h'.rng V hv
 have:=him v hv
 unfold fnM
 rw[show(((st.getD v 0).toNat:Nat):Int)=st.getD v 0 by omega,show(((st'.getD v 0).toNat:Nat):Int)=st'.getD v 0 by omega]
 exact this
theorem fol_eq {s:Int} (hs:s=1∨s= -1) {st st':List Int} (h:MvOk su ow.length st) (h':MvOk su ow.length st') {v:Nat} (hv:v<ow.length) (e:s*ordI pr (folA ow pr su st' v) (folA ow pr su st v)=0):folA ow pr su st' v=folA ow pr su st v:=by
 have V:=q25 hc
 refine(ordI_zero (fun v=>(V.prI v).1) (q47 hc h' hv).rise (q47 hc h hv).rise).1 ?_
 rcases hs with rfl | rfl<;>omega
theorem vals_eq {st st':List Int} (h:MvOk su ow.length st) (h':MvOk su ow.length st') (e:∀v:Nat,v<ow.length→folA ow pr su st' v=folA ow pr su st v):q26 ow pr su st'=q26 ow pr su st:=by
 have _:=hc
 unfold q26
 rw[h.l,h'.l]
 exact tabA_congr fun v hv=>e v hv
theorem mu_step {s:Int} (hs:s=1∨s= -1) {player:Int} {st st':List Int} (h:MvOk su ow.length st) (h':MvOk su ow.length st')
  (hge:∀v:Nat,v<ow.length→0≤s*ordI pr (folA ow pr su st' v) (folA ow pr su st v)) (hch:chgM s ow pr su (q26 ow pr su st) player st=true)
  (hst:(∀v:Nat,v<ow.length→folA ow pr su st' v=folA ow pr su st v)→chgM s ow pr su (q26 ow pr su st') player st'=false):muM s ow pr su player st'<muM s ow pr su player st:=by
 have V:=q25 hc
 have hp:=fun v=>(V.prI v).1
 have O:=ord3_ord hp
 unfold muM
 rw[hch,if_pos rfl]
 have nn:∀{g:List Int} {v:Nat},g∈allMv su→v<ow.length→Nn (folA ow pr su g v).se:=fun {g v} hg hv=>by
  obtain⟨h1,h2⟩:=(allMv_mem su g).1 hg
  exact(q47 hc ⟨by rw[h1,V.s],fun v hv=>h2 v (by rw[V.s];exact hv)⟩ hv).nn
 have tr:∀{g:List Int} {v:Nat},g∈allMv su→v<ow.length→0<s*ordI pr (folA ow pr su g v) (folA ow pr su st' v)→0<s*ordI pr (folA ow pr su g v) (folA ow pr su st v):=fun {g v} hg hv q=>by
  have q2:=hge v hv
  have t1:=O.tr ⟨_,nn hg hv⟩ ⟨_,(q47 hc h hv).nn⟩ ⟨_,(q47 hc h' hv).nn⟩
  have t2:=O.tr ⟨_,(q47 hc h' hv).nn⟩ ⟨_,(q47 hc h hv).nn⟩ ⟨_,nn hg hv⟩
  have a1:=O.anti ⟨_,nn hg hv⟩ ⟨_,(q47 hc h hv).nn⟩
  have a2:=O.anti ⟨_,(q47 hc h hv).nn⟩ ⟨_,(q47 hc h' hv).nn⟩
  have a3:=O.anti ⟨_,nn hg hv⟩ ⟨_,(q47 hc h' hv).nn⟩
  simp only at t1 t2 a1 a2 a3
  rcases hs with rfl | rfl<;>omega
 have hmem:∀{x:List Int×Nat},x∈((allMv su).flatMap fun g=>(List.range ow.length).map fun v=>(g,v))→x.1∈allMv su∧x.2<ow.length:=fun {x} hx=>by
  obtain⟨g,hg,hx⟩:=List.mem_flatMap.1 hx
  obtain⟨v,hv,rfl⟩:=List.mem_map.1 hx
  exact⟨hg,List.mem_range.1 hv⟩
 by_cases hall:∀v:Nat,v<ow.length→folA ow pr su st' v=folA ow pr su st v
 ·rw[hst hall,if_neg (by simp)]
  have:cntM s ow pr su st'≤cntM s ow pr su st:=by
   unfold cntM
   refine filter_leQ fun x hx q=>?_
   obtain⟨h1,h2⟩:=hmem hx
   rw[decide_eq_true_eq]at q ⊢
   exact tr h1 h2 q
  omega
 ·obtain⟨v,hv⟩:=Classical.not_forall.1 hall
  obtain⟨hv,hne⟩:=Classical.not_imp.1 hv
  have hpos:0<s*ordI pr (folA ow pr su st' v) (folA ow pr su st v):=by
   have:=hge v hv
   refine Classical.byContradiction fun q=>hne (fol_eq hc hs h h' hv (by omega))
  have:cntM s ow pr su st'<cntM s ow pr su st:=by
   unfold cntM
   refine filter_ltQ (fun x hx q=>?_) ⟨(st',v),?_,?_,?_⟩
   ·obtain⟨h1,h2⟩:=hmem hx
    rw[decide_eq_true_eq]at q ⊢
    exact tr h1 h2 q
   ·refine List.mem_flatMap.2 ⟨st',(allMv_mem su st').2 ⟨by rw[h'.l,V.s],fun v hv=>h'.m v (by rw[←V.s];exact hv)⟩,List.mem_map.2 ⟨v,List.mem_range.2 hv,rfl⟩⟩
   ·rw[decide_eq_true_eq];exact hpos
   ·rw[decide_eq_false_iff_not]
    have:=O.self ⟨_,(q47 hc h' hv).nn⟩
    simp only at this ⊢
    rw[this];omega
  split<;>omega
theorem stable_le {s:Int} (hs:s=1∨s= -1) {player:Int} {st:List Int} (h:MvOk su ow.length st) (hch:chgM s ow pr su (q26 ow pr su st) player st=false) {v:Nat} (hv:v<ow.length) (ho:ow.getD v 0=player) {u:Int} (hu:u∈su.getD v []):
  s*ordI pr (folA ow pr su st u) (folA ow pr su st (st.getD v 0))≤0:=by
 have V:=q25 hc
 have hp:=fun v=>(V.prI v).1
 obtain⟨_,_,h3⟩:=bestM_spec hs hp (q26 ow pr su st) (vals_nn hc h) (su.getD v []) (st.getD v 0)
 have e:=chg_false.1 hch v (by rw[h.l];exact hv) ho
 have h3:=h3 u hu
 have hr:=h.rng V hv
 have hu2:=q43 V hv hu
 rw[e,vals_at hc h hr.1 hr.2,vals_at hc h hu2.1 hu2.2]at h3
 obtain⟨u',rfl⟩:∃k:Nat,u=k:=⟨u.toNat,by omega⟩
 obtain⟨w',hw'⟩:∃k:Nat,st.getD v 0=k:=⟨(st.getD v 0).toNat,by omega⟩
 rw[hw']at h3 hr ⊢
 have an:=(ord3_ord hp).anti ⟨_,(q47 hc h (v:=u') (by omega)).nn⟩ ⟨_,(q47 hc h (v:=w') (by omega)).nn⟩
 simp only at an
 rcases hs with rfl | rfl<;>omega
theorem imp_ok {s:Int} (hs:s=1∨s= -1) {player:Int} {st:List Int} (h:MvOk su ow.length st):MvOk su ow.length (impM s ow pr su (q26 ow pr su st) player st)∧(∀v,v<ow.length→ow.getD v 0≠player→(impM s ow pr su (q26 ow pr su st) player st).getD v 0=st.getD v 0)∧
  (∀v,v<ow.length→ow.getD v 0=player→0≤s*ordI pr (folA ow pr su st ((impM s ow pr su (q26 ow pr su st) player st).getD v 0)) (folA ow pr su st (st.getD v 0))∧
   ∀u∈su.getD v [],0≤s*ordI pr (folA ow pr su st ((impM s ow pr su (q26 ow pr su st) player st).getD v 0)) (folA ow pr su st u)):=by
 have V:=q25 hc
 have hp:=fun v=>(V.prI v).1
 have at':∀v,v<ow.length→(impM s ow pr su (q26 ow pr su st) player st).getD v 0=impA s ow pr su (q26 ow pr su st) player st v:=fun v hv=>impM_at (by rw[h.l];exact hv)
 have hm:∀v,v<ow.length→(impM s ow pr su (q26 ow pr su st) player st).getD v 0∈su.getD v []:=fun v hv=>by
  rw[at' v hv]
  unfold impA
  split
  ·obtain⟨h1,_,_⟩:=bestM_spec hs hp (q26 ow pr su st) (vals_nn hc h) (su.getD v []) (st.getD v 0)
   rcases h1 with h1 | h1
   ·rw[h1];exact h.m v hv
   ·exact h1
  ·exact h.m v hv
 refine⟨⟨by rw[impM_len,h.l],hm⟩,fun v hv ho=>?_,fun v hv ho=>?_⟩
 ·rw[at' v hv];unfold impA;rw[if_neg ho]
 ·obtain⟨_,h2,h3⟩:=bestM_spec hs hp (q26 ow pr su st) (vals_nn hc h) (su.getD v []) (st.getD v 0)
  have hr:=h.rng V hv
  have hb:=q43 V hv (hm v hv)
  have e:(impM s ow pr su (q26 ow pr su st) player st).getD v 0=bestM s pr (q26 ow pr su st) (st.getD v 0) (su.getD v []):=by rw[at' v hv];unfold impA;rw[if_pos ho]
  rw[←e]at h2 h3
  rw[vals_at hc h hb.1 hb.2,vals_at hc h hr.1 hr.2]at h2
  refine⟨h2,fun u hu=>?_⟩
  have hu2:=q43 V hv hu
  have h3:=h3 u hu
  rw[vals_at hc h hb.1 hb.2,vals_at hc h hu2.1 hu2.2]at h3
  exact h3
theorem self_fol {st:List Int} (h:MvOk su ow.length st) {u:Int} (u0:0≤u) (u1:u<ow.length):ordI pr (folA ow pr su st u) (folA ow pr su st u)=0:=by
 have V:=q25 hc
 obtain⟨k,rfl⟩:∃k:Nat,u=k:=⟨u.toNat,by omega⟩
 exact(ord3_ord fun v=>(V.prI v).1).self ⟨_,(q47 hc h (v:=k) (by omega)).nn⟩
theorem resp_step {st:List Int} (h:MvOk su ow.length st) (hch:chgM (-1) ow pr su (q26 ow pr su st) 1 st=true):muM (-1) ow pr su 1 (impM (-1) ow pr su (q26 ow pr su st) 1 st)<muM (-1) ow pr su 1 st:=by
 have V:=q25 hc
 obtain⟨h',h1,h2⟩:=imp_ok hc (s:= -1) (.inr rfl) (player:=1) h
 refine mu_step hc (.inr rfl) h h' (fun v hv=>key_fol hc (.inr rfl) h h' (fun v hv=>?_) hv) hch fun e=>?_
 ·by_cases ho:ow.getD v 0=1
  ·exact(h2 v hv ho).1
  ·rw[h1 v hv ho]
   have hr:=h.rng V hv
   rw[self_fol hc h hr.1 hr.2];decide
 ·refine chg_false.2 fun v hv ho=>?_
  rw[h'.l]at hv
  rw[vals_eq hc h h' e]
  refine bestM_stay (.inr rfl) (fun v=>(V.prI v).1) _ _ _ fun u hu=>?_
  have hu2:=q43 V hv hu
  have hb:=h'.rng V hv
  rw[vals_at hc h hu2.1 hu2.2,vals_at hc h hb.1 hb.2]
  have:=(h2 v hv ho).2 u hu
  obtain⟨u',rfl⟩:∃k:Nat,u=k:=⟨u.toNat,by omega⟩
  obtain⟨w',hw'⟩:∃k:Nat,(impM (-1) ow pr su (q26 ow pr su st) 1 st).getD v 0=k:=⟨_,(Int.toNat_of_nonneg hb.1).symm⟩
  rw[hw']at this hb ⊢
  have an:=(ord3_ord fun v=>(V.prI v).1).anti ⟨_,(q47 hc h (v:=u') (by omega)).nn⟩ ⟨_,(q47 hc h (v:=w') (by omega)).nn⟩
  simp only at an
  omega
end
structure RespOk (ow pr:List Int) (su:List (List Int)) (st st':List Int):Prop where
 ok:MvOk su ow.length st'
 same:∀v,v<ow.length→ow.getD v 0≠1→st'.getD v 0=st.getD v 0
 best:chgM (-1) ow pr su (q26 ow pr su st') 1 st'=false
section
variable {ow pr:List Int} {su:List (List Int)} (hc:q37 ow pr su=0)
include hc
theorem RespOk.min {st st1 t:List Int} (R:RespOk ow pr su st st1) (ht:MvOk su ow.length t) (hs:∀v,v<ow.length→ow.getD v 0≠1→t.getD v 0=st.getD v 0) {v:Nat} (hv:v<ow.length):0≤ordI pr (folA ow pr su t v) (folA ow pr su st1 v):=by
 have V:=q25 hc
 have:=key_fol hc (s:=1) (.inl rfl) R.ok ht (fun v hv=>?_) hv
 ·rw[Int.one_mul]at this;exact this
 ·rw[Int.one_mul]
  by_cases ho:ow.getD v 0=1
  ·have:=stable_le hc (s:= -1) (.inr rfl) R.ok R.best hv ho (ht.m v hv)
   omega
  ·rw[hs v hv ho,←R.same v hv ho]
   have hr:=R.ok.rng V hv
   rw[self_fol hc R.ok hr.1 hr.2];exact Int.le_refl _
theorem RespOk.up {st0 st1 st3:List Int} (R:RespOk ow pr su st0 st1) (Q:RespOk ow pr su (impM 1 ow pr su (q26 ow pr su st1) 0 st1) st3) (h01:∀v,v<ow.length→ow.getD v 0=0∨ow.getD v 0=1) {v:Nat} (hv:v<ow.length):0≤ordI pr (folA ow pr su st3 v) (folA ow pr su st1 v):=by
 have V:=q25 hc
 obtain⟨h',h1,h2⟩:=imp_ok hc (s:=1) (.inl rfl) (player:=0) R.ok
 have:=key_fol hc (s:=1) (.inl rfl) R.ok Q.ok (fun v hv=>?_) hv
 ·rw[Int.one_mul]at this;exact this
 ·rw[Int.one_mul]
  rcases h01 v hv with ho | ho
  ·rw[Q.same v hv (by omega)]
   have:=(h2 v hv ho).1
   rw[Int.one_mul]at this;exact this
  ·have:=stable_le hc (s:= -1) (.inr rfl) R.ok R.best hv ho (Q.ok.m v hv)
   omega
theorem RespOk.stay {st0 st1 st3:List Int} (R:RespOk ow pr su st0 st1) (Q:RespOk ow pr su (impM 1 ow pr su (q26 ow pr su st1) 0 st1) st3) (e:∀v:Nat,v<ow.length→folA ow pr su st3 v=folA ow pr su st1 v):chgM 1 ow pr su (q26 ow pr su st3) 0 st3=false:=by
 have V:=q25 hc
 obtain⟨h',h1,h2⟩:=imp_ok hc (s:=1) (.inl rfl) (player:=0) R.ok
 refine chg_false.2 fun v hv ho=>?_
 rw[Q.ok.l]at hv
 rw[vals_eq hc R.ok Q.ok e]
 refine bestM_stay (.inl rfl) (fun v=>(V.prI v).1) _ _ _ fun u hu=>?_
 have hu2:=q43 V hv hu
 have hb:=Q.ok.rng V hv
 rw[vals_at hc R.ok hu2.1 hu2.2,vals_at hc R.ok hb.1 hb.2]
 have hsm:=Q.same v hv (by omega)
 have:=(h2 v hv ho).2 u hu
 rw[←hsm]at this
 obtain⟨u',rfl⟩:∃k:Nat,u=k:=⟨u.toNat,by omega⟩
 obtain⟨w',hw'⟩:∃k:Nat,st3.getD v 0=k:=⟨_,(Int.toNat_of_nonneg hb.1).symm⟩
 rw[hw']at this hb ⊢
 have an:=(ord3_ord fun v=>(V.prI v).1).anti ⟨_,(q47 hc R.ok (v:=u') (by omega)).nn⟩ ⟨_,(q47 hc R.ok (v:=w') (by omega)).nn⟩
 simp only at an
 omega
theorem RespOk.mu {st0 st1 st3:List Int} (R:RespOk ow pr su st0 st1) (Q:RespOk ow pr su (impM 1 ow pr su (q26 ow pr su st1) 0 st1) st3) (h01:∀v,v<ow.length→ow.getD v 0=0∨ow.getD v 0=1) (hch:chgM 1 ow pr su (q26 ow pr su st1) 0 st1=true):muM 1 ow pr su 0 st3<muM 1 ow pr su 0 st1:=
 mu_step hc (.inl rfl) R.ok Q.ok (fun v hv=>by rw[Int.one_mul];exact R.up hc Q h01 hv) hch fun e=>R.stay hc Q e
end
theorem simple_of {n:Nat} {c:Nat→Nat} {k:Nat} (hk:0<k) (hper:∀i,c (i+k)=c i) (i0:Nat):
  ∃(L:Nat) (d:Nat→Nat),0<L∧d 0=c i0∧d L=c i0∧(∀i,i<L→∃j,c j=d i∧c (j+1)=d (i+1))∧∀i j,i<L→j<L→d i=d j→i=j:=by
 obtain⟨L,⟨hL,d,h0,h1,h2⟩,hm⟩:=least_of (p:=fun L=>0<L∧∃d:Nat→Nat,d 0=c i0∧d L=c i0∧∀i,i<L→∃j,c j=d i∧c (j+1)=d (i+1))
  ⟨k,hk,fun i=>c (i0+i),rfl,hper i0,fun i _=>⟨i0+i,rfl,rfl⟩⟩
 refine⟨L,d,hL,h0,h1,h2,?_⟩
 have one:∀i j,i<j→j<L→d i≠d j:=fun i j hij hj e=>by
  obtain⟨d',hd'⟩:∃d':Nat→Nat,∀x,d' x=if x≤i then d x else d (x+(j-i)):=⟨_,fun _=>rfl⟩
  refine hm (L-(j-i)) (by omega) ⟨by omega,d',by rw[hd',if_pos (Nat.zero_le _)];exact h0,?_,fun x hx=>?_⟩
  ·rw[hd',if_neg (by omega),show L-(j-i)+(j-i)=L by omega];exact h1
  ·rw[hd',hd']
   by_cases q:x≤i
   ·by_cases q2:x+1≤i
    ·rw[if_pos q,if_pos q2];exact h2 x (by omega)
    ·have:x=i:=by omega
     subst this
     rw[if_pos q,if_neg q2,e,show x+1+(j-x)=j+1 by omega]
     exact h2 j hj
   ·rw[if_neg q,if_neg (by omega),show x+1+(j-i)=x+(j-i)+1 by omega]
    exact h2 (x+(j-i)) (by omega)
 intro i j hi hj e
 rcases Nat.lt_trichotomy i j with h | h | h
 ·exact absurd e (one i j h hj)
 ·exact h
 ·exact absurd e.symm (one j i h hi)
theorem max_walk {pr:List Int} (c:Nat→Nat):∀k,0<k→∃i,i<k∧∀j,j<k→relI pr (c j) (c i)≤0
 | 0,h=>absurd h (by omega)
 | 1,_=>⟨0,by omega,fun j hj=>by
  have:j=0:=by omega
  subst this;rw[(q21 pr).self];exact Int.le_refl _⟩
 | k+2,_=>by
  obtain⟨i,hi,h⟩:=max_walk (pr:=pr) c (k+1) (by omega)
  by_cases q:relI pr (c (k+1)) (c i)≤0
  ·refine⟨i,by omega,fun j hj=>?_⟩
   by_cases e:j=k+1
   ·subst e;exact q
   ·exact h j (by omega)
  ·refine⟨k+1,by omega,fun j hj=>?_⟩
   by_cases e:j=k+1
   ·subst e;rw[(q21 pr).self];exact Int.le_refl _
   ·refine(q21 pr).tr _ _ _ (h j (by omega)) ?_
    have:=(q21 pr).anti (c (k+1)) (c i)
    omega
theorem relI_priL {pr:List Int} {u w:Int} (h:relI pr u w≤0):prI pr u≤prI pr w:=by
 refine Int.not_lt.1 fun q=>?_
 have:=relI_pos.2 (.inl q)
 omega
section
variable {ow pr:List Int} {su:List (List Int)} (hc:q37 ow pr su=0)
include hc
theorem walk_par {s:Int} (hs:s=1∨s= -1) {st:List Int} (h:MvOk su ow.length st) {c:Nat→Nat} {k:Nat} (hk:0<k) (hper:∀i,c (i+k)=c i) (hn:∀i,c i<ow.length)
  (hS:∀i,((c (i+1):Nat):Int)∈su.getD (c i) []) (him:∀i,0≤s*ordI pr (folA ow pr su st (c (i+1))) (folA ow pr su st (st.getD (c i) 0)))
  (hgood:∀i,s*sgI pr (folA ow pr su st (c i)).cy=1):∃j,(∀i,prI pr (c i)≤prI pr (c j))∧s*sgI pr (c j)=1:=by
 have V:=q25 hc
 have hp:=fun v=>(V.prI v).1
 obtain⟨i0,hi0,hmx⟩:=max_walk (pr:=pr) c k hk
 have hmx':∀i,relI pr (c i) (c i0)≤0:=by
  have key:∀d i,i≤d→relI pr (c i) (c i0)≤0:=by
   intro d
   induction d with
   | zero=>intro i hi;exact hmx i (by omega)
   | succ d ih=>
    intro i hi
    by_cases q:i<k
    ·exact hmx i q
    ·rw[show i=(i-k)+k by omega,hper]
     exact ih (i-k) (by omega)
  exact fun i=>key i i (Nat.le_refl _)
 refine⟨i0,fun i=>relI_priL (hmx' i),?_⟩
 obtain⟨L,d,hL,d0,d1,d2,d3⟩:=simple_of (n:=ow.length) hk hper i0
 have dn:∀i,i<L→d i<ow.length:=fun i hi=>by
  obtain⟨j,h1,_⟩:=d2 i hi
  rw[←h1];exact hn j
 obtain⟨W,hW⟩:∃W,W=c i0:=⟨_,rfl⟩
 rw[←hW]at d0 d1 hmx' ⊢
 have dn1:∀i,i≤L→d i<ow.length:=fun i hi=>by
  by_cases q:i<L
  ·exact dn i q
  ·rw[show i=L by omega,d1,hW];exact hn i0
 classical
 --the moves along the cycle
 let f':Nat→Int:=fun v=>if hv:∃i,i<L∧d i=v then((d (Classical.choose hv+1):Nat):Int) else st.getD v 0
 have fd:∀i,i<L→f' (d i)=((d (i+1):Nat):Int):=fun i hi=>by
  have hv:∃j,j<L∧d j=d i:=⟨i,hi,rfl⟩
  show(if hv:∃j,j<L∧d j=d i then _ else _)=_
  rw[dif_pos hv]
  have:=Classical.choose_spec hv
  rw[d3 _ _ this.1 hi this.2]
 have fo:∀v,(¬∃i,i<L∧d i=v)→f' v=st.getD v 0:=fun v hv=>by
  show(if hv:∃j,j<L∧d j=v then _ else _)=_
  rw[dif_neg hv]
 obtain⟨t,ht⟩:∃t,t=tabA ow.length f':=⟨_,rfl⟩
 have tat:∀v,v<ow.length→t.getD v 0=f' v:=fun v hv=>by
  have:t[v]? =some (f' v):=by rw[ht];exact q38 hv
  exact getD_some this
 have tM:MvOk su ow.length t:=⟨by rw[ht,q27],fun v hv=>by
  rw[tat v hv]
  by_cases q:∃i,i<L∧d i=v
  ·obtain⟨i,hi,rfl⟩:=q
   rw[fd i hi]
   obtain⟨j,h1,h2⟩:=d2 i hi
   rw[←h1,←h2];exact hS j
  ·rw[fo v q];exact h.m v hv⟩
 have hWn:W<ow.length:=by rw[hW];exact hn i0
 have hge:=key_fol hc hs h tM (fun v hv=>by
  rw[tat v hv]
  by_cases q:∃i,i<L∧d i=v
  ·obtain⟨i,hi,rfl⟩:=q
   rw[fd i hi]
   obtain⟨j,h1,h2⟩:=d2 i hi
   rw[←h1,←h2];exact him j
  ·rw[fo v q]
   have hr:=h.rng V hv
   rw[self_fol hc h hr.1 hr.2,Int.mul_zero];exact Int.le_refl _) hWn
 have tv:=tM.val V hc hWn
 have fnt:∀i,i<L→fnM t (d i)=d (i+1):=fun i hi=>by
  unfold fnM
  rw[tat _ (dn i hi),fd i hi];exact Int.toNat_natCast _
 have orb:∀i,i≤L→itr (fnM t) W i=d i:=by
  intro i
  induction i with
  | zero=>intro _;exact d0.symm
  | succ i ih=>intro hi;show fnM t (itr (fnM t) W i)=_;rw[ih (by omega),fnt i (by omega)]
 have orb2:∀j,∃i,i<L∧itr (fnM t) W j=d i:=by
  intro j
  induction j with
  | zero=>exact⟨0,hL,d0.symm⟩
  | succ j ih=>
   obtain⟨i,h1,h2⟩:=ih
   have e:itr (fnM t) W (j+1)=d (i+1):=by show fnM t (itr (fnM t) W j)=_;rw[h2,fnt i h1]
   by_cases q:i+1<L
   ·exact⟨i+1,q,e⟩
   ·exact⟨0,hL,by rw[e,show i+1=L by omega,d1,d0]⟩
 have back:itr (fnM t) W L=W:=by rw[orb L (Nat.le_refl _),d1]
 have hinf:Inf (fnM t) W W:=by
  have key:∀m,itr (fnM t) W (m*L)=W:=by
   intro m
   induction m with
   | zero=>simp[itr]
   | succ m ih=>rw[show(m+1)*L=m*L+L by rw[Nat.add_mul,Nat.one_mul],←itr_sum,ih];exact back
  intro N
  refine⟨N*L,?_,key N⟩
  have:N*1≤N*L:=Nat.mul_le_mul_left N hL
  omega
 have ecy:(folA ow pr su t W).cy=W:=by
  refine rel_le_eq ?_ (tv.mx _ hinf)
  obtain⟨j,_,hj⟩:=tv.inf 0
  obtain⟨i,h1,h2⟩:=orb2 j
  rw[h2]at hj
  obtain⟨j',g1,_⟩:=d2 i h1
  have:=hmx' j'
  rw[g1,hj,tv.cyE]at this
  exact this
 have g:=g_of hs hp hge
 rw[ecy]at g
 have hg:=hgood i0
 rw[←hW]at hg
 unfold cyI at g
 rcases sign_one hs hp W with e | e
 ·exact e
 ·rw[if_pos (by intro q;rw[q]at e;omega)]at g
  omega
theorem sol_in {s p:Int} (hsp:(s=1∧p=0)∨(s= -1∧p=1)) {st ws ss:List Int} (h:MvOk su ow.length st) (h01:∀v,v<ow.length→ow.getD v 0=0∨ow.getD v 0=1)
  (hst:∀v,v<ow.length→ow.getD v 0≠p→∀u∈su.getD v [],0≤s*ordI pr (folA ow pr su st u) (folA ow pr su st (st.getD v 0)))
  (hw:∀v:Nat,v<ow.length→ws.getD v 0=(prI pr (folA ow pr su st v).cy) % 2) (hss:∀v,v<ow.length→ss.getD v 0=if ow.getD v 0=ws.getD v 0 then st.getD v 0 else-1):
  SolIn (zO ow) (Sf su) (zP pr) (fun v=>v<ow.length) p (fun v=>v<ow.length∧ws.getD v 0=p) (stN ss):=by
 have V:=q25 hc
 have hp:=fun v=>(V.prI v).1
 have hs:s=1∨s= -1:=by omega
 have par:∀x:Int,s*sgI pr x=1↔prI pr x % 2=p:=fun x=>by
  rcases sgI_cases (hp x) with⟨e1,e2⟩ | ⟨e1,e2⟩<;>rw[e1]<;>rcases hsp with⟨rfl,rfl⟩ | ⟨rfl,rfl⟩<;>omega
 have good:∀v:Nat,v<ow.length→(ws.getD v 0=p↔s*sgI pr (folA ow pr su st v).cy=1):=fun v hv=>by rw[par,hw v hv]
 have mem:∀{v u:Nat},v<ow.length→u∈Sf su v→((u:Nat):Int)∈su.getD v []:=fun {v u} hv hu=>by
  obtain⟨x,hx,rfl⟩:=List.mem_map.1 hu
  have:=q43 V hv hx
  rw[Int.toNat_of_nonneg this.1];exact hx
 have hstv:∀v:Nat,v<ow.length→(folA ow pr su st (st.getD v 0)).cy=(folA ow pr su st v).cy:=fun v hv=>by
  have hr:=h.rng V hv
  have h1:=(h.val V hc hv).next_cy (h.val V hc (h.fn V v hv))
  rw[show((fnM st v:Nat):Int)=st.getD v 0 by unfold fnM;omega]at h1
  exact h1
 have up:∀{v:Nat} {u:Int},v<ow.length→ws.getD v 0=p→0≤u→u<ow.length→0≤s*ordI pr (folA ow pr su st u) (folA ow pr su st (st.getD v 0))→ws.getD u.toNat 0=p:=fun {v u} hv hwv u0 u1 hle=>by
  rw[good u.toNat (by omega),show((u.toNat:Nat):Int)=u by omega]
  have g:=g_of hs hp hle
  rw[hstv v hv]at g
  have gv:=(good v hv).1 hwv
  rcases sign_one hs hp (folA ow pr su st u).cy with e | e
  ·exact e
  ·unfold cyI at g
   rw[if_pos (by intro q;rw[q]at e;omega)]at g
   omega
 have ssv:∀v,v<ow.length→ws.getD v 0=p→zO ow v=p→stN ss v=fnM st v:=fun v hv hwv ho=>by
  have ho:ow.getD v 0=p:=ho
  unfold stN fnM
  rw[hss v hv,if_pos (by rw[ho,hwv])]
 refine⟨fun v hv=>hv.1,fun v hv ho=>?_,fun v hv ho u hu hu2=>?_,fun c k hk hper hW hS hfol=>?_⟩
 ·rw[ssv v hv.1 hv.2 ho]
  have hr:=h.rng V hv.1
  refine⟨List.mem_map.2 ⟨_,h.m v hv.1,rfl⟩,h.fn V v hv.1,?_⟩
  have:=up hv.1 hv.2 hr.1 hr.2 (by rw[self_fol hc h hr.1 hr.2,Int.mul_zero];exact Int.le_refl _)
  exact this
 ·have hm:=mem hv.1 hu
  have:=up hv.1 hv.2 (u:=u) (by omega) (by omega) (hst v hv.1 ho _ hm)
  exact⟨hu2,by rw[Int.toNat_natCast]at this;exact this⟩
 ·obtain⟨j,h1,h2⟩:=walk_par hc hs h hk hper (fun i=>(hW i).1) (fun i=>mem (hW i).1 (hS i)) (fun i=>by
   by_cases ho:zO ow (c i)=p
   ·rw[hfol i ho,ssv _ (hW i).1 (hW i).2 ho]
    have hr:=h.rng V (hW i).1
    rw[show((fnM st (c i):Nat):Int)=st.getD (c i) 0 by unfold fnM;omega,self_fol hc h hr.1 hr.2,Int.mul_zero];exact Int.le_refl _
   ·exact hst _ (hW i).1 ho _ (mem (hW i).1 (hS i))) (fun i=>(good _ (hW i).1).1 (hW i).2)
  refine⟨j,fun i=>?_,?_⟩
  ·have:=h1 i
   unfold prI at this
   rw[Int.toNat_natCast,Int.toNat_natCast]at this
   exact this
  ·have:=(par _).1 h2
   unfold prI at this
   rw[Int.toNat_natCast]at this
   exact this
theorem stable_sol (ho:∀x∈ow,0≤x) {st ws ss:List Int} (h:MvOk su ow.length st) (b1:chgM (-1) ow pr su (q26 ow pr su st) 1 st=false) (b0:chgM 1 ow pr su (q26 ow pr su st) 0 st=false)
  (lw:ws.length=ow.length) (ls:ss.length=ow.length) (hw:∀v:Nat,v<ow.length→ws.getD v 0=(prI pr (folA ow pr su st v).cy) % 2) (hss:∀v,v<ow.length→ss.getD v 0=if ow.getD v 0=ws.getD v 0 then st.getD v 0 else-1):SolL ow pr su ws ss:=by
 have V:=q25 hc
 have h01:∀v,v<ow.length→ow.getD v 0=0∨ow.getD v 0=1:=fun v hv=>by
  obtain⟨_,_,h1,_,_⟩:=V.row v (by rw[V.s];exact hv)
  obtain⟨x,hx⟩:=q9 hv
  have:=ho x (List.mem_of_getElem? hx)
  rw[getD_some hx]at h1 ⊢;omega
 have w01:∀v,v<ow.length→ws.getD v 0=0∨ws.getD v 0=1:=fun v hv=>by rw[hw v hv];omega
 refine⟨lw,ls,⟨w01,sol_in hc (.inl ⟨rfl,rfl⟩) h h01 (fun v hv hne u hu=>?_) hw hss,sol_in hc (.inr ⟨rfl,rfl⟩) h h01 (fun v hv hne u hu=>?_) hw hss⟩,fun v hv e=>?_,fun v hv e=>?_⟩
 ·have:=stable_le hc (s:= -1) (.inr rfl) h b1 hv ((h01 v hv).resolve_left hne) hu
  omega
 ·have:=stable_le hc (s:=1) (.inl rfl) h b0 hv ((h01 v hv).resolve_right hne) hu
  omega
 ·rw[hss v hv,if_pos e.symm];exact(h.rng V hv).1
 ·rw[hss v hv,if_neg fun q=>e q.symm]
end
abbrev F0:GF:=⟨false,false,false,false,false,false,false,false⟩
abbrev betV (G:List PV):PV:= .func (.func 52) [] [.cp [ordV G] 0]
theorem age_gm (F:GF) (ow pr:List Int) (su:List (List Int)) (xs:List Int):ageL [.agg (gmF F ow pr su),slI true false .i64 xs]=[.agg (gmF F0 ow pr su),slI false false .i64 xs]:=by
 simp only[ageL,PV.age,ageL_ints,ageL_slI]
theorem pfrz_und {n:Nat} {M:Mem} {f o:Bool} {sz m:Nat} {cs:List PV} (h:q14 n cs=true):pfrz n M (.sl f o sz m cs)=some (.sl f o sz m cs):=by simp[pfrz,pfrz2,q42,PV.under,h]
theorem Bnd.of {ow pr:List Int} {su:List (List Int)} (V:Valid ow pr su) (hr:∀r∈su,r.length<big):Bnd ow pr su:=
 ⟨by have:=V.n1;show _<1000000000000;omega,by have:=V.n1;have:=V.p;show _<1000000000000;omega,by have:=V.n1;have:=V.s;show _<1000000000000;omega,hr⟩
section
variable {tab:FuncId→Option AF} (T:HasA tab)
include T
set_option maxHeartbeats 1000000 in
theorem respond_p {K:PV→Mem→Prop} {F:GF} {ow pr st:List Int} {su:List (List Int)} {g ver n:Nat} (hc:q37 ow pr su=0) (B:Bnd ow pr su) (h14:ow.length≤14) (hno:n=ow.length) (hm:MvOk su ow.length st)
  (hk:∀ver' st',RespOk ow pr su st st'→K (.sl false true 3 n (vlsL (q26 ow pr su st'))) [.cells g ver' (st'.map p64)]):
  SemC tab 21 [.agg (gmF F ow pr su),.ref 0 g 1 0 n] [.cells g ver (st.map p64)] K:=by
 subst hno
 have V:=q25 hc
 have hp:=fun v=>(V.prI v).1
 refine SemC_res (SemC_sem T.h21 ?_)
 simp only[af21]
 refine q23 (q24 ?_)
 simp only[PP,P1,P2,P3,P4,P5,P6,P7,P8,P9,P10,P11,P12,P13,P14,L1,P15,N1,N2,N3,N4,N5,N6,N7,I1,I2,I3,I4,I5,I6,I7,reduceIte,reduceCtorEq]
 refine SemW_blk (q23 (SemW_blk (q23 (q23 (q24 ?_)))))
 simp only[PP,P1,P2,P3,P4,P5,P6,P7,P8,P9,P10,P11,P12,P13,P14,L1,P15,N1,N2,N3,N4,N5,N6,N7,I1,I2,I3,I4,I5,I6,I7,reduceIte,reduceCtorEq]
 refine order_p T ?_
 simp only[PP,P1,P2,P3,P4,P5,P6,P7,P8,P9,P10,P11,P12,P13,P14,L1,P15,N1,N2,N3,N4,N5,N6,N7,I1,I2,I3,I4,I5,I6,I7,reduceIte,reduceCtorEq]
 refine q41 (b:=[Zj,.ref 0 g 1 0 ow.length,.ptr 1 0 0,Zj,Zj,.cp [ordV (gmF F ow pr su)] 0,Zj,Zj,Zj,Zj,Zj,Zj,Zj,Zj,Zj,Zj,Zj,Zj,Zj,Zj,Zj]) (GStep.freezeP 2 (by decide) rfl (by simp only[q67,q55,q54,q66]) rfl) ?_
 simp only[List.set_cons_succ,List.set_cons_zero]
 --one round,for any moves that respond
 have fin:∀ver' st',RespOk ow pr su st st'→∀M,∃r' N,pfrz 1 (.cells g ver' (st'.map p64)::M) (.sl false true 3 st'.length (vlsL (q26 ow pr su st')))=some r'∧pfrzM 1 (.cells g ver' (st'.map p64)::M) [.cells g ver' (st'.map p64)]=some N∧K r' N:=fun ver' st' R M=>by
  refine⟨_,_,pfrz_und (vlsL_und 1 _),pfrzM_cons (pfrzO_ok (by simp only[cutOk,q16])) rfl,?_⟩
  rw[R.ok.l];exact hk ver' st' R
 have inn:∀st',MvOk su ow.length st'→∀x∈q26 ow pr su st',InV pr.length x:=fun st' h=>vals_in hc h
 have bt:=bt_one T (F:=F) (ow:=ow) (su:=su) hp
 refine q24 ?_
 simp only[PP,P1,P2,P3,P4,P5,P6,P7,P8,P9,P10,P11,P12,P13,P14,L1,P15,N1,N2,N3,N4,N5,N6,N7,I1,I2,I3,I4,I5,I6,I7,reduceIte,reduceCtorEq]
 refine SemC_borF (.same (by simp only[PP,P1,P2,P3,P4,P5,P6,P7,P8,P9,P10,P11,P12,P13,P14,L1,P15,N1,N2,N3,N4,N5,N6,N7,I1,I2,I3,I4,I5,I6,I7,reduceIte,reduceCtorEq]) (.ints rfl hm.l .nil)) (age_gm _ _ _ _ _) (values_p T B h14 (by rw[hm.l];exact h14) ⟨by simp only[PV.young,vlsL_young,Bool.true_and],?_⟩)
 simp only[PP,P1,P2,P3,P4,P5,P6,P7,P8,P9,P10,P11,P12,P13,P14,L1,P15,N1,N2,N3,N4,N5,N6,N7,I1,I2,I3,I4,I5,I6,I7,reduceIte,reduceCtorEq]
 refine SemC_at (pre:=[.agg [p8 1,betV (gmF F ow pr su)],.agg (gmF F ow pr su)]) (post:=[.sl false true 3 st.length (vlsL (q26 ow pr su st))]) rfl (by simp only[PP,P1,P2,P3,P4,P5,P6,P7,P8,P9,P10,P11,P12,P13,P14,L1,P15,N1,N2,N3,N4,N5,N6,N7,I1,I2,I3,I4,I5,I6,I7,reduceIte,reduceCtorEq]) (by simp only[PP,P1,P2,P3,P4,P5,P6,P7,P8,P9,P10,P11,P12,P13,P14,L1,P15,N1,N2,N3,N4,N5,N6,N7,I1,I2,I3,I4,I5,I6,I7,reduceIte,reduceCtorEq,PV.under]) (by simp only[PP,P1,P2,P3,P4,P5,P6,P7,P8,P9,P10,P11,P12,P13,P14,L1,P15,N1,N2,N3,N4,N5,N6,N7,I1,I2,I3,I4,I5,I6,I7,reduceIte,reduceCtorEq,under_slV]) ?_
 have hvl:(q26 ow pr su st).length=ow.length:=by rw[q26,q27,hm.l]
 rw[hm.l]
 refine improve_p T V hm.l hvl rfl bt (fun v hv=>hm.rng V hv) (inn st hm) (fun v1=>⟨by simp only[PP,P1,P2,P3,P4,P5,P6,P7,P8,P9,P10,P11,P12,P13,P14,L1,P15,N1,N2,N3,N4,N5,N6,N7,I1,I2,I3,I4,I5,I6,I7,reduceIte,reduceCtorEq],v1,_,[],rfl,by simp only[PP,P1,P2,P3,P4,P5,P6,P7,P8,P9,P10,P11,P12,P13,P14,L1,P15,N1,N2,N3,N4,N5,N6,N7,I1,I2,I3,I4,I5,I6,I7,reduceIte,reduceCtorEq],?_⟩)
 cases hch:chgM (-1) ow pr su (q26 ow pr su st) 1 st with
 | false=>
  have e:impM (-1) ow pr su (q26 ow pr su st) 1 st=st:=by
   unfold chgM at hch
   rw[decide_eq_false_iff_not,Classical.not_not]at hch;exact hch
  rw[e]
  simp only[PP,P1,P2,P3,P4,P5,P6,P7,P8,P9,P10,P11,P12,P13,P14,L1,P15,N1,N2,N3,N4,N5,N6,N7,I1,I2,I3,I4,I5,I6,I7,reduceIte,reduceCtorEq]
  have:=fin v1 st ⟨hm,fun _ _ _=>rfl,hch⟩
  rw[hm.l]at this
  exact this _
 | true=>
  obtain⟨h1,h2,_⟩:=imp_ok hc (s:= -1) (.inr rfl) (player:=1) hm
  simp only[PP,P1,P2,P3,P4,P5,P6,P7,P8,P9,P10,P11,P12,P13,P14,L1,P15,N1,N2,N3,N4,N5,N6,N7,I1,I2,I3,I4,I5,I6,I7,reduceIte,reduceCtorEq]
  refine loop2 (fun(ver:Nat) (st':List Int)=>MvOk su ow.length st'∧∀v,v<ow.length→ow.getD v 0≠1→st'.getD v 0=st.getD v 0) (fun ver st'=>[Zj,.ref 0 g 1 0 ow.length,.ptr 1 0 0,Zj,Zj,Zj,.ptr 3 0 0,Zj,Zj,Zj,Zj,Zj,Zj,Zj,Zj,Zj,Zj,Zj,Zj,Zj,Zj])
   (fun ver st'=>[.cells g ver (st'.map p64),.cells 0 0 (gmF F ow pr su),.gone,.cells 0 1 [p8 1,betV (gmF F ow pr su)]]) (fun _ st'=>muM (-1) ow pr su 1 st') v1 _ ⟨h1,h2⟩ (by simp only[PW]) rfl ?_
  intro ver st' ⟨h',hsame⟩ ih
  have hvl':(q26 ow pr su st').length=ow.length:=by rw[q26,q27,h'.l]
  refine q15 (by kernel_rfl) ?_
  simp only[PP,P1,P2,P3,P4,P5,P6,P7,P8,P9,P10,P11,P12,P13,P14,L1,P15,N1,N2,N3,N4,N5,N6,N7,I1,I2,I3,I4,I5,I6,I7,reduceIte,reduceCtorEq]
  refine SemC_borF (.same (by simp only[PP,P1,P2,P3,P4,P5,P6,P7,P8,P9,P10,P11,P12,P13,P14,L1,P15,N1,N2,N3,N4,N5,N6,N7,I1,I2,I3,I4,I5,I6,I7,reduceIte,reduceCtorEq]) (.ints rfl h'.l .nil)) (age_gm _ _ _ _ _) (values_p T B h14 (by rw[h'.l];exact h14) ⟨by simp only[PV.young,vlsL_young,Bool.true_and],?_⟩)
  simp only[PP,P1,P2,P3,P4,P5,P6,P7,P8,P9,P10,P11,P12,P13,P14,L1,P15,N1,N2,N3,N4,N5,N6,N7,I1,I2,I3,I4,I5,I6,I7,reduceIte,reduceCtorEq]
  refine SemC_at (pre:=[.agg [p8 1,betV (gmF F ow pr su)],.agg (gmF F ow pr su)]) (post:=[.sl false true 3 st'.length (vlsL (q26 ow pr su st'))]) rfl (by simp only[PP,P1,P2,P3,P4,P5,P6,P7,P8,P9,P10,P11,P12,P13,P14,L1,P15,N1,N2,N3,N4,N5,N6,N7,I1,I2,I3,I4,I5,I6,I7,reduceIte,reduceCtorEq]) (by simp only[PP,P1,P2,P3,P4,P5,P6,P7,P8,P9,P10,P11,P12,P13,P14,L1,P15,N1,N2,N3,N4,N5,N6,N7,I1,I2,I3,I4,I5,I6,I7,reduceIte,reduceCtorEq,PV.under]) (by simp only[PP,P1,P2,P3,P4,P5,P6,P7,P8,P9,P10,P11,P12,P13,P14,L1,P15,N1,N2,N3,N4,N5,N6,N7,I1,I2,I3,I4,I5,I6,I7,reduceIte,reduceCtorEq,under_slV]) ?_
  rw[h'.l]
  refine improve_p T V h'.l hvl' rfl bt (fun v hv=>h'.rng V hv) (inn st' h') (fun v2=>⟨by simp only[PP,P1,P2,P3,P4,P5,P6,P7,P8,P9,P10,P11,P12,P13,P14,L1,P15,N1,N2,N3,N4,N5,N6,N7,I1,I2,I3,I4,I5,I6,I7,reduceIte,reduceCtorEq],v2,_,[],rfl,by simp only[PP,P1,P2,P3,P4,P5,P6,P7,P8,P9,P10,P11,P12,P13,P14,L1,P15,N1,N2,N3,N4,N5,N6,N7,I1,I2,I3,I4,I5,I6,I7,reduceIte,reduceCtorEq],?_⟩)
  cases hch':chgM (-1) ow pr su (q26 ow pr su st') 1 st' with
  | false=>
   have e:impM (-1) ow pr su (q26 ow pr su st') 1 st'=st':=by
    unfold chgM at hch'
    rw[decide_eq_false_iff_not,Classical.not_not]at hch';exact hch'
   rw[e]
   simp only[PP,P1,P2,P3,P4,P5,P6,P7,P8,P9,P10,P11,P12,P13,P14,L1,P15,N1,N2,N3,N4,N5,N6,N7,I1,I2,I3,I4,I5,I6,I7,reduceIte,reduceCtorEq]
   have:=fin v2 st' ⟨h',hsame,hch'⟩
   rw[h'.l]at this
   exact this _
  | true=>
   obtain⟨g1,g2,_⟩:=imp_ok hc (s:= -1) (.inr rfl) (player:=1) h'
   simp only[PP,P1,P2,P3,P4,P5,P6,P7,P8,P9,P10,P11,P12,P13,P14,L1,P15,N1,N2,N3,N4,N5,N6,N7,I1,I2,I3,I4,I5,I6,I7,reduceIte,reduceCtorEq]
   exact q8 (ih v2 _ ⟨g1,fun v hv ho=>by rw[g2 v hv ho];exact hsame v hv ho⟩ (resp_step hc h' hch')) (by simp only[PW])
end
section
variable {M l:Mem} {x:PObj} {i:Nat}
theorem gkI0:(M++l)[M.length]? =l[0]? :=by rw[List.getElem?_append_right (Nat.le_refl _),Nat.sub_self]
theorem skI0:(M++l).set M.length x=M++l.set 0 x:=by rw[List.set_append_right _ _ (Nat.le_refl _),Nat.sub_self]
end
section
variable {tab:FuncId→Option AF} (T:HasA tab)
include T
end
end Go.Am.Ar

