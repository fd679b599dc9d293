/- Contracts: what is a measure of a game, and what goes with it. -/
import Derived.Test.YtapbgleednkimaaGreatDoorBudgetLoadsG0
set_option linter.all false
set_option maxRecDepth 10000
open List renaming take_of_length_le->Be,replicate->Ah,getD->Ax,getElem?_of_mem->Dj,mem_of_getElem?->Af,mem_singleton->Bp,getElem?_append_right->Bx,getElem?_append_left->Bj,all_cons->Co,all_nil->Es,set_append_right->Dk,all_eq_true->Cf,append_assoc->Ab,cons_append->Al,getElem?_cons_succ->Cl,getElem?_cons_zero->Gy,set_cons_zero->De,take_left'->Bb,getElem?_set_self->Cj,getElem?_set_ne->Bo,ext_getElem?->Ej,getElem?_eq_none->Bk,range->Aw,flatMap_cons->Cd,length_append->An,length_cons->As,nil_append->Aq,getElem?_map->Av,getElem?_range->Ee,replicate_succ->Eu,length_take->Bu,map_append->Ay,map_cons->Ak,map_nil->Bq,length_map->Ap,append_nil->Bv,take_add_one->Cp,take_length->En,getElem?_eq_getElem->Ad,mem_cons->Cu,not_mem_nil->Fh,length_nil->Bl,all_append->Cc,map_map->Du,map_congr_left->Dt,drop_left'->Hj,foldl_append->Em,mem_append->Ci,flatMap_append->Jg,flatMap->Jh,take_append_drop->Cy,foldl_cons->Ed,mem_flatMap->Gb,drop_of_length_le->Fm,flatten_cons->Ef,append_cancel_left->Jj
open Int renaming toNat->Dc,toNat_natCast->Ck,le_refl->Cq,toNat_of_nonneg->Cz
open Nat renaming zero_mul->Dy,zero_add->Az,le_refl->Ac,sub_self->Dd,zero_le->Ai,eq_zero_or_pos->Fb,reduceAdd->El,mul_le_mul->Jf,le_of_lt->Jd,strongRecOn->Ga,min_eq_left->Dv,pow_le_pow_right->Ji,add_assoc->Cs
open Bool renaming and_self->Dp,and_eq_true->Au,true->Jo,false->Jp
open Classical renaming byContradiction->Cb
open ByteArray renaming ext->Fs,size->Gj
open Array renaming ext'->Ch
open Option renaming getD_some->Cx,map_some->Cr,some->Jm,none->Jn
open Function renaming comp_def->Gf
namespace Go.Am.Ar
open Go.Am.PV renaming aa->Zj
open Go.Am renaming jj->P1,mj->P2,ls->P3,fe->P4,cm.under->P5,ig->P6,du->P7,ct->P8,pev->P9,ji->P10,bd->P11,ll->P12,dv->P13,cK->P14,AO.effect->P15
open List renaming replicate->L1
def VJ(x:Ms):aY (msC x) 1 8=x.c.map (PV.int .i64):=by unfold aY msC;rw[List.drop_succ_cons,List.drop_zero,Be (by simp[x.h])]
def aIo{pr:List Int}{x:Ms}(h:∀(k:Nat) (c:Int),k<8->x.c[k]? =Jm c->0<=c/\c<=(pr.count ((2*k+1:Nat):Int):Nat)):mOk (aP pr) x.c:=
  aAQ (by rw[x.h,iF]) fun u c n h1 h2=>by
    have y:u<8:=by have:=aI h1;rwa [x.h]at this
    rw[nI pr y]at h2;cases h2;exact h u c y h1
def aAw{pr:List Int}{x:Ms}(h:x.Ok (aP pr)){k:Nat}{c:Int}(u:k<8)(g:x.c[k]? =Jm c):0<=c/\c<=(pr.count ((2*k+1:Nat):Int):Nat):=S2 h.1 g (nI pr u)
def aAG:qz.fit:=fun c u=>by have:=List.eq_of_mem_replicate (show c∈Ah 8 (0:Int)from u);omega
section
variable {tab:Tb} (T:HasA tab){M:Mem}{K:Kp}
include T
def aDo{G I J L O Q f4 R:Bool}{ow pr:List Int}{su:List (List Int)}{x:Ms}(hb:pr.length<1000000000000)
    (S:∀b:Bool,(b=Jo↔x.Ok (aP pr))->K (.bool b) M):
    aj tab 269 [.cp (jS G I J L O Q f4 R ow pr su) 0,.agg (msC x)] M K:=by
  have h8:=iF pr;have hlt:=xP hb;have U:x.Ok (aP pr)->K (.bool Jo) M:=fun h=>S Jo ⟨fun _=>h,fun _=>rfl⟩;have Y:¬x.Ok (aP pr)->K (.bool Jp) M:=fun h=>S Jp ⟨fun q=>(by cases q),fun q=>absurd q h⟩;refine aF T.h269 (by simp only[PP,simprocAttr,PN,PV.under]) ?_;simp only[af269,PP,simprocAttr,PN,VJ];refine dN (fun(k:Nat)=>k<=8/\∀(i:Nat) (c:Int),i<k->x.c[i]? =Jm c->0<=c/\c<=(pr.count ((2*i+1:Nat):Int):Nat))
    (fun k=>(.cp (jS G I J L O Q f4 R ow pr su) 0:: .aa:: .aa:: .ptr 0 0 0::zj 4++ .agg (x.c.map (PV.int .i64))::p64 k::zj 24))
    (fun k=>[.cells 0 0 (msC x)]) (fun k=>8-k) 0 ⟨by omega,fun i c h=>by omega⟩ (by simp only[PW]) rfl ?_
  intro k ⟨a0,Z⟩ ih;refine aH (by kernel_rfl) ?_;simp only[PP,simprocAttr];refine QIf.intro (fun c=>?_) fun c=>?_
  · have u:k<8:=by omega
    have k0:(0:Int)<=k:=by omega
    have k8:(k:Int)<8:=by omega
    have V:=aC (k:=k) (by show _<1000000000000;omega);obtain⟨a,y⟩:=Ms.get (x:=x) u;have gn:=nI pr u;have g2:=SL (f1:=G) (o1:=I) (f2:=J) (o2:=L) (f3:=O) (o3:=Q) (f4:=f4) (o4:=R) (ow:=ow) (su:=su) gn;simp only[PP,simprocAttr,c,k0,y];refine QIf.intro (fun d=>?_) fun d=>?_
    · simp only[PP,simprocAttr,d];exact Y fun h=>by have:=aAw h u y;omega
    · simp only[PP,simprocAttr,c,d,k0,g2];refine QIf.intro (fun e=>?_) fun e=>?_
      · simp only[PP,simprocAttr,e];exact Y fun h=>by have:=aAw h u y;omega
      · simp only[PP,simprocAttr,e,V];refine aE (ih (k+1) ⟨by omega,fun i c' h1 h2=>?_⟩ (by omega)) (by simp only[PW]);by_cases ei:i=k
        · subst ei;rw[y]at h2;cases h2;omega
        · exact Z i c' (by omega) h2
  · have u:k=8:=by omega
    subst u;have B:=aIo Z
    cases ht:x.top with
    | false=>simp only[PP,simprocAttr,PN,ht];exact U ⟨B,fun h=>by rw[ht]at h;cases h⟩
    | true=>
      have E:x.fit:=Ms.Ok.fit (x:=⟨Jp,x.c,x.h⟩) (ns:=aP pr) ⟨B,fun h=>by cases h⟩ hlt;simp only[PP,simprocAttr,PN,ht,SS E aAG];refine S _ ?_;rw[decide_eq_true_eq];constructor
      · intro h;rw[h];exact GT h8
      · intro h;exact Ms.ext' ht (h.2 ht)
end
def nx(p:Bool):Int->Int->List Int->Int
  | u,most,[]=>if p=Jo then(if u<0 then-1 else u+1)else most+1
  | u,most,r::y=>if r<0 then(if p=Jo then nx p u most y else-1)else nx p (if u<0 then r else if r<u then r else u) (max most r) y
section
variable {n:Nat} {P:Nat->Bool} {S:Nat->List Nat} {Z:Nat->Bool}
end
def Sf(su:List (List Int))(v:Nat):List Nat:=(su.getD v []).map Dc
def aGB{ow pr:List Int}{su:List (List Int)}(V:Valid ow pr su){v:Nat}(hv:v<ow.length):su.getD v []≠[]/\(su.getD v []).Pairwise (· < ·)/\∀u∈su.getD v [],0<=u/\u<ow.length:=by
  have hs:=V.s;have y:v<su.length:=by omega
  obtain⟨_,_,_,h1,q⟩:=V.row v y;have e:su.getD v []=su[v]:=by simp[Ax,y]
  obtain⟨B,E⟩:=iT q;rw[e];exact⟨fun h=>by rw[h]at h1;simp at h1,B,fun u G=>by have:=E u G;omega⟩
def UD{ow pr:List Int}{su:List (List Int)}(V:Valid ow pr su){v:Nat}(hv:v<ow.length):Sf su v≠[]/\(∀u∈Sf su v,u<ow.length)/\(Sf su v).Nodup:=by
  obtain⟨h1,h2,h3⟩:=aGB V hv;refine⟨fun h=>h1 (List.map_eq_nil_iff.1 h),fun u y=>?_,?_⟩
  · obtain⟨w,hw,rfl⟩:=List.mem_map.1 y;have:=h3 w hw;omega
  · unfold Sf;refine List.pairwise_map.2 (List.Pairwise.imp_of_mem ?_ h2);intro a b B hb E e;have:=h3 a B;have:=h3 b hb;omega
end Go.Am.Ar
--P14
namespace Go.Am.Ar
open Go.Am.PV renaming aa->Zj
open Go.Am renaming jj->P1,mj->P2,ls->P3,fe->P4,cm.under->P5,ig->P6,du->P7,ct->P8,pev->P9,ji->P10,bd->P11,ll->P12,dv->P13,cK->P14,AO.effect->P15
open List renaming replicate->L1
abbrev gO(ow:List Int):Nat->Int:=fun v=>ow.getD v 0
abbrev gL(ow pr:List Int)(su:List (List Int)):(Nat->Nat)->Nat->Nat:=lN (aP pr) (gO ow) (Sf su) (gO pr)
def Nf(u:List Nat)(y:List Ms)(v:Nat):Nat:=(y.getD v mz).num u
structure ja (ns:List Nat) (n:Nat) (ms:List Ms):Prop where
  l:ms.length=n
  ok:∀x∈ms,x.Ok ns
def pB{u:List Nat}{y:List Ms}{v:Nat}{x:Ms}(h:y[v]? =Jm x):Nf u y v=x.num u:=by unfold Nf;simp[Ax,h]
def n7{ow pr:List Int}{su:List (List Int)}(V:Valid ow pr su):aFE pr:=⟨by rw[V.p];have:=V.n1;omega,fun x y=>by
  obtain⟨i,u⟩:=Dj y;have hl:=aI u;have:=V.row i (by rw[V.s,<-V.p];exact hl);rw[getD_some u]at this;exact⟨this.1,this.2.1⟩⟩
def oO(x:Ms):(msC x).all PV.nq=Jo:=by simp[msC,PV.nq]
def f6(l:List Ms):aY (msL l) 0 (l.length*9)=msL l:=aK _ _ (jV l).symm
section
variable {tab:Tb} (T:HasA tab){M:Mem}{K:Kp}
include T
def WE{f o:Bool}{u:List Ms}{G:List Nat}(h0:0<u.length)(hb:u.length<1000000000000)(I:∀x∈u,x.Ok G)
    (hk:∀y,y∈u->(∀z∈u,y.num G<=z.num G)->K (.agg (msC y)) M):
    aj tab 220 [slM f o u,.func (.func 30) [] []] M K:=by
  refine aF T.h220 (by simp only[PP,simprocAttr,PN,PV.under]) ?_;have n1:¬(u.length:Int)<1:=by omega
  have n2:(0:Int)<u.length:=by omega
  obtain⟨x0,R⟩:=aM (xs:=u) (k:=0) h0;have V:=eY R;have S:=qF R;rw[Dy]at V S;rw[Az]at S;simp only[af220,PP,simprocAttr,PN,n1,n2,V,S];refine kV (fun(k ver:Nat) (y:Ms)=>1<=k/\k<=u.length/\y∈u/\∀(j:Nat) (z:Ms),j<k->u[j]? =Jm z->y.num G<=z.num G)
    (fun k ver y=>(slM f o u:: .func (.func 30) [] []:: .aa:: .aa:: .ptr 0 0 0:: .ptr 1 0 0::p64 k::zj 26))
    (fun k ver y=>[.cells 0 0 (msC mz),.cells 0 ver (msC y)]) (fun k _ _=>u.length-k) 1 1 x0 ⟨by omega,h0,Af R,fun j z J hz=>by
      have:j=0:=by omega
      subst this;rw[R]at hz;cases hz;exact Ac _⟩ (by simp only[PW]) rfl ?_
  intro k ver y ⟨Y,a0,U,B⟩ Z;refine aH (by kernel_rfl) ?_;simp only[PP,simprocAttr];refine QIf.intro (fun c=>?_) fun c=>?_
  · have E:k<u.length:=by omega
    have k0:(0:Int)<=k:=by omega
    have kn:(k:Int)<u.length:=by omega
    have L:=aC (k:=k) (by show _<1000000000000;omega);obtain⟨x,O⟩:=aM (xs:=u) (k:=k) E;have Q:=Af O;have p1:=eY O;have l1:=qF O;simp only[PP,simprocAttr,PN,c,k0,p1,l1];refine mL T ?_;rw[pR (I x Q) (I y U)];simp only[PP,simprocAttr];refine QIf.intro (fun d=>?_) fun d=>?_
    · rw[tC]at d;simp only[PP,simprocAttr,PN,c,k0,p1,l1,L];refine aR (Z (k+1) (ver+1) x ⟨by omega,E,Q,fun j z J hz=>?_⟩ (by omega)) (by simp only[PW]) rfl;by_cases e:j=k
      · subst e;rw[O]at hz;cases hz;exact Ac _
      · have:=B j z (by omega) hz;omega
    · rw[tC]at d;simp only[PP,simprocAttr,L];refine aE (Z (k+1) ver y ⟨by omega,E,U,fun j z J hz=>?_⟩ (by omega)) (by simp only[PW]);by_cases e:j=k
      · subst e;rw[O]at hz;cases hz;omega
      · exact B j z (by omega) hz
  · simp only[PP,simprocAttr,PN,c];refine hk y U fun z hz=>?_;obtain⟨j,J⟩:=Dj hz;exact B j z (by have:=aI J;omega) J
def WF{f o:Bool}{u:List Ms}{G:List Nat}(h0:0<u.length)(hb:u.length<1000000000000)(I:∀x∈u,x.Ok G)
    (hk:∀y,y∈u->(∀z∈u,z.num G<=y.num G)->K (.agg (msC y)) M):
    aj tab 221 [slM f o u,.func (.func 30) [] []] M K:=by
  refine aF T.h221 (by simp only[PP,simprocAttr,PN,PV.under]) ?_;have n1:¬(u.length:Int)<1:=by omega
  have n2:(0:Int)<u.length:=by omega
  obtain⟨x0,R⟩:=aM (xs:=u) (k:=0) h0;have V:=eY R;have S:=qF R;rw[Dy]at V S;rw[Az]at S;simp only[af221,PP,simprocAttr,PN,n1,n2,V,S];refine kV (fun(k ver:Nat) (y:Ms)=>1<=k/\k<=u.length/\y∈u/\∀(j:Nat) (z:Ms),j<k->u[j]? =Jm z->z.num G<=y.num G)
    (fun k ver y=>(slM f o u:: .func (.func 30) [] []:: .aa:: .aa:: .ptr 0 0 0:: .ptr 1 0 0::p64 k::zj 26))
    (fun k ver y=>[.cells 0 0 (msC mz),.cells 0 ver (msC y)]) (fun k _ _=>u.length-k) 1 1 x0 ⟨by omega,h0,Af R,fun j z J hz=>by
      have:j=0:=by omega
      subst this;rw[R]at hz;cases hz;exact Ac _⟩ (by simp only[PW]) rfl ?_
  intro k ver y ⟨Y,a0,U,B⟩ Z;refine aH (by kernel_rfl) ?_;simp only[PP,simprocAttr];refine QIf.intro (fun c=>?_) fun c=>?_
  · have E:k<u.length:=by omega
    have k0:(0:Int)<=k:=by omega
    have kn:(k:Int)<u.length:=by omega
    have L:=aC (k:=k) (by show _<1000000000000;omega);obtain⟨x,O⟩:=aM (xs:=u) (k:=k) E;have Q:=Af O;have p1:=eY O;have l1:=qF O;simp only[PP,simprocAttr,PN,c,k0,p1,l1];refine mL T ?_;rw[pR (I x Q) (I y U)];simp only[PP,simprocAttr];refine QIf.intro (fun d=>?_) fun d=>?_
    · rw[iH]at d;simp only[PP,simprocAttr,PN,c,k0,p1,l1,L];refine aR (Z (k+1) (ver+1) x ⟨by omega,E,Q,fun j z J hz=>?_⟩ (by omega)) (by simp only[PW]) rfl;by_cases e:j=k
      · subst e;rw[O]at hz;cases hz;exact Ac _
      · have:=B j z (by omega) hz;omega
    · rw[iH]at d;simp only[PP,simprocAttr,L];refine aE (Z (k+1) ver y ⟨by omega,E,U,fun j z J hz=>?_⟩ (by omega)) (by simp only[PW]);by_cases e:j=k
      · subst e;rw[O]at hz;cases hz;omega
      · exact B j z (by omega) hz
  · simp only[PP,simprocAttr,PN,c];refine hk y U fun z hz=>?_;obtain⟨j,J⟩:=Dj hz;exact B j z (by have:=aI J;omega) J
set_option maxHeartbeats 1000000 in
def aAZ{f1 o1 f2 o2 f3 o3 f4 o4 f o:Bool}{ow pr:List Int}{su:List (List Int)}{L:List Ms}{v:Nat}(V:Valid ow pr su)(B:Bnd ow pr su)(hm:ja (aP pr) ow.length L)(hv:v<ow.length)
    (hk:∀y:Ms,y.Ok (aP pr)->y.num (aP pr)=gL ow pr su (Nf (aP pr) L) v->K (.agg (msC y)) M):
    aj tab 190 [.cp (jS f1 o1 f2 o2 f3 o3 f4 o4 ow pr su) 0,slM f o L,p64 v] M K:=by
  have P:=n7 V;have hp:=V.p;have hs:=V.s;have U:=hm.l;obtain⟨o',g1⟩:=aM (xs:=ow) (k:=v) hv;obtain⟨pv,g2⟩:=aM (xs:=pr) (k:=v) (by omega);obtain⟨row,g3⟩:=aM (xs:=su) (k:=v) (by omega);obtain⟨p0,p1⟩:=P.2 pv (Af g2);obtain⟨p,rfl⟩:∃p:Nat,pv=p:=⟨pv.toNat,by omega⟩;have Y:p<=16:=by omega
  have v0:(0:Int)<=v:=by omega
  have vn:(v:Int)<ow.length:=by omega
  have eO:gO ow v=o':=getD_some g1;have eR:gO pr v=p:=getD_some g2;have eS:Sf su v=row.map Dc:=by unfold Sf;simp[Ax,g3]
  have Z:∀u∈row,0<=u/\u<ow.length:=fun u G=>I0 V hv (by simp[Ax,g3];exact G);have b0:row.length<1000000000000:=B.r row (Af g3);have b1:0<row.length:=by
    have:=(UD V hv).1;rw[eS]at this
    cases row with
    | nil=>exact absurd rfl this
    | cons x l=>simp
  refine aF T.h190 (by simp only[PP,simprocAttr,PN,PV.under]) ?_;simp only[af190,PP,simprocAttr,PN,v0,vn,hs,g3];refine aU (GStep.nil 7 9 rfl rfl rfl) ?_;refine wA (fun(k g ver:Nat) (l:List Ms)=>k<=row.length/\l.length=k/\(∀x∈l,x.Ok (aP pr))/\∀(j:Nat) (u:Int) (x:Ms),row[j]? =Jm u->l[j]? =Jm x->x.num (aP pr)=vN (aP pr) p (Nf (aP pr) L u.toNat))
    (fun k g ver l=>(.cp (jS f1 o1 f2 o2 f3 o3 f4 o4 ow pr su) 0::slM f o L::p64 v::zj 3++ .ptr 0 0 0:: .ref 1 g 9 0 k::zj 9++slI f4 o4 .i64 row::p64 row.length::p64 k::zj 34))
    (fun k g ver l=>[.cells 0 0 (msC mz),.cells g ver (msL l)]) (fun k _ _ _=>row.length-k) 0 0 0 [] ⟨by omega,rfl,fun x hx=>(by cases hx),fun j u x _ h=>by simp at h⟩ (by simp only[PP,simprocAttr,PW]) (by simp only[PP,simprocAttr];rfl) ?_
  intro k g ver l ⟨b2,hl,E,Q⟩ ih;refine aH (by kernel_rfl) ?_;simp only[PP,simprocAttr];refine QIf.intro (fun c=>?_) fun c=>?_
  · have a4:k<row.length:=by omega
    have k0:(0:Int)<=k:=by omega
    have a5:=aC (k:=k) (by show _<1000000000000;omega);obtain⟨u,g4⟩:=aM (xs:=row) (k:=k) a4;obtain⟨u0,u1⟩:=Z u (Af g4);obtain⟨x,g5⟩:=aM (xs:=L) (k:=u.toNat) (by omega);have eN:Nf (aP pr) L u.toNat=x.num (aP pr):=pB g5;have q1:=eY g5;have q2:=qF g5;rw[U]at q2;simp only[PP,simprocAttr,PN,c,k0,v0,vn,hp,g2,g4,u0,u1,U,q1,q2];refine aIc T P.1 Y (hm.ok x (Af g5)) fun y y1 y2=>?_;have a6:aY (msL l) 0 (k*9)=msL l:=by rw[<-hl];exact f6 l
    have a7:(k+1)*72<=140737488355328:=by omega
    have c1:k+1<=9223372036854775807:=by omega
    have c9:k*9<=l.length*9:=by omega
    simp only[PP,P14,simprocAttr,PN,a6,a7,c1,c9,a5];refine aR (ih (k+1) (g+1) 0 (l++[y]) ⟨by omega,by simp[hl],fun z hz=>?_,fun j w z h1 h2=>?_⟩ (by omega)) (by simp only[PW]) (by rw[aEc])
    · rcases List.mem_append.1 hz with h | h
      · exact E z h
      · rw[Bp]at h;subst h;exact y1
    · by_cases e:j=k
      · subst e;rw[g4]at h1;cases h1;rw[Bx (by omega),hl,Dd]at h2;cases h2;rw[y2,eN]
      · have R:j<l.length:=by have:=aI h2;simp at this;omega
        rw[Bj R]at h2;exact Q j w z h1 h2
  · have a9:k=row.length:=by omega
    subst a9;have a0:0<l.length:=by omega
    have a1:l.length<1000000000000:=by omega
    have a2:∀y∈l,∃u∈Sf su v,y.num (aP pr)=vN (aP pr) (gO pr v).toNat (Nf (aP pr) L u):=fun y J=>by obtain⟨j,R⟩:=Dj J;obtain⟨u,G⟩:=aM (xs:=row) (k:=j) (by have:=aI R;omega);refine⟨u.toNat,by rw[eS];exact List.mem_map.2 ⟨u,Af G,rfl⟩,?_⟩;rw[eR,Ck];exact Q j u y G R
    have O:∀u∈Sf su v,∃y∈l,y.num (aP pr)=vN (aP pr) (gO pr v).toNat (Nf (aP pr) L u):=fun u G=>by rw[eS]at G;obtain⟨w,hw,rfl⟩:=List.mem_map.1 G;obtain⟨j,R⟩:=Dj hw;obtain⟨y,J⟩:=aM (xs:=l) (k:=j) (by have:=aI R;omega);refine⟨y,Af J,?_⟩;rw[eR,Ck];exact Q j w y R J
    have a3:jk [.cells 0 0 (msC mz),.cells g ver (msL l)] [.ref 1 g 9 0 row.length,.func (.func 30) [] []] [slM Jo Jp l,.func (.func 30) [] []]:=by rw[<-hl];exact .ref rfl (by rw[jV];omega) (dE _ _) (f6 l) (.same rfl .nil)
    simp only[PP,simprocAttr,PN,c,v0,vn,g1];refine QIf.intro (fun d=>?_) fun d=>?_
    · simp only[PP,simprocAttr,d];refine iL a3 (WE T a0 a1 E fun y J I=>⟨by simp only[PV.flat,PV.nd,oO],?_⟩);simp only[PP,simprocAttr,PN];refine hk y (E y J) ?_;unfold gL lN;rw[eO,if_pos d];refine SF (a2 y J) fun u G=>?_;obtain⟨z,hz,e⟩:=O u G;rw[<-e];exact I z hz
    · simp only[PP,simprocAttr,d];refine iL a3 (WF T a0 a1 E fun y J I=>⟨by simp only[PV.flat,PV.nd,oO],?_⟩);simp only[PP,simprocAttr,PN];refine hk y (E y J) ?_;unfold gL lN;rw[eO,if_neg d];refine SG (a2 y J) fun u G=>?_;obtain⟨z,hz,e⟩:=O u G;rw[<-e];exact I z hz
omit T in
def Valid.O01{ow pr:List Int}{su:List (List Int)}(V:Valid ow pr su)(u:∀x∈ow,0<=x){v:Nat}{x:Int}(h:ow[v]? =Jm x):x=0\/x=1:=by have hv:=aI h;have h2:=(V.row v (by rw[V.s];exact hv)).2.2.1;rw[getD_some h]at h2;have:=u x (Af h);omega
set_option maxHeartbeats 1000000 in
def D2{f1 o1 f2 o2 f3 o3 f4 o4 f o:Bool}{ow pr:List Int}{su:List (List Int)}{G:List Ms}{v:Nat}(V:Valid ow pr su)(B:Bnd ow pr su)(ho:∀x∈ow,0<=x)(hm:ja (aP pr) ow.length G)(hv:v<ow.length)
    (hk:∀y:Ms,y.Ok (aP pr)->y.num (aP pr)=gL ow pr su (Nf (aP pr) G) v->K (.agg (msC y)) M):
    aj tab 105 [gmP f1 o1 f2 o2 f3 o3 f4 o4 ow pr su,slM f o G,p64 v] M K:=by
  have P:=n7 V;have hp:=V.p;have hs:=V.s;have Q:=hm.l;obtain⟨R,S⟩:=aM (xs:=ow) (k:=v) hv;obtain⟨pv,g2⟩:=aM (xs:=pr) (k:=v) (by omega);obtain⟨row,U⟩:=aM (xs:=su) (k:=v) (by omega);obtain⟨p0,p1⟩:=P.2 pv (Af g2);obtain⟨p,rfl⟩:∃p:Nat,pv=p:=⟨pv.toNat,by omega⟩;have Y:p<=16:=by omega
  have Z:(0:Int)<=v:=by omega
  have vn:(v:Int)<ow.length:=by omega
  have eO:gO ow v=R:=getD_some S;have eR:gO pr v=p:=getD_some g2;have eS:Sf su v=row.map Dc:=by unfold Sf;simp[Ax,U]
  have a1:=V.O01 ho S;have a0:∀u∈row,0<=u/\u<ow.length:=fun u hu=>I0 V hv (by simp[Ax,U];exact hu);have a5:row.length<1000000000000:=B.r row (Af U);have a2:0<row.length:=by
    have:=(UD V hv).1;rw[eS]at this
    cases row with
    | nil=>exact absurd rfl this
    | cons x l=>simp
  refine aF T.h105 (by simp only[PP,simprocAttr,PN,PV.under]) ?_;simp only[af105,PP,simprocAttr,PN];refine kV (fun(k ver:Nat) (y:Ms)=>k<=row.length/\(0<k->y.Ok (aP pr)/\(∃(j:Nat) (u:Int),row[j]? =Jm u/\y.num (aP pr)=vN (aP pr) p (Nf (aP pr) G u.toNat))/\∀(j:Nat) (u:Int),j<k->row[j]? =Jm u->if R=0 then y.num (aP pr)<=vN (aP pr) p (Nf (aP pr) G u.toNat)else vN (aP pr) p (Nf (aP pr) G u.toNat)<=y.num (aP pr)))
    (fun k ver y=>(.aa::slM f o G::p64 v:: .ptr 0 0 0:: .aa:: .aa:: .ptr 1 0 0:: .ptr 2 0 0::p64 k::zj 61))
    (fun k ver y=>[.cells 0 0 [slI f1 o1 .u8 ow,slI f2 o2 .i64 pr,slR f3 o3 f4 o4 .i64 su],.cells 0 0 (msC mz),.cells 0 ver (msC y)]) (fun k _ _=>row.length-k) 0 0 mz ⟨by omega,fun h=>by omega⟩ (by simp only[PW]) rfl ?_
  intro k ver y ⟨a6,O⟩ ih;refine aH (by kernel_rfl) ?_;simp only[PP,simprocAttr,Z,vn,hs,U];refine QIf.intro (fun c=>?_) fun c=>?_
  · have a3:k<row.length:=by omega
    have k0:(0:Int)<=k:=by omega
    have I:=aC (k:=k) (by show _<1000000000000;omega);obtain⟨u,g4⟩:=aM (xs:=row) (k:=k) a3;obtain⟨u0,u1⟩:=a0 u (Af g4);obtain⟨x,g5⟩:=aM (xs:=G) (k:=u.toNat) (by omega);have eN:Nf (aP pr) G u.toNat=x.num (aP pr):=pB g5;have q1:=eY g5;have q2:=qF g5;rw[Q]at q2;simp only[PP,simprocAttr,PN,c,k0,Z,vn,hp,hs,g2,U,g4,u0,u1,Q,q1,q2];refine aGA T P Y (hm.ok x (Af g5)) fun z z1 z2=>?_;simp only[PP,simprocAttr,PN];refine zG T ?_;rw[<-eN]at z2;have take:(0<k->if R=0 then z.num (aP pr)<=y.num (aP pr)else y.num (aP pr)<=z.num (aP pr))->bV tab 0 _ _ _ _ _ _:=fun ht=>
      ih (k+1) (ver+1) z ⟨by omega,fun _=>⟨z1,⟨k,u,g4,z2⟩,fun j w hj hw=>by
        by_cases e:j=k
        · subst e;rw[g4]at hw;cases hw;rw[z2];split<;>exact Ac _
        · have h1:=(O (by omega)).2.2 j w (by omega) hw;have h2:=ht (by omega);split
          · rename_i J;rw[if_pos J]at h1 h2;omega
          · rename_i J;rw[if_neg J]at h1 h2;omega⟩⟩ (by omega)
    have dx:0<k->(if R=0 then y.num (aP pr)<=z.num (aP pr)else z.num (aP pr)<=y.num (aP pr))->bV tab 0 _ _ _ _ _ _:=fun E ht=>
      ih (k+1) ver y ⟨by omega,fun _=>⟨(O E).1,(O E).2.1,fun j w hj hw=>by
        by_cases e:j=k
        · subst e;rw[g4]at hw;cases hw;rw[<-z2];exact ht
        · exact(O E).2.2 j w (by omega) hw⟩⟩ (by omega)
    by_cases kz:(k:Int)=0
    · simp only[PP,simprocAttr,PN,eq_true kz,I];refine aU (GStep.drop (b:=(.aa::slM f o G::p64 v:: .ptr 0 0 0:: .aa:: .aa:: .ptr 1 0 0:: .ptr 2 0 0::p64 ((k+1:Nat):Int)::zj 61)) 3 (Ai _) (by simp) (by simp only[PW]) (by simp only[PP,simprocAttr,PN]) (by simp only[PP,simprocAttr,PN]) rfl) ?_;exact aR (take fun h=>by omega) (by simp only[PW]) rfl
    · have E:0<k:=by omega
      rw[pR z1 (O E).1];rcases a1 with J | J
      · subst J;simp only[PP,simprocAttr,kz,Z,vn,S];refine QIf.intro (fun d=>?_) fun d=>?_
        · have L:=d;rw[tC]at L;simp only[PP,simprocAttr,PN,d,I];refine aU (GStep.drop (b:=(.aa::slM f o G::p64 v:: .ptr 0 0 0:: .aa:: .aa:: .ptr 1 0 0:: .ptr 2 0 0::p64 ((k+1:Nat):Int)::zj 61)) 3 (Ai _) (by simp) (by simp only[PW]) (by simp only[PP,simprocAttr,PN]) (by simp only[PP,simprocAttr,PN]) rfl) ?_;exact aR (take fun h=>by rw[if_pos rfl];omega) (by simp only[PW]) rfl
        · have L:=d;rw[tC]at L;simp only[PP,simprocAttr,d,Z,vn,S,show ¬(0:Int)=1 by decide,I];refine aU (GStep.drop (b:=(.aa::slM f o G::p64 v:: .ptr 0 0 0:: .aa:: .aa:: .ptr 1 0 0:: .ptr 2 0 0::p64 ((k+1:Nat):Int)::zj 61)) 3 (Ai _) (by simp) (by simp only[PW]) (by simp only[PP,simprocAttr,PN]) (by simp only[PP,simprocAttr,PN]) rfl) ?_;exact aR (dx E (by rw[if_pos rfl];omega)) (by simp only[PW]) rfl
      · subst J;simp only[PP,simprocAttr,kz,Z,vn,S,show ¬(1:Int)=0 by decide];refine QIf.intro (fun d=>?_) fun d=>?_
        · have L:=d;rw[iH]at L;simp only[PP,simprocAttr,PN,d,I];refine aU (GStep.drop (b:=(.aa::slM f o G::p64 v:: .ptr 0 0 0:: .aa:: .aa:: .ptr 1 0 0:: .ptr 2 0 0::p64 ((k+1:Nat):Int)::zj 61)) 3 (Ai _) (by simp) (by simp only[PW]) (by simp only[PP,simprocAttr,PN]) (by simp only[PP,simprocAttr,PN]) rfl) ?_;exact aR (take fun h=>by rw[if_neg (by decide)];omega) (by simp only[PW]) rfl
        · have L:=d;rw[iH]at L;simp only[PP,simprocAttr,d,I];refine aU (GStep.drop (b:=(.aa::slM f o G::p64 v:: .ptr 0 0 0:: .aa:: .aa:: .ptr 1 0 0:: .ptr 2 0 0::p64 ((k+1:Nat):Int)::zj 61)) 3 (Ai _) (by simp) (by simp only[PW]) (by simp only[PP,simprocAttr,PN]) (by simp only[PP,simprocAttr,PN]) rfl) ?_;exact aR (dx E (by rw[if_neg (by decide)];omega)) (by simp only[PW]) rfl
  · have a4:k=row.length:=by omega
    subst a4;obtain⟨y1,⟨j,u,hj,y2⟩,y3⟩:=O a2;simp only[PP,simprocAttr,PN,c];refine hk y y1 ?_;unfold gL lN;rw[eO,eR,eS,Ck];by_cases e:R=0
    · rw[if_pos e];refine SF ⟨u.toNat,List.mem_map.2 ⟨u,Af hj,rfl⟩,y2⟩ fun w hw=>?_;obtain⟨a,ha,rfl⟩:=List.mem_map.1 hw;obtain⟨i,hi⟩:=Dj ha;have:=y3 i a (aI hi) hi;rwa [if_pos e]at this
    · rw[if_neg e];refine SG ⟨u.toNat,List.mem_map.2 ⟨u,Af hj,rfl⟩,y2⟩ fun w hw=>?_;obtain⟨a,ha,rfl⟩:=List.mem_map.1 hw;obtain⟨i,hi⟩:=Dj ha;have:=y3 i a (aI hi) hi;rwa [if_neg e]at this
def vQ{R S U Y Z o3 f4 o4 f o:Bool}{ow pr:List Int}{su:List (List Int)}{u:List Ms}(V:Valid ow pr su)(B:Bnd ow pr su)(ho:∀x∈ow,0<=x)(hm:ja (aP pr) ow.length u)
    (I:∀v:Nat,ot ow.length (gL ow pr su) (Nf (aP pr) u) v->K (p64 v) M) (J:pZ ow.length (gL ow pr su) (Nf (aP pr) u)->K (p64 (-1)) M):
    aj tab 104 [gmP R S U Y Z o3 f4 o4 ow pr su,slM f o u] M K:=by
  have y:=hm.l;have n1:=V.n1;refine aF T.h104 (by simp only[PP,simprocAttr,PN,PV.under]) ?_;simp only[af104,PP,simprocAttr];refine dN (fun(k:Nat)=>k<=ow.length/\∀v,v<k->gL ow pr su (Nf (aP pr) u) v<=Nf (aP pr) u v)
    (fun k=>(.aa::slM f o u:: .ptr 0 0 0:: .aa:: .aa::p64 k::zj 17))
    (fun k=>[.cells 0 0 [slI R S .u8 ow,slI U Y .i64 pr,slR Z o3 f4 o4 .i64 su]]) (fun k=>ow.length-k) 0 ⟨by omega,fun v h=>by omega⟩ (by simp only[PW]) rfl ?_
  intro k ⟨a0,L⟩ ih;refine aH (by kernel_rfl) ?_;simp only[PP,simprocAttr,y];refine QIf.intro (fun c=>?_) fun c=>?_
  · have E:k<ow.length:=by omega
    have k0:(0:Int)<=k:=by omega
    have kn:(k:Int)<ow.length:=by omega
    have O:=aC (k:=k) (by show _<1000000000000;omega);obtain⟨x,G⟩:=aM (xs:=u) (k:=k) (by omega);have eN:Nf (aP pr) u k=x.num (aP pr):=pB G;have q1:=eY G;have q2:=qF G;rw[y]at q2;simp only[PP,simprocAttr,c];refine D2 T V B ho hm E fun z z1 z2=>?_;simp only[PP,simprocAttr,PN,k0,kn,y,q1,q2];refine zG T ?_;rw[pR z1 (hm.ok x (Af G))];simp only[PP,simprocAttr];refine QIf.intro (fun d=>?_) fun d=>?_
    · rw[iH]at d;simp only[PP,simprocAttr];exact I k ⟨E,by rw[eN,<-z2];omega,L⟩
    · rw[iH]at d;simp only[PP,simprocAttr,O];refine aE (ih (k+1) ⟨E,fun v hv=>?_⟩ (by omega)) (by simp only[PW]);by_cases e:v=k
      · subst e;rw[eN,<-z2];omega
      · exact L v (by omega)
  · have Q:k=ow.length:=by omega
    subst Q;simp only[PP,simprocAttr,c];exact J L
end
def qa(ow pr:List Int)(su:List (List Int))(u:List Ms)(v:Int)(y:Ms)(e:Int):Prop:=
  (¬bO ow pr su=0/\y=mz/\e=bO ow pr su)\/(bO ow pr su=0/\¬u.length=ow.length/\y=mz/\e=2)\/(bO ow pr su=0/\u.length=ow.length/\¬(∀x∈u,x.Ok (aP pr))/\y=mz/\e=1)\/
  (bO ow pr su=0/\ja (aP pr) ow.length u/\(v<0\/ow.length<=v)/\y=mz/\e=8)\/(bO ow pr su=0/\ja (aP pr) ow.length u/\0<=v/\v<ow.length/\y.Ok (aP pr)/\y.num (aP pr)=gL ow pr su (Nf (aP pr) u) v.toNat/\e=0)
def qa.eq{ow pr:List Int}{su:List (List Int)}{Q:List Ms}{v:Int}{y R:Ms}{e S:Int}(h:qa ow pr su Q v y e)(T:qa ow pr su Q v R S):y=R/\e=S:=by
  rcases h with⟨I,u,E⟩ | ⟨I,u,E,K⟩ | ⟨I,u,E,K,M⟩ | ⟨I,u,E,K,M⟩ | ⟨I,u,E,K,M,U,V⟩<;>
  rcases T with⟨J,B,G⟩ | ⟨J,B,G,L⟩ | ⟨J,B,G,L,O⟩ | ⟨J,B,G,L,O⟩ | ⟨J,B,G,L,O,Y,Z⟩<;>
  first
    | (exact absurd I J)
    | (exact absurd J I)
    | (subst u;subst B;subst E;subst G;exact⟨rfl,rfl⟩)
    | (subst E;subst G;subst K;subst L;exact⟨rfl,rfl⟩)
    | (subst K;subst L;subst M;subst O;exact⟨rfl,rfl⟩)
    | (exact absurd B u)
    | (exact absurd u B)
    | (exact absurd B.l u)
    | (exact absurd u.l B)
    | (exact absurd B.ok E)
    | (exact absurd u.ok G)
    | (exfalso;omega)
    | exact⟨Ms.inj M O (U.trans Y.symm),V.trans Z.symm⟩
section
variable {tab:Tb} (T:HasA tab){M:Mem}{K:Kp}
include T
def PG{f o:Bool}{u:List Ms}{fn:FuncId}{B:List PV}(p:Ms->Bool)(hb:u.length<1000000000000)
    (hf:∀x∈u,∀L:Kp,L (.bool (p x)) M->aj tab fn (.agg (msC x)::B) M L) (O:∀i:Int,(0<=i↔∃x∈u,p x=Jo)->K (p64 i) M):
    aj tab 270 [slM f o u,.func (.func fn) [] B] M K:=by
  refine aT T.h270 ?_;simp only[af270,PP,simprocAttr];refine dN (fun(k:Nat)=>k<=u.length/\∀(j:Nat) (x:Ms),j<k->u[j]? =Jm x->p x=Jp) (fun k=>(slM f o u:: .func (.func fn) [] B::zj 5++p64 u.length::p64 k::zj 10)) (fun k=>M) (fun k=>u.length-k) 0 ⟨by omega,fun j x h=>by omega⟩ (by simp only[PW]) rfl ?_;intro k ⟨S,Q⟩ U;refine aH (by kernel_rfl) ?_;simp only[PP,simprocAttr];refine QIf.intro (fun c=>?_) fun c=>?_
  · have E:k<u.length:=by omega
    have h0:(0:Int)<=k:=by omega
    have hw:=aC (k:=k) (by show _<1000000000000;omega);obtain⟨x,e⟩:=aM E;have V:=eY e;have Y:=qF e;simp only[PP,simprocAttr,PN,c,h0,V,Y];refine hf x (Af e) _ ?_
    cases R:p x with
    | true=>simp only[PP,simprocAttr];exact O k ⟨fun _=>⟨x,Af e,R⟩,fun _=>h0⟩
    | false=>
      simp only[PP,simprocAttr,hw];refine aE (U (k+1) ⟨by omega,fun j y G I=>?_⟩ (by omega)) (by simp only[PW]);by_cases Z:j=k
      · subst Z;rw[e]at I;cases I;exact R
      · exact Q j y (by omega) I
  · have J:k=u.length:=by omega
    subst J;simp only[PP,simprocAttr,c];refine O (-1) ⟨fun h=>absurd h (by decide),fun⟨x,hx,h⟩=>?_⟩;obtain⟨j,G⟩:=Dj hx;rw[Q j x (aI G) G]at h;cases h
open Classical in
set_option maxHeartbeats 1000000 in
def aH7{Y Z f2 o2 f3 o3 f4 o4 f o:Bool}{ow pr:List Int}{su:List (List Int)}{E:List Ms}{v:Int}(B:Bnd ow pr su)(hb:E.length<1000000000000)
    (G:∀y e,qa ow pr su E v y e->K (.tuple [.agg (msC y),p64 e]) M):
    aj tab 266 [gmP Y Z f2 o2 f3 o3 f4 o4 ow pr su,slM f o E,p64 v] M K:=by
  refine aF T.h266 (by simp only[PP,simprocAttr,PN,PV.under]) ?_;simp only[af266,PP,simprocAttr,PN];refine HN T B ?_;simp only[PP,simprocAttr];refine QIf.intro (fun u=>?_) fun u=>?_;rotate_left
  · simp only[PP,simprocAttr,PN,u];exact G mz _ (.inl ⟨u,rfl,rfl⟩)
  have V:=eU u;have P:=n7 V;simp only[PP,simprocAttr,u];refine vZ T P ?_;simp only[PP,simprocAttr,PN];refine QIf.intro (fun L=>?_) fun L=>?_;rotate_left
  · simp only[PP,simprocAttr,PN,L];exact G mz 2 (.inr (.inl ⟨u,fun h=>L (by omega),rfl,rfl⟩))
  have hl:E.length=ow.length:=by omega
  simp only[PP,simprocAttr,L];refine aT T.h267 ?_;simp only[af267,PP,simprocAttr];refine PG T (fun x=>decide ¬x.Ok (aP pr)) hb (fun x O K' U=>?_) fun i hi=>?_
  · refine mR ?_;refine aT T.h268 ?_;simp only[af268,PP,simprocAttr,PN];refine aDo T P.1 fun b hb=>?_;simp only[PP,simprocAttr];refine⟨_,_,rfl,g8 (by simp only[Co,Es,aG,aO,aW,eJ,gS,xO,PV.under,sC,Dp]),?_⟩;have e:(!b)=decide (¬x.Ok (aP pr)):=by
      cases b with
      | true=>have h:=hb.1 rfl;simp[h]
      | false => have h : ¬ x.Ok (aP pr) := fun q => (by have := hb.2 q; cases this)
                 simp [h]
    rw[e];exact U
  · simp only[PP,simprocAttr];have I:0<=i↔¬∀x∈E,x.Ok (aP pr):=by
      rw[hi];constructor
      · rintro⟨x,O,h⟩ q;exact(of_decide_eq_true h) (q x O)
      · intro q;apply Cb;intro h;exact q fun x O=>Cb fun h2=>h ⟨x,O,decide_eq_true h2⟩
    refine QIf.intro (fun J=>?_) fun J=>?_
    · simp only[PP,simprocAttr,PN,J];exact G mz 1 (.inr (.inr (.inl ⟨u,hl,I.1 J,rfl,rfl⟩)))
    have S:ja (aP pr) ow.length E:=⟨hl,Cb fun h=>J (I.2 h)⟩;simp only[PP,simprocAttr,J];refine QIf.intro (fun Q=>?_) fun Q=>?_
    · simp only[PP,simprocAttr,PN,Q];exact G mz 8 (.inr (.inr (.inr (.inl ⟨u,S,.inl Q,rfl,rfl⟩))))
    simp only[PP,simprocAttr,Q,hl];refine QIf.intro (fun R=>?_) fun R=>?_
    · simp only[PP,simprocAttr,PN,R];exact G mz 8 (.inr (.inr (.inr (.inl ⟨u,S,.inr R,rfl,rfl⟩))))
    obtain⟨w,rfl⟩:∃w:Nat,v=w:=⟨v.toNat,by omega⟩;simp only[PP,simprocAttr,R];refine aAZ T V B S (by omega) fun y y1 y2=>?_;simp only[PP,simprocAttr,PN];exact G y 0 (.inr (.inr (.inr (.inr ⟨u,S,by omega,by omega,y1,y2,rfl⟩))))
end
def Q7{u:Tb}(id:Nat)(first args:List PV)(M:Mem)(K:Kp):CG u (.yld id first) args M K=((∃ver r,M[id]? =Jm (.loop ver r))/\Q0 u id (first++args) M K):=rfl
def aBD{α:Type}(M:List α)(x:α):(M++[x])[M.length]? =Jm x:=by simp
def aGv{α:Type}(M:List α)(x y:α):(M++[x]).set M.length y=M++[y]:=by simp
def cE{α:Type}{M:List α}{i:Nat}{a:α}(h:M[i]? =Jm a)(l:List α):(M++l)[i]? =Jm a:=by rw[Bj (aI h)];exact h
section
variable {tab:Tb} (T:HasA tab){M:Mem}{K:Kp}
include T
set_option maxHeartbeats 1000000 in
def aE8{f1 o1 f2 o2 f3 o3 f4 o4:Bool}{ow pr:List Int}{su:List (List Int)}{L U Y i:Nat}(V:Valid ow pr su)(B:Bnd ow pr su)(J:Nat->List Ms->Mem->Prop)(D:Mem->Prop){ms0:List Ms}(h0:J 0 ms0 M)
    (hid:∀k u N,J k u N->ja (aP pr) ow.length u/\N[Y]? =Jm (.cells 0 0 [.ref i 0 9 0 ow.length])/\N[U]? =Jm (.cells 0 0 [.cp (jS f1 o1 f2 o2 f3 o3 f4 o4 ow pr su) 0])/\(∃ver,N[i]? =Jm (.cells 0 ver (msL u)))/\∃ver r,N[L]? =Jm (.loop ver r))
    (G:∀k u N o,J k u N->k<ow.length->gL ow pr su (Nf (aP pr) u) k<=Nf (aP pr) u k->J (k+1) u (N++[o]))
    (hy:∀k u N y,J k u N->k<ow.length->y.Ok (aP pr)->y.num (aP pr)=gL ow pr su (Nf (aP pr) u) k->Nf (aP pr) u k<gL ow pr su (Nf (aP pr) u) k->∀Z:Kp,(∀I E,J (k+1) I E->Z (.bool Jo) E)->(∀E,D E->Z (.bool Jp) E)->Q0 tab L [p64 k,.agg (msC y)] (N++[.cells 0 1 (msC y)]) Z)
    (a0:∀u N,J ow.length u N->K (.tuple []) N) (a1:∀N,D N->K (.tuple []) N):
    aj tab 189 [.yld L [],.ptr Y 0 0,.ptr U 0 0] M K:=by
  have n1:=V.n1;refine aT T.h189 ?_;obtain⟨_,p1,_,⟨_,p3⟩,_⟩:=hid 0 ms0 M h0;simp only[af189,PP,simprocAttr,p1,p3];refine kV (fun(k:Nat) (u:List Ms) (N:Mem)=>k<=ow.length/\J k u N) (fun k u N=>(.yld L []:: .ptr Y 0 0:: .ptr U 0 0::zj 4++p64 ow.length::p64 k::zj 21)) (fun k u N=>N) (fun k _ _=>ow.length-k) 0 ms0 M ⟨by omega,h0⟩ (by simp only[PW]) rfl ?_;intro k u N ⟨a6,R⟩ ih;obtain⟨hm,q1,q2,⟨ver,q3⟩,q4⟩:=hid k u N R;have a2:=hm.l;refine aH (by kernel_rfl) ?_;simp only[PP,simprocAttr];refine QIf.intro (fun c=>?_) fun c=>?_
  · have O:k<ow.length:=by omega
    have k0:(0:Int)<=k:=by omega
    have kn:(k:Int)<ow.length:=by omega
    have Q:=aC (k:=k) (by show _<1000000000000;omega);obtain⟨x,S⟩:=aM (xs:=u) (k:=k) (by omega);have eN:Nf (aP pr) u k=x.num (aP pr):=pB S;have hx:=hm.ok x (Af S);have r1:=eY S;have r2:=qF S;have a3:jk N [.cp (jS f1 o1 f2 o2 f3 o3 f4 o4 ow pr su) 0,.ref i 0 9 0 ow.length,p64 k] [.cp (jS f1 o1 f2 o2 f3 o3 f4 o4 ow pr su) 0,slM Jo Jp u,p64 k]:=by
      refine .same (by simp only[PV.under];exact sC _) ?_;rw[<-a2];exact .ref q3 (by rw[jV];omega) (dE _ _) (by rw[f6]) (.same rfl .nil)
    simp only[PP,simprocAttr,c,q1,q2];refine iL a3 (aAZ T V B hm O fun y y1 y2=>⟨by simp only[PV.flat,PV.nd,oO],?_⟩);simp only[PP,simprocAttr,PN,aBD,aGv,cE q1,cE q3,k0,kn,r1,r2];refine mL T ?_;rw[pR y1 hx];simp only[PP,simprocAttr];refine QIf.intro (fun d=>?_) fun d=>?_
    · have d':=d;rw[iH]at d';simp only[PP,simprocAttr,PN,d,aBD,Q7];refine⟨⟨_,_,cE q4.choose_spec.choose_spec _⟩,hy k u N y R O y1 y2 (by rw[eN];have:=y2;omega) _ (fun I E a4=>?_) fun E hD=>?_⟩
      · simp only[PP,simprocAttr,Q];exact aE (ih (k+1) I E ⟨by omega,a4⟩ (by omega)) (by simp only[PW])
      · simp only[PP,simprocAttr];exact a1 E hD
    · have d':=d;rw[iH]at d';simp only[PP,simprocAttr,d,Q];exact aE (ih (k+1) u _ ⟨by omega,G k u N _ R O (by rw[eN];have:=y2;omega)⟩ (by omega)) (by simp only[PW])
  · have a5:k=ow.length:=by omega
    subst a5;simp only[PP,simprocAttr,c];exact a0 u N R
end
section
variable {α:Type} (M:List α) (x y:α) (l:List α) (i j:Nat)
def CY:(M++l)[M.length+j]? =l[j]? :=by rw[Bx (by omega)];congr 1;omega
def LP:(M++l)[M.length]? =l[0]? :=by rw[Bx (by omega)];congr 1;omega
def qd:(M++l).set (M.length+j) y=M++l.set j y:=by rw[Dk _ _ (by omega)];congr 2;omega
def ZK:(M++l).set M.length y=M++l.set 0 y:=by rw[Dk _ _ (by omega)];congr 2;omega
def aEN:(M.set i x++l)[M.length+j]? =l[j]? :=by rw[Bx (by simp)];congr 1;simp
def aF9:(M.set i x++l)[M.length]? =l[0]? :=by rw[Bx (by simp)];congr 1;simp
def aGt:(M.set i x++l).set (M.length+j) y=M.set i x++l.set j y:=by rw[Dk _ _ (by simp)];congr 2;simp
def aFZ:(M.set i x++l).set M.length y=M.set i x++l.set 0 y:=by rw[Dk _ _ (by simp)];congr 2;simp
def aDz{M:List α}{i:Nat}{a:α}(h:M[i]? =Jm a)(l:List α)(x:α):(M++l).set i x=M.set i x++l:=by rw[List.set_append_left _ _ (aI h)]
end
def aE0{n i:Nat}{M:Mem}{x:cm}(h:M.all (aG n)=Jo)(u:aG n x=Jo):(M.set i x).all (aG n)=Jo:=by
  rw[Cf]at h ⊢;intro y B;rcases List.mem_or_eq_of_mem_set B with q | q
  · exact h y q
  · subst q;exact u
section
variable {tab:Tb} (T:HasA tab){M:Mem}{K:Kp}
include T
set_option maxHeartbeats 2000000 in
def ZC{O Q R S U Y f4 Z:Bool}{ow pr:List Int}{su:List (List Int)}{I:List Ms}{i ver:Nat}(V:Valid ow pr su)(B:Bnd ow pr su)(hm:ja (aP pr) ow.length I)
    (hi:M[i]? =Jm (.cells 0 ver (msL I))) (hc:M.all (aG M.length)=Jo)
    (a2:∀v y,ot ow.length (gL ow pr su) (Nf (aP pr) I) v->y.Ok (aP pr)->y.num (aP pr)=gL ow pr su (Nf (aP pr) I) v->K (.bool Jo) (M.set i (.cells 0 (ver+1) (msL (I.set v y)))))
    (a3:pZ ow.length (gL ow pr su) (Nf (aP pr) I)->K (.bool Jp) M):
    aj tab 191 [.cp (jS O Q R S U Y f4 Z ow pr su) 0,.ref i 0 9 0 ow.length] M K:=by
  have a4:=hm.l;have a7:=aI hi;have J:=fun l=>cE hi l;have a0:=fun l x=>aDz hi l x;refine mR ?_;refine aT T.h191 ?_;simp only[af191,PP,simprocAttr,Ab,LP];refine aT T.h152 ?_;simp only[af152,PP,simprocAttr,PN,Ab];refine o9 rfl fun L h1 h2 h3 h4 h5 h6=>?_;simp only[PP,simprocAttr,Ab];refine aE8 T (f1:=O) (o1:=Q) (f2:=R) (o2:=S) (f3:=U) (o3:=Y) (f4:=f4) (o4:=Z) V B (fun k E N=>E=I/\(∀u,u<k->gL ow pr su (Nf (aP pr) I) u<=Nf (aP pr) I u)/\∃G,N=M++(.cells 0 0 [.ref i 0 9 0 ow.length]:: .cells 0 0 [.bool Jp]:: .cells 0 0 [.cp (jS O Q R S U Y f4 Z ow pr su) 0]:: .cells 0 0 [.ref i 0 9 0 ow.length]:: .loop 0 L::G))
    (fun N=>∃v y G vb vl,ot ow.length (gL ow pr su) (Nf (aP pr) I) v/\y.Ok (aP pr)/\y.num (aP pr)=gL ow pr su (Nf (aP pr) I) v/\N=M.set i (.cells 0 (ver+1) (msL (I.set v y)))++(.cells 0 0 [.ref i 0 9 0 ow.length]:: .cells 0 vb [.bool Jo]:: .cells 0 0 [.cp (jS O Q R S U Y f4 Z ow pr su) 0]:: .cells 0 0 [.ref i 0 9 0 ow.length]:: .loop vl {L with state:= .done,pending:=Jm .ret} ::G))
    (i:=i) (ms0:=I) ⟨rfl,fun u h=>by omega,[],rfl⟩ ?_ ?_ ?_ ?_ ?_
  · rintro k E N ⟨rfl,_,G,rfl⟩;exact⟨hm,by rw[CY];rfl,by rw[CY];rfl,⟨ver,J _⟩,⟨0,L,by rw[CY];rfl⟩⟩
  · rintro k E N o ⟨rfl,q,G,rfl⟩ hk a5;refine⟨rfl,fun u hu=>?_,G++[o],by simp only[Ab,Al]⟩;by_cases e:u=k
    · subst e;exact a5
    · exact q u (by omega)
  · rintro k E N y ⟨rfl,q,G,rfl⟩ hk y1 y2 y3 K' b0 a6;have k0:(0:Int)<=k:=by omega
    have kn:(k:Int)<ow.length:=by omega
    have kl:k<E.length:=by omega
    have k9:k*9+9<=ow.length*9:=by omega
    have a1:=uC (l:=E) y kl;simp only[Ab,Al];refine CC (ver:=0) (r:=L) (by rw[CY];rfl) (by rw[h4];rfl) ?_;rw[h3,h4,h5];refine aB ?_;simp only[lD,PP,simprocAttr,PN,Ab,CY,qd];refine⟨0,L,rfl,h1,?_⟩;rw[h6];refine aB ?_;simp only[PP,simprocAttr,PN,CY,LP,aEN,aGt,J,a0,k0,kn,k9,a4,a1];refine⟨1,{L with state:= .busy},by rw[aEN];simp only[Cl,Gy,h6],?_⟩;rw[if_neg (by intro h;cases h)];refine a6 _ ⟨k,y,G++[.cells 0 1 (msC y),.cells 0 1 (msC y)],1,2,⟨hk,y3,q⟩,y1,y2,?_⟩;simp only[aGt,List.set_cons_succ,De,h6]
  · rintro E N ⟨rfl,q,G,rfl⟩;refine⟨0,L,by rw[CY];rfl,by rw[h1];exact(by intro h;cases h),?_⟩;rw[h2];simp only[PP,simprocAttr,CY,qd];refine⟨_,M,rfl,?_,a3 q⟩;rw[Bb rfl];exact g8 hc
  · rintro N ⟨v,y,G,vb,vl,q1,q2,q3,rfl⟩;refine⟨vl,{L with state:= .done,pending:=Jm .ret},by rw[aEN];rfl,(by intro h;cases h),?_⟩;simp only[PP,simprocAttr,aEN,aGt];refine⟨_,M.set i (.cells 0 (ver+1) (msL (I.set v y))),rfl,?_,a2 v y q1 q2 q3⟩;rw[Bb (by simp)];exact g8 (aE0 hc (dE _ _))
end
def RN{u:List Nat}{B:List Ms}{k:Nat}{y:Ms}(E:k<B.length):Nf u (B.set k y)=lV (Nf u B) k (y.num u):=by
  funext v;unfold Nf lV;simp only[Ax];by_cases e:v=k
  · subst e;rw[Cj E,if_pos rfl];rfl
  · rw[Bo (by omega),if_neg e]
def UK(u:List Nat)(n:Nat):Nf u (Ah n mz)=fun _=>0:=by
  funext v;unfold Nf;rw[Ax,List.getElem?_replicate];split
  · exact aAF
  · exact aAF
def ja.set{ns:List Nat}{n k:Nat}{ms:List Ms}{y:Ms}(h:ja ns n ms)(u:y.Ok ns):ja ns n (ms.set k y):=
  ⟨by rw[List.length_set];exact h.l,fun x B=>by
    rcases List.mem_or_eq_of_mem_set B with q | q
    · exact h.ok x q
    · subst q;exact u⟩
def ja.zero{ns:List Nat}(u:ns.length=8)(n:Nat):ja ns n (Ah n mz):=⟨by simp,fun x y=>by rw[List.eq_of_mem_replicate y];exact aIq u⟩
def ja.bnd{ns:List Nat}{n:Nat}{ms:List Ms}(h:ja ns n ms):∀v,v<n->Nf ns ms v<=mT ns:=fun v hv=>by obtain⟨x,g⟩:=aM (xs:=ms) (k:=v) (by rw[h.l];exact hv);rw[pB g];exact Ms.ri (h.ok x (Af g))
def ja.eq{ns:List Nat}{n:Nat}{a b:List Ms}(u:ja ns n a)(hb:ja ns n b)(h:∀v,v<n->Nf ns a v=Nf ns b v):a=b:=by
  apply Ej;intro v;by_cases hv:v<n
  · obtain⟨x,B⟩:=aM (xs:=a) (k:=v) (by rw[u.l];exact hv);obtain⟨y,E⟩:=aM (xs:=b) (k:=v) (by rw[hb.l];exact hv);have:=h v hv;rw[pB B,pB E]at this;rw[B,E,Ms.inj (u.ok x (Af B)) (hb.ok y (Af E)) this]
  · rw[Bk (by rw[u.l];omega),Bk (by rw[hb.l];omega)]
def tK{ow pr:List Int}{su:List (List Int)}(V:Valid ow pr su):Lft ow.length (mT (aP pr)) (gL ow pr su):=aG2 fun v hv=>⟨(UD V hv).1,(UD V hv).2.1⟩
section
variable {tab:Tb} (T:HasA tab){M:Mem}{K:Kp}
include T
end
end Go.Am.Ar
--P14
namespace Go.Am.Ar
open Go.Am.PV renaming aa->Zj
open Go.Am renaming jj->P1,mj->P2,ls->P3,fe->P4,cm.under->P5,ig->P6,du->P7,ct->P8,pev->P9,ji->P10,bd->P11,ll->P12,dv->P13,cK->P14,AO.effect->P15
open List renaming replicate->L1
def CJ(ow pr:List Int)(su:List (List Int))(k:Int)(u:List Ms)(b:Bool)(e:Int):Prop:=
  (¬bO ow pr su=0/\u=[]/\b=Jp/\e=bO ow pr su)\/(bO ow pr su=0/\k<0/\u=[]/\b=Jp/\e=1)\/
  (bO ow pr su=0/\0<=k/\ja (aP pr) ow.length u/\Nf (aP pr) u=itN ow.length (gL ow pr su) k.toNat/\(b=Jo↔pZ ow.length (gL ow pr su) (Nf (aP pr) u))/\e=0)
def LQ{g v n:Nat}{u:List Ms}(h:u.length=n):sV (Jm (.cells g v (msL u))) g 9 0 n=Jm (slM Jp Jo u):=by subst h;rw[dO (by rw[jV];omega) (dE _ _),f6]
section
variable {tab:Tb} (T:HasA tab){M:Mem}{K:Kp}
include T
end
end Go.Am.Ar
--P14
namespace Go.Am.Ar
open Go.Am.PV renaming aa->Zj
open Go.Am renaming jj->P1,mj->P2,ls->P3,fe->P4,cm.under->P5,ig->P6,du->P7,ct->P8,pev->P9,ji->P10,bd->P11,ll->P12,dv->P13,cK->P14,AO.effect->P15
open List renaming replicate->L1
section
variable {tab:Tb} (T:HasA tab){M:Mem}{K:Kp}
include T
set_option maxHeartbeats 1000000 in
def aCl{K:Kp}{I J L O Q R f4 S:Bool}{ow pr:List Int}{su:List (List Int)}{n:Int}(B:Bnd ow pr su)(hn:n<=9223372036854775807)
    (Y:bO ow pr su=0) (c2:¬n<0)
    (hk:∀u b v X,CJ ow pr su n u b 0->K (.tuple [.ref 1 0 9 0 ow.length,.bool b,p64 0]) [X,.cells 0 v (msL u)]):
    aj tab 159 [gmP I J L O Q R f4 S ow pr su,p64 n] [] K:=by
  refine dI (cA T.h159 ?_);simp only[af159];refine aA (aB ?_);simp only[PP,simprocAttr];refine aA (aB ?_);simp only[PP,simprocAttr];refine HN T B ?_;simp only[PP,simprocAttr];refine QIf.intro (fun Z=>?_) fun Z=>?_;rotate_left
  · exact absurd Y Z
  have V:=eU Y;have n0:=V.n0;have n1:=V.n1;have hL:=tK V;have b0:(0:Int)<=ow.length:=by omega
  have a1:(ow.length:Int)*72<=140737488355328:=by omega
  have b2:(ow.length:Int)<=9223372036854775807:=by omega
  simp only[PP,simprocAttr,Y];refine aA (aB ?_);simp only[PP,simprocAttr];refine QIf.intro (fun G=>?_) fun G=>?_
  · exact absurd G c2
  simp only[PP,simprocAttr,c2];refine aA (aB ?_);simp only[PP,simprocAttr];refine vZ T (n7 V) ?_;simp only[PP,simprocAttr];refine aA (aB ?_);simp only[PP,simprocAttr,PN,b0,a1,b2,Cq];refine aA (fC (Qn:=fun b N=>∃ver u,ja (aP pr) ow.length u/\Nf (aP pr) u=itN ow.length (gL ow pr su) n.toNat/\dh b (zj 4++ .ref 1 0 9 0 ow.length::zj 3++ .cp (jS I J L O Q R f4 S ow pr su) 0::zj 27)/\N=[.cells 0 0 [slI I J .u8 ow,slI L O .i64 pr,slR Q R f4 S .i64 su],.cells 0 ver (msL u)]) ?_ ?_ (fun _ _ h=>h) fun _ _ _ h=>h)
  · refine aA (aB ?_);simp only[PP,simprocAttr];refine gP ?_;have k0:0<=n:=by omega
    refine kV (fun(j ver:Nat) (u:List Ms)=>(j:Int)<=n/\ja (aP pr) ow.length u/\Nf (aP pr) u=itN ow.length (gL ow pr su) j)
      (fun j ver u=>(zj 4++ .ref 1 0 9 0 ow.length::zj 3++ .cp (jS I J L O Q R f4 S ow pr su) 0::zj 13++p64 n::p64 j::zj 12))
      (fun j ver u=>[.cells 0 0 [slI I J .u8 ow,slI L O .i64 pr,slR Q R f4 S .i64 su],.cells 0 ver (msL u)]) (fun j _ _=>n.toNat-j) 0 0 (Ah ow.length mz) ⟨k0,ja.zero (iF pr) _,UK _ _⟩ (by simp only[PW]) rfl ?_
    intro j ver u ⟨a7,E,U⟩ ih;refine aH (by kernel_rfl) ?_;simp only[PP,simprocAttr];refine QIf.intro (fun c=>?_) fun c=>?_
    · have a2:IntKind.i64.wrap ((j:Int)+1)=((j+1:Nat):Int):=by rw[wrap64 (x:=(j:Int)+1) (by omega) (by omega)];omega
      simp only[PP,simprocAttr,c];refine ZC T V B E rfl (by simp only[Co,Es,aG,eJ,gS,e8,lW,dE,Dp]) (fun v y q1 q2 q3=>?_) fun q=>?_
      · have hv:v<u.length:=by rw[E.l];exact q1.1
        simp only[PP,simprocAttr,a2];refine aE (ih (j+1) (ver+1) (u.set v y) ⟨by omega,E.set q2,?_⟩ (by omega)) (by simp only[PW]);show _=qP ow.length (gL ow pr su) (itN ow.length (gL ow pr su) j);rw[RN hv,q3,U,pG (by rw[<-U];exact q1)]
      · simp only[PP,simprocAttr];refine⟨ver,u,E,?_,(by simp only[PW]),rfl⟩;rw[U]at q ⊢;obtain⟨d,hd⟩:∃d,n.toNat=j+d:=⟨n.toNat-j,by omega⟩;rw[hd,G9 q]
    · have a3:n=(j:Int):=by omega
      subst a3;simp only[PP,simprocAttr,c];exact⟨ver,u,E,U,(by simp only[PW]),rfl⟩
  · rintro b N ⟨ver,u,E,U,hw,rfl⟩;refine aE ?_ hw;refine aB ?_;simp only[PP,simprocAttr];refine aT T.h60 ?_;have a4:¬ow.length=0:=by omega
    have a5:ow.length*72<=140737488355328:=by omega
    have G:ow.length<=9223372036854775807:=by omega
    have a6:aY (msL u) 0 (ow.length*9)=msL u:=by rw[<-E.l];exact f6 u
    have a0:ow.length*9<=u.length*9:=by rw[E.l];omega
    simp only[af60,PP,P14,simprocAttr,PN,a4,a5,G,a6,a0];refine ZC T V B E rfl (by simp only[Co,Es,aG,eJ,gS,e8,lW,dE,Dp]) (fun v y q1 q2 q3=>?_) fun q=>?_
    · simp only[PP,simprocAttr];refine Gh.step (GStep.im (b:=[.tuple [.ref 1 0 9 0 ow.length,.bool Jp,p64 0]]) (N:=[.cells 0 0 [slI I J .u8 ow,slI L O .i64 pr,slR Q R f4 S .i64 su],.cells 0 ver (msL u)]) 2 (Ai _) (by simp) (by simp only[PW]) (by simp[aD,PV.under]) ?_ rfl) (Gh.same ⟨_,rfl,hk u Jp ver _ (.inr (.inr ⟨Y,by omega,E,U,⟨fun h=>(by cases h),fun h=>?_⟩,rfl⟩))⟩)
      · simp[aG,aD,PV.under,aO,aW,dE]
      · have:=h v q1.1;have:=q1.2.1;omega
    · simp only[PP,simprocAttr];refine Gh.step (GStep.im (b:=[.tuple [.ref 1 0 9 0 ow.length,.bool Jo,p64 0]]) (N:=[.cells 0 0 [slI I J .u8 ow,slI L O .i64 pr,slR Q R f4 S .i64 su],.cells 0 ver (msL u)]) 2 (Ai _) (by simp) (by simp only[PW]) (by simp[aD,PV.under]) ?_ rfl) (Gh.same ⟨_,rfl,hk u Jo ver _ (.inr (.inr ⟨Y,by omega,E,U,⟨fun _=>q,fun _=>rfl⟩,rfl⟩))⟩)
      · simp[aG,aD,PV.under,aO,aW,dE]
end
def dgT(n:Nat):List UInt8:=(mI n).data.toList
def TW:((Aw 100).all fun a=>(dgT a).all (fun b=> !(b==32))&&decide ((dgT a).length<=2))=Jo:=by decide+kernel
def HL{n:Nat}(h:n<100):∀b∈dgT n,b≠32:=fun b hb=>by have:=(List.all_eq_true.1 TW) n (List.mem_range.2 h);simp only[Au]at this;have:=(List.all_eq_true.1 this.1) b hb;simpa using this
def x8{n:Nat}(h:n<100):(dgT n).length<=2:=by have:=(List.all_eq_true.1 TW) n (List.mem_range.2 h);simp only[Au,decide_eq_true_eq]at this;exact this.2
def TV{a b:Nat}(u:a<100)(hb:b<100)(h:dgT a=dgT b):a=b:=by refine aBw u hb ?_;apply Fs;apply Ch;exact h
def eE(r:List Int):List UInt8:=r.flatMap fun x=>32::dgT x.toNat
def CV:List Int->List UInt8
  | []=>[]
  | c::r=>dgT c.toNat++eE r
def NH(r:List Int)(x:Int):eE (r++[x])=eE r++32::dgT x.toNat:=by simp[eE]
def U1{r:List Int}(h:∀x∈r,0<=x/\x<100):(eE r).length<=3*r.length:=by
  induction r with
  | nil=>simp[eE]
  | cons x r u=>have h1:=x8 (n:=x.toNat) (by have:=h x (by simp);omega);have h2:=u fun y B=>h y (by simp[B]);unfold eE at h2 ⊢;simp only[Cd,An,As];omega
def FX:∀{u v:List UInt8} {r s:List Int},(∀b∈u,b≠32)->(∀b∈v,b≠32)->u++eE r=v++eE s->u=v/\eE r=eE s
  | [],[],r,s,_,_,h=>⟨rfl,h⟩
  | [],b::v,r,s,_,hv,h=>by
    cases r with
    | nil=>simp[eE]at h
    | cons x r=>simp only[eE,Cd,Aq,Al,List.cons.injEq]at h;exact absurd h.1.symm (hv b (by simp))
  | b::u,[],r,s,y,_,h=>by
    cases s with
    | nil=>simp[eE]at h
    | cons x s=>simp only[eE,Cd,Aq,Al,List.cons.injEq]at h;exact absurd h.1 (y b (by simp))
  | b::u,c::v,r,s,y,hv,h=>by simp only[Al,List.cons.injEq]at h;obtain⟨h1,h2⟩:=FX (fun x B=>y x (by simp[B])) (fun x B=>hv x (by simp[B])) h.2;exact⟨by rw[h.1,h1],h2⟩
def DJ:∀{r s:List Int},(∀x∈r,0<=x/\x<100)->(∀x∈s,0<=x/\x<100)->eE r=eE s->r=s
  | [],[],_,_,_=>rfl
  | [],x::s,_,_,h=>by simp[eE]at h
  | x::r,[],_,_,h=>by simp[eE]at h
  | x::r,y::s,hr,hs,h=>by have u:=hr x (by simp);have B:=hs y (by simp);have h:(32::dgT x.toNat)++eE r=(32::dgT y.toNat)++eE s:=h;simp only[Al,List.cons.injEq,true_and]at h;obtain⟨h1,h2⟩:=FX (HL (by omega)) (HL (by omega)) h;have e:=TV (by omega) (by omega) h1;rw[show x=y by omega,DJ (fun z hz=>hr z (by simp[hz])) (fun z hz=>hs z (by simp[hz])) h2]
def UL(l:List Int):Prop:=l≠[]/\∀x∈l,0<=x/\x<100
def K8(l:List Int):ByteArray:=⟨(CV l).toArray⟩
def aBc:∀{a b:List Int},UL a->UL b->K8 a=K8 b->a=b
  | [],_,h,_,_=>absurd rfl h.1
  | _::_,[],_,h,_=>absurd rfl h.1
  | x::r,y::s,u,hb,h=>by
    have h:dgT x.toNat++eE r=dgT y.toNat++eE s:=by have:=congrArg (fun q:ByteArray=>q.data.toList) h;simpa [K8,CV]using this
    have B:=u.2 x (by simp);have E:=hb.2 y (by simp);obtain⟨h1,h2⟩:=FX (HL (by omega)) (HL (by omega)) h;have e:=TV (by omega) (by omega) h1;rw[show x=y by omega,DJ (fun z hz=>u.2 z (by simp[hz])) (fun z hz=>hb.2 z (by simp[hz])) h2]
def bU(nx:List (List Int))(c:List Int)(s:Nat):List Int:=c.getD s 0::((nx[s]?).getD []).map fun t=>c.getD t.toNat 0
def rfN(nx:List (List Int))(c:List Int):List Int:=kN (fun _ y=>bU nx c y) ([]:List Int) [] nx.length
def jJ(D:DF):List Int:=(Aw D.nx.length).map fun s=>if(D.fi.getD s Jp)=(D.fi.getD 0 Jp)then 0 else 1
def aS(D:DF):Nat->List Int
  | 0=>jJ D
  | k+1=>rfN D.nx (aS D k)
def sK(nx:List (List Int))(c:List Int):(rfN nx c).length=nx.length:=gK ..
def b9(D:DF):∀k,(aS D k).length=D.nx.length
  | 0=>by simp[aS,jJ]
  | k+1=>sK ..
def aDA{α:Type} [DecidableEq α](δ:α->Nat->α)(a:α)(n:Nat):∀x∈kN δ a [] n,0<=x/\x<n:=fun x B=>by unfold kN at B;obtain⟨y,u,rfl⟩:=List.mem_map.1 B;have u:=List.mem_range.1 u;have hm:δ a y∈cI δ a n []:=(kU _ _ _ _ _).2 (.inr ⟨y,u,rfl⟩);have h1:=List.idxOf_lt_length_of_mem hm;have h2:=qZ δ a [] n;have h3:=kX δ a [] n;rw[Aq]at h3;rw[h3]at h1 ⊢;omega
def aGD(nx:List (List Int))(c:List Int):∀x∈rfN nx c,0<=x/\x<nx.length:=fun x u=>aDA _ _ _ x u
def aDC{D:DF}(h:D.nx.length<=99):∀k,∀x∈aS D k,0<=x/\x<100
  | 0,x,u=>by unfold aS jJ at u;obtain⟨y,B,rfl⟩:=List.mem_map.1 u;split<;>omega
  | k+1,x,u=>by have:=aGD _ _ x u;omega
def pH{D:DF}{k:Nat}(h:aS D (k+1)=aS D k):∀j,aS D (k+j)=aS D k
  | 0=>rfl
  | j+1=>by show rfN D.nx (aS D (k+j))=_;rw[pH h j];exact h
def HE{c:List Int}{b:Int}(hb:0<b)(h:∀x∈c,0<=x/\x<b)(k:Nat):0<=c.getD k 0/\c.getD k 0<b:=by
  rw[Ax]
  cases u:c[k]? with
  | none=>simp;exact hb
  | some x=>simpa using h x (Af u)
def K5(nx:List (List Int)){c:List Int}(h:∀x∈c,0<=x/\x<100)(s:Nat):UL (bU nx c s):=by
  refine⟨by simp[bU],fun x u=>?_⟩;unfold bU at u;rcases List.mem_cons.1 u with rfl | u
  · exact HE (by omega) h s
  · obtain⟨t,_,rfl⟩:=List.mem_map.1 u;exact HE (by omega) h _
def L8(l:List UInt8):(gM l).all PV.one=Jo:=by rw[Cf];intro x u;obtain⟨c,_,rfl⟩:=List.mem_map.1 u;rfl
def aB9(n:Nat):(mI n).data.toList.map (fun b:UInt8=>PV.int .u8 ((b.toNat:Nat):Int))=gM (dgT n):=rfl
section
variable {tab:Tb} (T:HasA tab){M:Mem}{K:Kp}
include T
def aFg{c:Int}(h0:0<=c)(h1:c<100)(y:K (.ref M.length 0 1 0 (dgT c.toNat).length) (M++[.cells 0 0 (gM (dgT c.toNat))])):
    aj tab 188 [.ah,p64 c,p64 10] M K:=by
  have B:IntKind.u64.wrap c=c:=by unfold IntKind.wrap;simp[IntKind.bits,IntKind.signed];omega
  have E:IntKind.i64.wrap c=((c.toNat:Nat):Int):=by rw[wrap64]<;>omega
  have G:¬c<0:=by omega
  have hl:=x8 (n:=c.toNat) (by omega);have u:(mI c.toNat).size=(dgT c.toNat).length:=rfl;have I:(dgT c.toNat).length<=140737488355328:=by omega
  have J:(dgT c.toNat).length<=9223372036854775807:=by omega
  refine aT T.h188 ?_;simp only[af188,PP,simprocAttr];refine aT T.h218 ?_;simp only[af218,PP,simprocAttr,B,G];refine aT T.h177 ?_;simp only[af177,PP,simprocAttr,E,h1];refine SM T (by omega) ?_;simp only[PP,simprocAttr,u,I,J];exact⟨L8 _,y⟩
def aFf{c:Int}{id g v:Nat}{l:List UInt8}(B:M[id]? =Jm (.cells g v (gM l)))(E:l.length<1000000000)(h0:0<=c)(h1:c<100)(y:K (.ref id (g+1) 1 0 (l++dgT c.toNat).length) (M.set id (.cells (g+1) 0 (gM (l++dgT c.toNat))))):
    aj tab 188 [.ref id g 1 0 l.length,p64 c,p64 10] M K:=by
  have G:IntKind.u64.wrap c=c:=by unfold IntKind.wrap;simp[IntKind.bits,IntKind.signed];omega
  have I:IntKind.i64.wrap c=((c.toNat:Nat):Int):=by rw[wrap64]<;>omega
  have J:¬c<0:=by omega
  have hl:=x8 (n:=c.toNat) (by omega);have u:(mI c.toNat).size=(dgT c.toNat).length:=rfl;have L:l.length+(dgT c.toNat).length<=140737488355328:=by omega
  have O:l.length+(dgT c.toNat).length<=9223372036854775807:=by omega
  have Q:l.length<=(gM l).length:=by simp
  have R:0<(dgT c.toNat).length\/l.length=(gM l).length:= .inr (by simp);refine aT T.h188 ?_;simp only[af188,PP,simprocAttr];refine aT T.h218 ?_;simp only[af218,PP,simprocAttr,G,J];refine aT T.h177 ?_;simp only[af177,PP,simprocAttr,I,h1];refine SM T (by omega) ?_;simp only[PP,simprocAttr,B,u,L,O];rw[aB9];refine⟨L8 _,?_⟩;rw[An]at y;have e:gM l++gM (dgT c.toNat)=gM (l++dgT c.toNat):=by simp[gM]
  rw[e];exact y
set_option maxHeartbeats 1000000 in
def aFd{Q R S U V Y:Bool}{D:DF}(B:BnD D)(hf:D.fi.length=D.nx.length)(h0:0<D.nx.length)(hk:K (slI Jp Jo .i64 (jJ D)) M):
    aj tab 148 [.agg (dfC Q R S U V Y D)] M K:=by
  have hb:D.nx.length<1000000000000:=B.n;have b1:(D.nx.length:Int)*8<=140737488355328:=by omega
  have b2:(D.nx.length:Int)<=9223372036854775807:=by omega
  have nn:(0:Int)<=(D.nx.length:Int):=by omega
  obtain⟨z,gz⟩:=aM (xs:=D.fi) (k:=0) (by omega);have z0:(0:Int)<D.fi.length:=by omega
  refine aF T.h148 (by simp only[PP,simprocAttr]) ?_;simp only[af148,PP,simprocAttr,b1,b2,nn,Cq];refine cQ (fun(k v:Nat)=>k<=D.nx.length) (fun k v=>(.aa:: .ptr 0 0 0:: .aa:: .ref 1 0 1 0 D.nx.length::zj 6++p64 D.nx.length::p64 k::zj 17))
    (fun k v=>[.cells 0 0 (dfC Q R S U V Y D),.cells 0 v (((jJ D).take k++Ah (D.nx.length-k) 0).map p64)]) (fun k v=>D.nx.length-k) 0 0 (by omega) (by simp only[PW]) (by simp) ?_
  intro k v a0 Z;have G:(jJ D).length=D.nx.length:=b9 D 0;refine aH (by kernel_rfl) ?_;simp only[PP,simprocAttr];refine QIf.intro (fun c=>?_) fun c=>?_;rotate_left
  · obtain rfl:k=D.nx.length:=by omega
    rw[Dd,List.replicate_zero,Be (by omega)];have hfz:sV (Jm (cm.cells 0 v ((jJ D).map p64))) 0 1 0 D.nx.length=Jm (slI Jp Jo .i64 (jJ D)):=by
      rw[dO (by simp[G]) (aO _ _ _),aK _ _ (by simp[G])];simp only[slI,G]
    simp only[PP,simprocAttr,c,hfz];exact hk
  have hlt:k<D.nx.length:=by omega
  have k0:(0:Int)<=k:=by omega
  have kf:(k:Int)<D.fi.length:=by omega
  have hw:=aC (k:=k) (by show _<1000000000000;omega);obtain⟨b,gb⟩:=aM (xs:=D.fi) (k:=k) (by omega);have O:(jJ D)[k]? =Jm (if b=z then 0 else 1):=by
    unfold jJ;rw[Av,Ee hlt];simp[Ax,gb,gz]
  have u:=bZ O;have E:Ah (D.nx.length-k) (0:Int)=0::Ah (D.nx.length-(k+1)) 0:=by rw[show D.nx.length-k=(D.nx.length-(k+1))+1 by omega,Eu]
  have I:((jJ D).take k).length=k:=by rw[Bu];omega
  simp only[PP,simprocAttr,c,k0,kf,gb,gz,z0];by_cases y:b=z
  · rw[if_pos y]at u;have he:(b==z)=Jo:=by rw[y];simp
    simp only[PP,simprocAttr,he,hw];refine aR (Z (k+1) v (by omega) (by omega)) (by simp only[PW]) ?_;rw[u,E];simp only[Ay,Ak,Ab,Al,Aq]
  · rw[if_neg y]at u;have he:(b==z)=Jp:=beq_false_of_ne y;have J:k+1<=k+(D.nx.length-k):=by omega
    have L:k<D.nx.length:=hlt;simp only[PP,simprocAttr,he,hw,c,k0,I,J];refine aR (Z (k+1) (v+1) (by omega) (by omega)) (by simp only[PW]) ?_;rw[u,E,Dk _ _ (by rw[Ap,I];exact Ac _)];simp only[Ay,Ak,Ab,Al,Aq,Ap,I,Dd,De]
omit T in
def L6(i v u:Nat)(e y:List (PV×PV))(R:Mem):bT i (.map v e::R) (.map u y::R)=if v=u then []else [i]:=by unfold bT;simp only[lZ,j7,beq_iff_eq]
def aEd{u y B E G I:Bool}{D:DF}(L:K (.func (.func 217) [] [.cp (dfC u y B E G I D) 0]) M):
    aj tab 187 [.agg (dfC u y B E G I D)] M K:=by
  refine bQ T.h187 (by simp only[PP,simprocAttr]) ?_;simp only[af187];refine aA (aB ?_);simp only[PP,simprocAttr];refine aU (GStep.ff (b:=(.aa:: .cp (dfC u y B E G I D) 0:: .aq:: .aa::[])) 0 (Ai _) rfl (by simp only[fE,eD,eC,fD]) rfl) ?_;refine aB ?_;have e:∀J:Mem,fP 0 J (.func (.func 217) [] [.cp (dfC u y B E G I D) 0])=Jm (.func (.func 217) [] [.cp (dfC u y B E G I D) 0]):=fun J=>vW (M:=J) (by simp only[PP,simprocAttr,PV.under]);simp only[PP,simprocAttr,e];exact L
set_option maxHeartbeats 1000000 in
def aAI{L:Nat}{Q R y B V Y:Bool}{D:DF}(hb:D.nx.length<1000000000000)(J:Nat->Mem->Prop)(h0:J 0 M)
    (hl:∀k G,J k G->∃ver r,G[L]? =Jm (.loop ver r))
    (Z:∀k G row,J k G->D.nx[k]? =Jm row->∀S:Kp,(∀u,J (k+1) u->S (.bool Jo) u)->Q0 tab L [p64 k,slI y B .i64 row] G S)
    (hk:∀G,J D.nx.length G->K (.tuple []) G):
    aj tab 217 [.yld L [],.cp (dfC Q R y B V Y D) 0] M K:=by
  refine aT T.h217 ?_;simp only[af217,PP,simprocAttr];refine cQ (fun(i:Nat) (G:Mem)=>i<=D.nx.length/\J i G) (fun i G=>(.yld L []::zj 5++slR Q R y B .i64 D.nx::p64 D.nx.length::p64 i::zj 10)) (fun _ G=>G) (fun i _=>D.nx.length-i) 0 M ⟨by omega,h0⟩ (by simp only[PW]) rfl ?_;intro i G ⟨a0,E⟩ ih;refine aH (by kernel_rfl) ?_;simp only[PP,simprocAttr];refine QIf.intro (fun c=>?_) fun c=>?_;rotate_left
  · obtain rfl:i=D.nx.length:=by omega
    simp only[PP,simprocAttr,c];exact hk G E
  have I:i<D.nx.length:=by omega
  obtain⟨e,U⟩:=aM I;have hw:=aC (k:=i) (by show _<1000000000000;omega);have i0:(0:Int)<=i:=by omega
  simp only[PP,simprocAttr,c,i0,U,MO];refine⟨hl _ _ E,?_⟩;refine Z _ _ e E U _ fun u O=>?_;simp only[PP,simprocAttr,hw];exact aR (ih (i+1) u ⟨by omega,O⟩ (by omega)) (by simp only[PW]) rfl
def aHn{α:Type} [DecidableEq α]{κ:α->ByteArray}{Dm:α->Prop}(y:∀a b,Dm a->Dm b->κ a=κ b->a=b){o:List α}{b:α}(hb:Dm b)(R:∀a∈o,Dm a)
    {N:Mem} {K:Kp} {i j ver S:Nat} (E:N[i]? =Jm (.map ver (smE (jE κ 0 o)))) (I:N[j]? =Jm (.cells 0 S [.map i]))
    (J:∀B,K (p64 ((cO o b).idxOf b:Nat)) (N.set i (.map B (smE (jE κ 0 (cO o b)))))):
    aj tab 186 [.str (κ b),.ptr j 0 0] N K:=by
  have u:=pL y hb o 0 R;refine aT T.h186 ?_;simp only[af186,PP,simprocAttr,PT,E,I];by_cases hm:b∈o
  · rw[if_pos hm]at u;have e:cO o b=o:=by unfold cO;rw[if_pos hm]
    have h:=J ver;rw[e]at h;have hs:N.set i (.map ver (smE (jE κ 0 o)))=N:=by
      refine Ej fun x=>?_;by_cases L:i=x
      · subst L;rw[Cj (aI E),E]
      · rw[Bo L]
    rw[hs]at h;simp only[PP,simprocAttr,PT,u];exact h
  · rw[if_neg hm]at u;have e:cO o b=o++[b]:=by unfold cO;rw[if_neg hm]
    have h:=J (ver+1);have O:=uH κ b o 0;rw[Az]at O;have U:(o++[b]).idxOf b=o.length:=by rw[List.idxOf_append,if_neg hm];simp
    rw[e,U]at h;have G:=KG κ o 0;have Q:=F5 (κ b) (p64 o.length) (jE κ 0 o) u;rw[O]at Q;simp only[PP,simprocAttr,PT,u,E,I,G,Q];exact h
end
abbrev uX(nx:List (List Int))(c:List Int):List Int->Nat->List Int:=fun _ y=>bU nx c y
abbrev aGI(nx:List (List Int))(c:List Int)(k u v ver:Nat)(y:ju):Mem:=
  [.gone,.gone,.map u (smE (jE K8 0 (cI (uX nx c) [] k []))),.cells 0 1 [.map 2],.cells 0 1 [.func (.func 186) [] [.ptr 3 0 0]],.cells 0 v ((kN (uX nx c) [] [] k++Ah (nx.length-k) 0).map p64),.cells 0 1 [.ref 5 0 1 0 nx.length],.loop ver y]
section
variable {tab:Tb} (T:HasA tab){M:Mem}{K:Kp}
include T
set_option maxHeartbeats 2000000 in
def ZT{f1 o1 U V f3 o3 f o:Bool}{D:DF}{c:List Int}(B:BnD D)(Q:c.length=D.nx.length)(Y:∀r∈D.nx,r.length<=64/\∀t∈r,0<=t/\t<D.nx.length)(Z:∀x∈c,0<=x/\x<100)
    (hk:K (slI Jp Jo .i64 (rfN D.nx c)) M):aj tab 149 [.agg (dfC f1 o1 U V f3 o3 D),slI f o .i64 c] M K:=by
  have hb:D.nx.length<1000000000000:=B.n;have b1:(D.nx.length:Int)*8<=140737488355328:=by omega
  have b2:(D.nx.length:Int)<=9223372036854775807:=by omega
  have nn:(0:Int)<=(D.nx.length:Int):=by omega
  refine bQ T.h149 (by simp only[PP,simprocAttr]) ?_;simp only[af149];refine aA (aB ?_);simp only[PP,simprocAttr];refine aU (GStep.ff (b:=(.aa:: .aa:: .cp (dfC f1 o1 U V f3 o3 D) 0:: .ptr 1 0 0:: .ah::zj 45)) 0 (Ai _) rfl (by simp only[hP,hU,fE,eD,eC,fD]) rfl) ?_;refine aU (GStep.ff (b:=(.aa:: .aa:: .cp (dfC f1 o1 U V f3 o3 D) 0:: .cp [slI f o .i64 c] 0:: .ah::zj 45)) 1 (Ai _) rfl (by simp only[hP,hU,fE,eC,fD]) rfl) ?_;refine aB ?_;simp only[PP,simprocAttr,PT,Q,b1,b2,nn,Cq];refine aEd T ?_;simp only[PP,simprocAttr];refine aE (b:=(zj 3++ .cp [slI f o .i64 c] 0:: .aa:: .aa:: .ptr 4 0 0:: .ptr 6 0 0::zj 11++ .func (.func 217) [] [.cp (dfC f1 o1 U V f3 o3 D) 0]::zj 30)) ?_ (by simp only[PW]);refine o9 rfl fun I q1 q2 q3 q4 q5 q6=>?_;simp only[PP,simprocAttr];refine aAI T (L:=7) hb (fun k G=>∃vm v ver R,G=aGI D.nx c k vm v ver I++R) ⟨0,0,0,[],?_⟩ ?_ ?_ ?_
  · simp only[aGI,cI,kN,List.range_zero,Bq,Aq,Nat.sub_zero,List.map_replicate,Bv];rfl
  · rintro k G ⟨vm,v,ver,R,rfl⟩;exact⟨ver,I,rfl⟩
  · rintro k G row ⟨vm,v,ver,R,rfl⟩ grow K' a9;refine CC (ver:=ver) (r:=I) rfl (by rw[q4];rfl) ?_;rw[q3,q4,q5];refine aB ?_;simp only[lD,PP,simprocAttr];refine⟨ver,I,rfl,q1,?_⟩;have a4:({ ({I with state:= .busy} :ju)with state:= .ready,pending:=Jn} :ju)=I:=aAT q1 q2;generalize ({I with state:= .busy} :ju)=lb at a4 ⊢;rw[q6];refine aB ?_;have hk:k<D.nx.length:=aI grow;have k0:(0:Int)<=k:=by omega
    have kc:(k:Int)<D.nx.length:=by omega
    obtain⟨x,gx⟩:=aM (xs:=c) (k:=k) (by omega);obtain⟨x0,x1⟩:=Z x (Af gx);simp only[PP,simprocAttr,Q,k0,kc,gx];refine aFg T x0 x1 ?_;simp only[PP,simprocAttr];have a5:=Y row (Af grow);have c2:row.length<=64:=a5.1;have a6:∀j,CV (x::(row.take (j+1)).map fun t=>c.getD t.toNat 0)=CV (x::(row.take j).map fun t=>c.getD t.toNat 0)++(match row[j]? with | some t=>32::dgT (c.getD t.toNat 0).toNat | none=>[]):=fun j=>by
      show dgT x.toNat++eE _=(dgT x.toNat++eE _)++_;rw[Cp]
      cases row[j]? with
      | none=>simp
      | some t=>rw[Option.toList_some,Ay,Ak,Bq,NH,Ab]
    have a7:∀j,j<=row.length->(CV (x::(row.take j).map fun t=>c.getD t.toNat 0)).length<=200:=fun j hj=>by
      show(dgT x.toNat++eE _).length<=200;have h1:=x8 (n:=x.toNat) (by omega);have h2:=U1 (r:=(row.take j).map fun t=>c.getD t.toNat 0) (fun y hy=>by
        obtain⟨t,_,rfl⟩:=List.mem_map.1 hy;exact HE (by omega) Z _)
      simp only[An,Ap,Bu]at h2 ⊢;omega
    have J:CV (x::(row.take 0).map fun t=>c.getD t.toNat 0)=dgT x.toNat:=by simp[CV,eE]
    generalize b0:(fun j=>CV (x::(row.take j).map fun t=>c.getD t.toNat 0))=u;have O:∀j,CV (x::(row.take j).map fun t=>c.getD t.toNat 0)=u j:=fun j=>by rw[<-b0]
    simp only[O]at a6 a7 J;rw[<-J];refine kV (fun(j g w:Nat)=>j<=row.length) (fun j g w=>(zj 3++ .cp [slI f o .i64 c] 0:: .aa:: .aa:: .ptr 4 0 0:: .ptr 6 0 0::p64 k:: .aa:: .ref (R.length+1+1+1+1+1+1+1+1) g 1 0 (u j).length::zj 16++slI U V .i64 row::p64 row.length::p64 j::zj 20))
      (fun j g w=>[.gone,.gone,.map vm (smE (jE K8 0 (cI (uX D.nx c) [] k []))),.cells 0 1 [.map 2],.cells 0 1 [.func (.func 186) [] [.ptr 3 0 0]],.cells 0 v (((kN (uX D.nx c) [] [] k)++Ah (D.nx.length-k) 0).map p64),.cells 0 1 [.ref 5 0 1 0 D.nx.length],.loop (ver+1) lb]++(R++[.cells g w (gM (u j))])) (fun j g w=>row.length-j) 0 0 0 (by omega) (by simp only[PW]) (by simp only[Ay,PP,simprocAttr]) ?_
    intro j g w hj ih;refine aH (by kernel_rfl) ?_;simp only[PP,simprocAttr];refine QIf.intro (fun e=>?_) fun e=>?_
    · have b3:j<row.length:=by omega
      obtain⟨t,gt⟩:=aM b3;obtain⟨t0,t1⟩:=a5.2 t (Af gt);have j0:(0:Int)<=j:=by omega
      have hw:=aC (k:=j) (by show _<1000000000000;omega);obtain⟨y,gy⟩:=aM (xs:=c) (k:=t.toNat) (by omega);obtain⟨y0,y1⟩:=Z y (Af gy);have S:=a6 j;rw[gt]at S;simp only[Ax,gy,Cx]at S;have c3:=a7 j (by omega);have b5:(u j).length+1<=140737488355328:=by omega
      have b6:(u j).length<=9223372036854775806:=by omega
      simp only[PP,simprocAttr,e,gk0,sk0,gt,gy,Q,j0,t0,t1,b5,b6];have e1:(u j).length+1=(u j++[32]).length:=by simp
      have e2:(u j).map (fun c:UInt8=>PV.int .u8 ((c.toNat:Nat):Int))++[.int .u8 32]=gM (u j++[32]):=by simp[gM]
      have e3:(u j++[32])++dgT y.toNat=u (j+1):=by rw[S];simp
      rw[e1,e2];refine aFf T (l:=u j++[32]) (v:=0) (by simp only[Cl,gk0,Gy]) (by simp;omega) y0 y1 ?_;rw[e3];simp only[PP,simprocAttr,sk0,hw];exact aR (ih (j+1) (g+1+1) 0 (by omega) (by omega)) (by simp only[PW]) (by simp only[Ay,PP,simprocAttr])
    · obtain rfl:j=row.length:=by omega
      have a0:CV (bU D.nx c k)=u row.length:=by rw[<-O row.length,En];unfold bU;rw[grow];simp only[Cx,Ax,gx]
      have a1:(⟨(u row.length).toArray⟩:ByteArray)=K8 (bU D.nx c k):=by unfold K8;rw[a0]
      have b4:mF (gM (u row.length))=Jm (u row.length):=VL _;have b7:(u row.length).length<=(gM (u row.length)).length:=by simp
      simp only[PP,simprocAttr,PT,e,gk0,b4,a1];refine aHn T (κ:=K8) (Dm:=UL) (fun a b ha hb h=>aBc ha hb h) (o:=cI (uX D.nx c) [] k []) (b:=bU D.nx c k) (K5 _ Z k) ?_ (i:=2) (j:=3) rfl rfl fun a2=>?_
      · intro a ha;rcases(kU _ _ _ _ _).1 ha with h | ⟨y,_,rfl⟩
        · cases h
        · exact K5 _ Z y
      have c0:cO (cI (uX D.nx c) [] k []) (bU D.nx c k)=cI (uX D.nx c) [] (k+1) []:=rfl;rw[c0];have c1:=DZ (uX D.nx c) [] [] k;have E:=gK (uX D.nx c) [] [] k;have a3:k+1<=k+(D.nx.length-k):=by omega
      simp only[PP,simprocAttr,k0,E,a3];rw[L6];refine⟨by split<;>rfl,kc,ver+1,_,rfl,?_⟩;rw[if_pos rfl];refine a9 _ ⟨a2,v+1,ver+1+1,R++[.cells g w (gM (u row.length))],?_⟩;simp only[aGI,PP,simprocAttr,a4];have c4:(cI (uX D.nx c) [] (k+1) []).idxOf (bU D.nx c k)=(cI (uX D.nx c) [] (k+1) []).idxOf (uX D.nx c [] k):=rfl;rw[c1,Dk _ _ (by rw[Ap,E];exact Ac _),Ap,E,Dd,show D.nx.length-k=(D.nx.length-(k+1))+1 by omega,Eu];simp only[Ay,Ak,Bq,Ab,Al,Aq,De]
  · rintro G ⟨vm,v,ver,R,rfl⟩;refine⟨ver,I,rfl,by rw[q1];exact(by intro h;cases h),?_⟩;rw[q2];have hfz:sV (Jm (cm.cells 0 v ((kN (uX D.nx c) [] [] D.nx.length).map p64))) 0 1 0 D.nx.length=Jm (slI Jp Jo .i64 (rfN D.nx c)):=by
      rw[dO (by simp[gK]) (aO _ _ _),aK _ _ (by simp[gK])];simp only[slI,rfN,gK]
    have hz:D.nx.length-D.nx.length=0:=Dd _;simp only[PP,simprocAttr,hz,hfz];exact hk
def NP{f o J L:Bool}{a b:List Int}(O:a.length<big)(E:K (.bool (decide (a=b))) M):aj tab 150 [slI f o .i64 a,slI J L .i64 b] M K:=by
  have hb:a.length<1000000000000:=O;refine aF T.h150 (by simp only[PP,simprocAttr]) ?_;simp only[af150,PP,simprocAttr];by_cases hl:a.length=b.length;rotate_left
  · have h1:¬(a.length:Int)=b.length:=by omega
    have h2:¬a=b:=fun h=>hl (by rw[h]);simp only[PP,simprocAttr,h1];simpa [h2]using E
  have h1:(a.length:Int)=b.length:=by omega
  simp only[PP,simprocAttr,h1];refine dN (fun(k:Nat)=>k<=b.length/\a.take k=b.take k) (fun k=>(slI f o .i64 a::slI J L .i64 b::zj 10++p64 b.length::p64 k::zj 12)) (fun _=>[]) (fun k=>b.length-k) 0 (by simp) (by simp only[PW]) rfl ?_;intro k ⟨Q,u⟩ R;refine aH (by kernel_rfl) ?_;simp only[PP,simprocAttr];refine QIf.intro (fun c=>?_) fun c=>?_;rotate_left
  · obtain rfl:k=b.length:=by omega
    rw[Be (by omega),Be (by omega)]at u;simp only[PP,simprocAttr,c];simpa [u]using E
  have hlt:k<b.length:=by omega
  have S:(0:Int)<=k:=by omega
  have hw:=aC (k:=k) (by show _<1000000000000;omega);obtain⟨x,B⟩:=aM (xs:=a) (k:=k) (by omega);obtain⟨y,G⟩:=aM hlt;simp only[PP,simprocAttr,c,S,B,G,h1];by_cases e:x=y
  · simp only[PP,simprocAttr,e,hw];refine aE (R (k+1) ⟨by omega,?_⟩ (by omega)) (by simp only[PW]);rw[bZ B,bZ G,u,e]
  · simp only[PP,simprocAttr,e];have I:¬a=b:=fun h=>e (by rw[h,G]at B;exact(Option.some.inj B).symm);simpa [I]using E
set_option maxHeartbeats 1000000 in
def JL{L O Q R S U:Bool}{D:DF}{k:Nat}(B:BnD D)(y:cN D=0->D.nx.length<=99)(I:cN D≠0->K (.tuple [.ah,p64 (cN D)]) M)(u:cN D=0->K (.tuple [slI Jp Jo .i64 (aS D k),p64 0]) M)(Y:k<1000000000000):
    aj tab 87 [.agg (dfC L O Q R S U D),p64 k] M K:=by
  refine aF T.h87 (by simp only[PP,simprocAttr]) ?_;simp only[af87,PP,simprocAttr];refine L4 T B ?_;by_cases E:cN D=0;rotate_left
  · simp only[PP,simprocAttr,E];exact I E
  have u:=u E;have y:=y E;have C:=fx.1 E;have G:∀r∈D.nx,r.length<=64/\∀t∈r,0<=t/\t<D.nx.length:=fun r hr=>by
    obtain⟨h1,h2⟩:=C.r r hr;refine⟨?_,h2⟩;have:=JY C.v6;have e:((2^D.vs.toNat:Nat):Int)=2^D.vs.toNat:=by simp
    omega
  simp only[PP,simprocAttr,E];refine aFd T B C.f C.n0 ?_;simp only[PP,simprocAttr];refine dN (fun(i:Nat)=>i<=k) (fun i=>(.aa:: .aa:: .ptr 0 0 0::zj 4++slI Jp Jo .i64 (aS D i)::zj 8++p64 k::p64 i::zj 10)) (fun _=>[.cells 0 0 (dfC L O Q R S U D)]) (fun i=>k-i) 0 (by omega) (by simp only[aS,PW]) rfl ?_;intro i hi Z;refine aH (by kernel_rfl) ?_;simp only[PP,simprocAttr];refine QIf.intro (fun c=>?_) fun c=>?_;rotate_left
  · obtain rfl:i=k:=by omega
    simp only[PP,simprocAttr,c];exact u
  have hw:=aC (k:=i) (by show _<1000000000000;omega);have J:=b9 D i;have V:=b9 D (i+1);simp only[PP,simprocAttr,c];refine ZT T B J G (aDC y i) ?_;simp only[PP,simprocAttr];refine NP T (by rw[sK];exact B.n) ?_;by_cases e:rfN D.nx (aS D i)=aS D i
  · have hs:=pH (D:=D) (k:=i) e (k-i);rw[show i+(k-i)=k by omega]at hs;rw[hs]at u;simp only[PP,simprocAttr,e];exact u
  · simp only[PP,simprocAttr,e,hw];exact aE (Z (i+1) (by omega) (by omega)) (by simp only[aS,PW])
end
section
variable {α β:Type} [DecidableEq α] [DecidableEq β]
def ixF(l:List α)(x:α):Nat:=l.idxOf x
def fv(f:Nat->α):Nat->List α
  | 0=>[]
  | n+1=>cO (fv f n) (f n)
def SB(f:Nat->α)(a:α):∀n,cI (fun _ y=>f y) a n []=fv f n
  | 0=>rfl
  | n+1=>by show cO _ _=cO _ _;rw[SB f a n]
def fF(f:Nat->α)(x:α):∀n,x∈fv f n↔∃y,y<n/\x=f y
  | 0=>by simp[fv]
  | n+1=>by
    show x∈cO _ _↔_;rw[KQ,fF f x n];constructor
    · rintro(⟨y,h1,h2⟩ | h)
      · exact⟨y,by omega,h2⟩
      · exact⟨n,by omega,h⟩
    · rintro⟨y,h1,h2⟩;by_cases e:y=n
      · subst e;exact .inr h2
      · exact .inl ⟨y,by omega,h2⟩
def BD(f:Nat->α):∀n,(fv f n).Nodup
  | 0=>by simp[fv]
  | n+1=>B8 (BD f n)
def PJ(f:Nat->α):∀n,(fv f n).length<=n
  | 0=>by simp[fv]
  | n+1=>by
    have:=PJ f n;show(cO _ _).length<=_;unfold cO;split
    · omega
    · simp;omega
def o8(o:List α)(x:α):(cO o x).length=if x∈o then o.length else o.length+1:=by unfold cO;split<;>simp
def aBE(f:Nat->α)(g:α->β):∀n,(fv (fun y=>g (f y)) n).length<=(fv f n).length
  | 0=>by simp[fv]
  | n+1=>by
    have u:=aBE f g n;show(cO _ _).length<=(cO _ _).length;rw[o8,o8];by_cases h:f n∈fv f n
    · have h2:g (f n)∈fv (fun y=>g (f y)) n:=by obtain⟨y,h3,B⟩:=(fF _ _ _).1 h;exact(fF _ _ _).2 ⟨y,h3,by rw[B]⟩
      rw[if_pos h,if_pos h2];exact u
    · rw[if_neg h];split<;>omega
def PH(f:Nat->α)(g:α->β):∀n,(fv (fun y=>g (f y)) n).length=(fv f n).length->fv (fun y=>g (f y)) n=(fv f n).map g
  | 0,_=>rfl
  | n+1,h=>by
    have h:(cO (fv (fun y=>g (f y)) n) (g (f n))).length=(cO (fv f n) (f n)).length:=h;show cO _ _=(cO _ _).map g;have u:=aBE f g n;rw[o8,o8]at h;by_cases h1:f n∈fv f n
    · have h2:g (f n)∈fv (fun y=>g (f y)) n:=by obtain⟨y,h3,B⟩:=(fF _ _ _).1 h1;exact(fF _ _ _).2 ⟨y,h3,by rw[B]⟩
      rw[if_pos h1,if_pos h2]at h;unfold cO;rw[if_pos h1,if_pos h2,PH f g n h]
    · rw[if_neg h1]at h;by_cases h2:g (f n)∈fv (fun y=>g (f y)) n
      · rw[if_pos h2]at h;omega
      · rw[if_neg h2]at h;unfold cO;rw[if_neg h1,if_neg h2,PH f g n (by omega)];simp
def aBF(f:Nat->α)(g:α->β):∀n,(∀x y,x<n->y<n->g (f x)=g (f y)->f x=f y)->fv (fun y=>g (f y)) n=(fv f n).map g
  | 0,_=>rfl
  | n+1,h=>by
    show cO _ _=(cO _ _).map g;have u:=aBF f g n fun x y E G=>h x y (by omega) (by omega);by_cases h1:f n∈fv f n
    · have h2:g (f n)∈fv (fun y=>g (f y)) n:=by rw[u];exact List.mem_map.2 ⟨_,h1,rfl⟩
      unfold cO;rw[if_pos h1,if_pos h2,u]
    · have h2:g (f n)∉fv (fun y=>g (f y)) n:=fun q=>by obtain⟨y,h3,B⟩:=(fF _ _ _).1 q;exact h1 ((fF _ _ _).2 ⟨y,h3,h n y (by omega) (by omega) B⟩)
      unfold cO;rw[if_neg h1,if_neg h2,u];simp
def qY{g:α->β} :∀{l:List α} {x:α},(l.map g).Nodup->x∈l->ixF (l.map g) (g x)=ixF l x
  | [],x,_,h=>by cases h
  | a::l,x,u,h=>by
    rw[Ak,List.nodup_cons]at u;rw[Ak];by_cases e:x=a
    · subst e;unfold ixF;simp
    · have hm:x∈l:=by
        rcases List.mem_cons.1 h with h | h
        · exact absurd h e
        · exact h
      have hg:g x≠g a:=fun q=>u.1 (by rw[<-q];exact List.mem_map.2 ⟨x,hm,rfl⟩);have y:=qY u.2 hm;unfold ixF at y ⊢;rw[kW e,kW hg,y]
def kE{l:List α}{x:α}(h:x∈l):l[ixF l x]? =Jm x:=by unfold ixF;have h1:=List.idxOf_lt_length_of_mem h;rw[Ad h1,List.getElem_idxOf]
end
def M5(n:Nat)(c:List Int):Prop:=c.length=n/\∀y,y<n->((ixF (fv (fun y=>c.getD y 0) n) (c.getD y 0):Nat):Int)=c.getD y 0
def XJ{α:Type} [DecidableEq α](f:Nat->α)(n:Nat){c:List Int}(hl:c.length=n)(I:∀y,y<n->c.getD y 0=((ixF (fv f n) (f y):Nat):Int)):M5 n c/\(fv (fun y=>c.getD y 0) n).length=(fv f n).length:=by
  have u:∀y,y<n->f y∈fv f n:=fun y E=>(fF _ _ _).2 ⟨y,E,rfl⟩;have G:∀x y,x<n->y<n->(fun z:α=>((ixF (fv f n) z:Nat):Int)) (f x)=(fun z:α=>((ixF (fv f n) z:Nat):Int)) (f y)->f x=f y:=fun x y J E h=>by have h:ixF (fv f n) (f x)=ixF (fv f n) (f y):=Int.ofNat.inj h;have h1:=kE (u x J);have h2:=kE (u y E);rw[h,h2]at h1;exact(Option.some.inj h1).symm
  have B:∀k,k<=n->fv (fun y=>c.getD y 0) k=fv (fun y=>(fun z:α=>((ixF (fv f n) z:Nat):Int)) (f y)) k:=by
    intro k
    induction k with
    | zero=>intro _;rfl
    | succ k K=>intro L;show cO _ (c.getD k 0)=cO _ ((ixF (fv f n) (f k):Nat):Int);rw[K (by omega),I k (by omega)]
  have hm:=aBF f (fun z:α=>((ixF (fv f n) z:Nat):Int)) n G;have hV:fv (fun y=>c.getD y 0) n=(fv f n).map (fun z:α=>((ixF (fv f n) z:Nat):Int)):=by rw[B n (Ac _),hm]
  have hnd:((fv f n).map fun z:α=>((ixF (fv f n) z:Nat):Int)).Nodup:=by rw[<-hV];exact BD _ _
  refine⟨⟨hl,fun y E=>?_⟩,by rw[hV];simp⟩;rw[hV,I y E];have:=qY (g:=fun z:α=>((ixF (fv f n) z:Nat):Int)) hnd (u y E);rw[this]
def t8{nx:List (List Int)}{c:List Int}{y:Nat}(u:y<nx.length):(rfN nx c).getD y 0=((ixF (fv (bU nx c) nx.length) (bU nx c y):Nat):Int):=by unfold rfN kN;rw[Ax,Av,Ee u,Cr,Cx];rw[SB (bU nx c)];rfl
def D4(nx:List (List Int))(c:List Int):M5 nx.length (rfN nx c)/\(fv (fun y=>(rfN nx c).getD y 0) nx.length).length=(fv (bU nx c) nx.length).length:=
  XJ (bU nx c) nx.length (sK nx c) fun y u=>t8 u
def HP{D:DF}{y:Nat}(u:y<D.nx.length):(jJ D).getD y 0=if D.fi.getD y Jp=D.fi.getD 0 Jp then 0 else 1:=by unfold jJ;rw[Ax,Av,Ee u,Cr,Cx]
def QH(D:DF):M5 D.nx.length (jJ D):=by
  have hs:∀k,k<=D.nx.length->fv (fun y=>(jJ D).getD y 0) k=[]\/fv (fun y=>(jJ D).getD y 0) k=[0]\/fv (fun y=>(jJ D).getD y 0) k=[0,1]:=by
    intro k
    induction k with
    | zero=>intro _;exact .inl rfl
    | succ k E=>
      intro I;have hb:=HP (D:=D) (y:=k) (by omega);show cO _ ((jJ D).getD k 0)=_\/cO _ ((jJ D).getD k 0)=_\/cO _ ((jJ D).getD k 0)=_;have u:(jJ D).getD k 0=0\/(jJ D).getD k 0=1:=by
        rw[hb];split
        · exact .inl rfl
        · exact .inr rfl
      rcases E (by omega)with h | h | h
      · have B:k=0:=by
          rcases Fb k with q | q
          · exact q
          · have:(jJ D).getD 0 0∈fv (fun y=>(jJ D).getD y 0) k:=(fF _ _ _).2 ⟨0,q,rfl⟩;rw[h]at this;cases this
        subst B;rw[h,hb,if_pos rfl];exact .inr (.inl rfl)
      · rw[h];rcases u with e | e<;>rw[e]
        · exact .inr (.inl rfl)
        · exact .inr (.inr rfl)
      · rw[h];rcases u with e | e<;>rw[e]
        · exact .inr (.inr rfl)
        · exact .inr (.inr rfl)
  refine⟨b9 D 0,fun y G=>?_⟩;have hm:(jJ D).getD y 0∈fv (fun y=>(jJ D).getD y 0) D.nx.length:=(fF _ _ _).2 ⟨y,G,rfl⟩;rcases hs D.nx.length (Ac _)with h | h | h
  · rw[h]at hm;cases hm
  · rw[h]at hm ⊢;simp only[Bp]at hm;rw[hm];rfl
  · rw[h]at hm ⊢;simp only[Cu,Fh,or_false]at hm;rcases hm with hm | hm<;>rw[hm]<;>rfl
def zE(D:DF):∀k,M5 D.nx.length (aS D k)
  | 0=>QH D
  | k+1=>(D4 D.nx (aS D k)).1
def XD(D:DF)(k:Nat):Nat:=(fv (fun y=>(aS D k).getD y 0) D.nx.length).length
def XC{D:DF}{k:Nat}(h:aS D (k+1)≠aS D k):XD D k<XD D (k+1):=by
  have h1:=D4 D.nx (aS D k);have O:XD D (k+1)=(fv (bU D.nx (aS D k)) D.nx.length).length:=h1.2;have I:=aBE (bU D.nx (aS D k)) (fun l=>l.headD 0) D.nx.length;have hh:(fun y=>(bU D.nx (aS D k) y).headD 0)=fun y=>(aS D k).getD y 0:=rfl;have Q:XD D k=(fv (fun y=>(bU D.nx (aS D k) y).headD 0) D.nx.length).length:=rfl;rw[Q,O];rcases Nat.lt_or_eq_of_le I with q | q
  · exact q
  · exfalso;have hm:=PH (bU D.nx (aS D k)) (fun l=>l.headD 0) D.nx.length q;apply h;have J:=zE D k;show rfN D.nx (aS D k)=aS D k;refine Ej fun y=>?_;by_cases u:y<D.nx.length
    · have B:y<(rfN D.nx (aS D k)).length:=by rw[sK];exact u
      have E:y<(aS D k).length:=by rw[J.1];exact u
      have K:=t8 (nx:=D.nx) (c:=aS D k) u;have R:=J.2 y u;have G:bU D.nx (aS D k) y∈fv (bU D.nx (aS D k)) D.nx.length:=(fF _ _ _).2 ⟨y,u,rfl⟩;have hnd:((fv (bU D.nx (aS D k)) D.nx.length).map fun l=>l.headD 0).Nodup:=by rw[<-hm];exact BD _ _
      have M:=qY (g:=fun l:List Int=>l.headD 0) hnd G;rw[<-hm]at M;have L:ixF (fv (fun y=>(aS D k).getD y 0) D.nx.length) ((aS D k).getD y 0)=ixF (fv (bU D.nx (aS D k)) D.nx.length) (bU D.nx (aS D k) y):=M;rw[<-L,R]at K;rw[Ax,Ax,Ad B,Ad E]at K;rw[Ad B,Ad E];simpa using K
    · rw[Bk (by rw[sK];omega),Bk (by rw[J.1];omega)]
def D1{D:DF}(h0:0<D.nx.length):∀{m:Nat},(∀j,j<m->aS D (j+1)≠aS D j)->m+1<=XD D m
  | 0,_=>by have:(aS D 0).getD 0 0∈fv (fun y=>(aS D 0).getD y 0) D.nx.length:=(fF _ _ _).2 ⟨0,h0,rfl⟩;exact List.length_pos_of_mem this
  | m+1,h=>by have u:=D1 h0 (m:=m) fun j B=>h j (by omega);have:=XC (h m (by omega));omega
def GA{D:DF}(h0:0<D.nx.length){m:Nat}(h:∀j,j<m->aS D (j+1)≠aS D j):m<D.nx.length:=by have h1:=D1 h0 h;have h2:XD D m<=D.nx.length:=PJ _ _;omega
def lS(A:Mem)(y B E G I J f o:Bool)(D:DF)(K L k:Nat)(u:Int):Mem:=
  A++[.cells 0 K [p64 D.vs,p64 D.st,slR y B E G .i64 D.nx,slB I J D.fi,p64 k,slI f o .i64 (aS D k)],.cells 0 L [.iface 122 (.ptr A.length 0 0),p64 u]]
def StM(A:Mem)(D:DF)(m:Nat)(M:Mem):Prop:=
  (∀j,j<m->aS D (j+1)≠aS D j)/\∃(u y B E G I f o:Bool) (J K:Nat),M=lS A u y B E G I f o D J K m m
section
variable {tab:Tb} (T:HasA tab){M:Mem}{K:Kp}
include T
set_option maxHeartbeats 1000000 in
def BU{f o B E:Bool}{u:List (List Int)}(hm:u.length<big)(hr:∀r∈u,r.length<big)(G:K (slR Jp Jo Jp Jo .i64 u) M):aj tab 57 [slR f o B E .i64 u] M K:=by
  have hb:u.length<1000000000000:=hm;refine bQ T.h57 (by simp only[PP,simprocAttr]) ?_;simp only[af57];refine aA (aB ?_);simp only[PP,simprocAttr];refine aU (GStep.nil 2 1 rfl rfl rfl) ?_;refine aB ?_;simp only[PP,simprocAttr];refine cQ (fun(k:Nat) (g:Nat)=>k<=u.length) (fun k g=>(.aa:: .aa:: .ref 0 g 1 0 k:: .aa:: .aa::slR f o B E .i64 u::p64 u.length::p64 k::zj 10)) (fun k g=>[.cells g 0 ((u.take k).map (slI Jp Jo .i64))]) (fun k _=>u.length-k) 0 0 (by omega) (by simp only[PW]) rfl ?_;intro k g I J;refine aH (by kernel_rfl) ?_;simp only[PP,simprocAttr];refine QIf.intro (fun c=>?_) fun c=>?_;rotate_left
  · obtain rfl:k=u.length:=by omega
    have hfz:sV (Jm (cm.cells g 0 ((u.take u.length).map (slI Jp Jo .i64)))) g 1 0 u.length=Jm (slR Jp Jo Jp Jo .i64 u):=by rw[En,dO (by simp) (aW _ _ _ _ _),aK _ _ (by simp)]
    simp only[PP,simprocAttr,c,hfz];exact G
  have hlt:k<u.length:=by omega
  have hw:=aC (k:=k) (by show _<1000000000000;omega);have L:(0:Int)<=k:=by omega
  have O:(k+1)*24<=140737488355328:=by omega
  have Q:k+1<=9223372036854775807:=by omega
  have R:k<=((u.take k)).length:=by rw[Bu];omega
  obtain⟨x,y⟩:=aM hlt;simp only[PP,simprocAttr,c,L,y];refine mN T (hr x (Af y)) ?_;simp only[PP,simprocAttr,O,Q,R,hw];refine aR (J (k+1) (g+1) (by omega) (by omega)) (by simp only[PW]) ?_;rw[aK _ _ (by simp;omega),bZ y];simp
def E9{f o:Bool}{u:List Bool}(hm:u.length<big)(y:K (slB Jp Jo u) M):aj tab 58 [slB f o u] M K:=by
  have hb:u.length<1000000000000:=hm;have B:u.length<=140737488355328:=by omega
  have E:u.length<=9223372036854775807:=by omega
  refine iK (aF T.h58 (by simp only[PP,simprocAttr]) ?_);simp only[af58,PP,simprocAttr];refine QIf.intro (fun c=>?_) fun c=>?_
  · have:u=[]:=List.length_eq_zero_iff.1 c;subst this;constructor
    · simp only[PP,simprocAttr];exact⟨_,bo.ah _ _ _,y⟩
    · simp only[PP,simprocAttr];exact⟨_,bo.sl _ _ _ _,y⟩
  · simp only[PP,simprocAttr,c,B,E];exact⟨_,bo.refl _,y⟩
set_option maxHeartbeats 1000000 in
def aGU{A:Mem}{K:Kp}{y E G I J L:Bool}{D:DF}(O:cN D=0)(B:BnD D)(u:D.nx.length<=99)
    (Q:∀Y v,aG (A.length+1) Y=Jo->K (.ptr (A.length+1) 0 0) (A++[Y,.cells 0 v [p64 D.vs,p64 D.st,slR Jp Jo Jp Jo .i64 D.nx,slB Jp Jo D.fi,p64 (0:Nat),slI Jp Jo .i64 (aS D 0)]])):
    aj tab 93 [.agg (dfC y E G I J L D)] A K:=by
  refine aT T.h93 ?_;simp only[af93,PP,simprocAttr,gk0];refine BU T B.n B.r ?_;simp only[PP,simprocAttr,gk0];refine E9 T B.f ?_;simp only[PP,simprocAttr,gk0,sk0,Ab];refine JL T B (fun _=>u) (fun h=>absurd O h) (fun _=>?_) (k:=0) (by omega);simp only[PP,simprocAttr,gk,sk];exact Q _ 1 (by simp[aG,aD,PV.under,aW,bS])
def ZF{A:Mem}{K:Kp}{y E G I J L:Bool}{D:DF}(B:BnD D)(O:cN D=0->D.nx.length<=99)(hA:A.all (aG A.length)=Jo)
    (Q:cN D≠0->K (.tuple [.au,p64 (cN D)]) A)
    (R:cN D=0->∀X Y v,aG (A.length+2) X=Jo->aG (A.length+2) Y=Jo->K (.tuple [.ptr (A.length+3) 0 0,p64 0]) (lS (A++[X,Y]) Jp Jo Jp Jo Jp Jo Jp Jo D v 0 0 0)):
    aj tab 41 [.agg (dfC y E G I J L D)] A K:=by
  have S:∀m,aG m (cm.cells 0 0 (dfC y E G I J L D))=Jo:=fun m=>by simp[aG,aD,PV.under,aW,bS]
  refine dI (aT T.h41 ?_);simp only[af41,PP,simprocAttr,gk0];refine L4 T B ?_;by_cases u:cN D=0;rotate_left
  · simp only[PP,simprocAttr,u];refine Gh.step (GStep.im (b:=[.tuple [.au,p64 (cN D)]]) (N:=A) A.length (Ac _) (by simp) (by simp only[PW]) (by simp[aD,PV.under]) ?_ (Bb rfl)) (Gh.same ⟨_,rfl,Q u⟩);exact(congrArg (fun M:Mem=>M.all (aG A.length)) (Bb rfl)).trans hA
  simp only[PP,simprocAttr,u,gk0];refine aGU T u B (O u) fun Y v U=>?_;have h:=R u (.cells 0 0 (dfC y E G I J L D)) Y v (S _) (by simpa using U);simp only[PP,simprocAttr,nT,pJ,jU,Ab];unfold lS at h;simp only[Ab,Al,Aq,An,As,Bl,Az,El]at h;exact Gh.same ⟨_,rfl,h⟩
def KU{A:Mem}{K:Kp}{G I J L O Q f o:Bool}{D:DF}{R S k:Nat}{u:Int}(V:cN D=0)(B:BnD D)(y:D.nx.length<=99)(E:k+1<1000000000000)
    (U:K (slI Jp Jo .i64 (aS D (k+1))) (lS A G I J L O Q f o D R S k u)):aj tab 262 [.ptr A.length 0 0] (lS A G I J L O Q f o D R S k u) K:=by
  have hw:=aC (k:=k) (by show _<1000000000000;omega);refine aT T.h262 ?_;unfold lS at U ⊢;simp only[af262,PP,simprocAttr,gk0,hw];refine JL T B (fun _=>y) (fun h=>absurd V h) (fun _=>?_) (k:=k+1) E;simp only[PP,simprocAttr];exact U
def aBq{A:Mem}{D:DF}(hc:cN D=0)(B:BnD D)(h99:D.nx.length<=99):
    rz tab (A.length+1) A.length 122 261 260 10 (fun m=>aS D (m+1)=aS D m) (fun _=>False) (fun m=> !decide (aS D (m+1)=aS D m)) (StM A D) where
  job:=by rintro m M ⟨_,f1,o1,f2,o2,f3,o3,f,o,v1,v2,rfl⟩;exact⟨v2,by unfold lS;rw[gk];rfl⟩
  sm:=by rintro m M ⟨h,_⟩;have:=GA (fx.1 hc).n0 h;omega
  unit:=by
    rintro m M ⟨h,f1,o1,f2,o2,f3,o3,f,o,v1,v2,rfl⟩ K k1 k2 k3;have hlt:=GA (fx.1 hc).n0 h;have hw:=aC (k:=m) (by show _<1000000000000;omega);refine aT T.h261 ?_;simp only[af261,PP,simprocAttr];refine KU T hc B h99 (by omega) ?_;unfold lS;simp only[PP,simprocAttr,gk0];refine NP T (by rw[b9];exact B.n) ?_;by_cases e:aS D (m+1)=aS D m
    · simp only[PP,simprocAttr,e];exact k1 e _ ⟨h,f1,o1,f2,o2,f3,o3,f,o,v1,v2,rfl⟩
    · simp only[PP,simprocAttr,e,gk0,sk0,hw];refine k3 e (fun q=>q) _ v2 (by rw[gk];rfl) ⟨fun j hj=>?_,f1,o1,f2,o2,f3,o3,Jp,Jo,v1+1+1,v2+1,?_⟩
      · by_cases q:j=m
        · subst q;exact e
        · exact h j (by omega)
      · unfold lS;rw[sk];rfl
  left:=by rintro m M ⟨h,f1,o1,f2,o2,f3,o3,f,o,v1,v2,rfl⟩ K k;have hlt:=GA (fx.1 hc).n0 h;refine aT T.h260 ?_;simp only[af260,PP,simprocAttr];refine KU T hc B h99 (by omega) ?_;have hk:=k _ ⟨h,f1,o1,f2,o2,f3,o3,f,o,v1,v2,rfl⟩;unfold lS at hk ⊢;simp only[PP,simprocAttr,gk0];refine NP T (by rw[b9];exact B.n) ?_;simp only[PP,simprocAttr];exact hk
  rj:= .inr (.inl ⟨rfl,rfl,rfl⟩)
end
abbrev msM(b:Nat)(y B E G I J f4 K:Bool)(ow pr:List Int)(su:List (List Int))(L:List Ms)(M O Q:Nat)(d:Bool)(u:Int):Mem:=
  [.cells 0 M [slI y B .u8 ow,slI E G .i64 pr,slR I J f4 K .i64 su,.ref (b+2) 0 9 0 ow.length,.bool d],.gone,.cells 0 O (msL L),.cells 0 Q [.iface 125 (.ptr b 0 0),p64 u]]
def hH(A:Mem)(y B E G I J f4 K:Bool)(ow pr:List Int)(su:List (List Int))(L:List Ms)(M O Q:Nat)(b:Bool)(u:Int):Mem:=
  A++msM A.length y B E G I J f4 K ow pr su L M O Q b u
def HM{u:List Nat}{x y:Ms}(B:x.Ok u)(E:y.Ok u):w7 x y<=0↔x.num u<=y.num u:=by rw[pR B E];have:= @iH (x.num u) (y.num u);omega
section
variable {tab:Tb} (T:HasA tab){M:Mem}{K:Kp}
include T
def S7{E G I J L O f4 Q:Bool}{ow pr:List Int}{su:List (List Int)}{u:List Ms}{id ver v:Nat}(Y:M[id]? =Jm (.cells 0 ver (msL u)))(S:bO ow pr su=0)(B:Bnd ow pr su)(U:ja (aP pr) ow.length u)(hv:v<ow.length)
    (Z:∀y,y.Ok (aP pr)->y.num (aP pr)=gL ow pr su (Nf (aP pr) u) v->K (.tuple [.agg (msC y),p64 0]) M):
    aj tab 266 [gmP E G I J L O f4 Q ow pr su,.ref id 0 9 0 ow.length,p64 v] M K:=by
  have V:=eU S;have n1:=V.n1;have hl:=U.l;have R:jk M [gmP E G I J L O f4 Q ow pr su,.ref id 0 9 0 ow.length,p64 v] [gmP E G I J L O f4 Q ow pr su,slM Jo Jp u,p64 v]:=by refine .same (by simp only[PP,simprocAttr]) ?_;rw[<-hl];exact .ref Y (by rw[jV];omega) (dE _ _) (f6 u) (.same (by simp only[PP,simprocAttr]) .nil)
  refine iL R (aH7 T B (by omega) fun y e hA=>⟨by simp only[PV.flat,PV.nd,PV.nq,oO,Co,Es,Dp],?_⟩);rcases hA with⟨a1,_⟩ | ⟨_,a2,_⟩ | ⟨_,_,a3,_⟩ | ⟨_,_,a4,_⟩ | ⟨_,_,_,_,a5,a6,rfl⟩
  · exact absurd S a1
  · exact absurd hl a2
  · exact absurd U.ok a3
  · omega
  · exact Z y a5 (by simpa using a6)
set_option maxHeartbeats 1000000 in
def aI1{A G:Mem}{K:Kp}{L O Q R S U f4 Y:Bool}{ow pr:List Int}{su:List (List Int)}{E:List Ms}{Z v2 v3:Nat}{b:Bool}{u:Int}(c1:bO ow pr su=0)(B:Bnd ow pr su)(hS:ja (aP pr) ow.length E)
    (hk:∀r G',(r=Jp↔pZ ow.length (gL ow pr su) (Nf (aP pr) E))->K (.bool r) (A++(msM A.length L O Q R S U f4 Y ow pr su E Z v2 v3 b u++G'))):
    aj tab 263 [.ptr A.length 0 0] (A++(msM A.length L O Q R S U f4 Y ow pr su E Z v2 v3 b u++G)) K:=by
  have V:=eU c1;have n1:=V.n1;have hl:=hS.l;refine aT T.h263 ?_;simp only[af263,PP,simprocAttr,gk,gk0];refine cQ (fun(i:Nat) (G:Mem)=>i<=ow.length/\∀v,v<i->gL ow pr su (Nf (aP pr) E) v<=Nf (aP pr) E v) (fun i G=>(.ptr A.length 0 0::zj 9++p64 ow.length::p64 i::zj 26))
    (fun i G=>A++(msM A.length L O Q R S U f4 Y ow pr su E Z v2 v3 b u++G)) (fun i G=>ow.length-i) 0 G ⟨by omega,fun v h=>by omega⟩ (by simp only[PW]) rfl ?_
  intro i G ⟨hi,hp⟩ ih;refine aH (by kernel_rfl) ?_;simp only[PP,simprocAttr];refine QIf.intro (fun c=>?_) fun c=>?_;rotate_left
  · obtain rfl:i=ow.length:=by omega
    simp only[PP,simprocAttr,c];exact hk Jp G ⟨fun _=>hp,fun _=>rfl⟩
  have hlt:i<ow.length:=by omega
  have i0:(0:Int)<=i:=by omega
  have hw:=aC (k:=i) (by show _<1000000000000;omega);obtain⟨x,gx⟩:=aM (xs:=E) (k:=i) (by omega);have hx:=hS.ok x (Af gx);have a0:=eY gx;have J:i*9+9<=E.length*9:=by omega
  simp only[PP,simprocAttr,c,gk0];refine S7 T (by rw[gk];rfl) c1 B hS hlt fun y hy hn=>?_;simp only[PP,simprocAttr,PN,c,i0,gk,gk0,sk,sk0,Ab];rw[a0];refine⟨J,?_⟩;refine mL T ?_;have I:=HM hy hx;rw[hn,<-pB gx]at I;by_cases d:w7 y x<=0
  · have d':¬0<w7 y x:=by omega
    simp only[PP,simprocAttr,d',hw];refine aE (ih (i+1) (G++[.cells 0 1 (msC y)]) ⟨by omega,fun v hv=>?_⟩ (by omega)) (by simp only[PW]);by_cases q:v=i
    · subst q;exact I.1 d
    · exact hp v (by omega)
  · have d':0<w7 y x:=by omega
    simp only[PP,simprocAttr,d'];refine hk Jo (G++[.cells 0 1 (msC y)]) ⟨fun h=>(by cases h),fun h=>?_⟩;exact absurd (I.2 (h i hlt)) d
set_option maxHeartbeats 2000000 in
def aDL{A:Mem}{K:Kp}{U Y Z o2 f3 o3 f4 o4:Bool}{ow pr:List Int}{su:List (List Int)}{J:List Ms}{L S v3:Nat}{b:Bool}{u:Int}(hA:A.all (aG A.length)=Jo)(c1:bO ow pr su=0)(B:Bnd ow pr su)(hS:ja (aP pr) ow.length J)
    (a5:pZ ow.length (gL ow pr su) (Nf (aP pr) J)->∀a2,K (.tuple [.bool Jp,p64 0]) (hH A U Y Z o2 f3 o3 f4 o4 ow pr su J a2 S v3 Jo u))
    (a4:∀v y r a2 a6,ot ow.length (gL ow pr su) (Nf (aP pr) J) v->y.Ok (aP pr)->y.num (aP pr)=gL ow pr su (Nf (aP pr) J) v->(r=Jo↔pZ ow.length (gL ow pr su) (Nf (aP pr) (J.set v y)))->K (.tuple [.bool Jo,p64 0]) (hH A U Y Z o2 f3 o3 f4 o4 ow pr su (J.set v y) a2 a6 v3 r u)):
    aj tab 265 [.ptr A.length 0 0] (hH A U Y Z o2 f3 o3 f4 o4 ow pr su J L S v3 b u) K:=by
  have V:=eU c1;have n1:=V.n1;have hl:=hS.l;have Q:∀(J:List Ms) (L S:Nat) (b:Bool),(hH A U Y Z o2 f3 o3 f4 o4 ow pr su J L S v3 b u).all (aG (A.length+4))=Jo:=fun J L S b=>by unfold hH;rw[Cc,bE (by omega) hA];simp[aG,aD,PV.under,aO,aW,dE]
  have I:∀(J:List Ms) (L S:Nat) (b:Bool) (G:Mem),(A++(msM A.length U Y Z o2 f3 o3 f4 o4 ow pr su J L S v3 b u++G)).take (A.length+4)=hH A U Y Z o2 f3 o3 f4 o4 ow pr su J L S v3 b u:=fun J L S b G=>by unfold hH;rw[<-Ab];exact Bb (by simp)
  refine dI (cA T.h265 ?_);simp only[af265];refine aB ?_;have a7:(hH A U Y Z o2 f3 o3 f4 o4 ow pr su J L S v3 b u).length=A.length+4:=by simp[hH]
  rw[a7];unfold hH at I Q ⊢;simp only[msM,PP,simprocAttr,gk,gk0,sk0];refine aAU (fun(i:Nat) (l:Bool) (E:List Ms) (O:Nat) (G:Mem)=>i<=ow.length/\ja (aP pr) ow.length E/\(l=Jp->E=J/\O=S/\∀v,v<i->gL ow pr su (Nf (aP pr) J) v<=Nf (aP pr) J v)/\(l=Jo->∃v y,ot ow.length (gL ow pr su) (Nf (aP pr) J) v/\y.Ok (aP pr)/\y.num (aP pr)=gL ow pr su (Nf (aP pr) J) v/\E=J.set v y))
    (fun i l E O G=>(.ptr A.length 0 0::zj 3++ .bool l::zj 10++p64 ow.length::p64 i::zj 45)) (fun i l E O G=>A++(msM A.length U Y Z o2 f3 o3 f4 o4 ow pr su E (L+1) O v3 Jo u++G)) (fun i l E O G=>ow.length-i) 0 Jp J S [] ⟨by omega,hS,fun _=>⟨rfl,rfl,fun v h=>by omega⟩,fun h=>by cases h⟩ (by simp only[PW]) (by rw[Bv]) ?_
  intro i l E O G ⟨hi,R,hf,ht⟩ ih;have b0:=R.l;refine aH (by kernel_rfl) ?_;simp only[PP,simprocAttr];refine QIf.intro (fun c=>?_) fun c=>?_
  · have hlt:i<ow.length:=by omega
    have i0:(0:Int)<=i:=by omega
    have hw:=aC (k:=i) (by show _<1000000000000;omega);obtain⟨x,gx⟩:=aM (xs:=E) (k:=i) (by omega);have hx:=R.ok x (Af gx);have a9:=eY gx;have a0:i*9+9<=E.length*9:=by omega
    simp only[PP,simprocAttr,c,gk0];refine S7 T (by rw[gk];rfl) c1 B R hlt fun y hy hn=>?_;simp only[PP,simprocAttr,PN,c,i0,gk,gk0,sk,sk0,Ab];rw[a9];refine⟨a0,?_⟩;refine mL T ?_;have a1:=HM hy hx;rw[hn,<-pB gx]at a1;by_cases d:w7 y x<=0
    · simp only[PP,simprocAttr,d,hw];refine aE (ih (i+1) l E O (G++[.cells 0 1 (msC y)]) ⟨by omega,R,fun q=>?_,ht⟩ (by omega)) (by simp only[PW]);obtain⟨q1,q2,q3⟩:=hf q;refine⟨q1,q2,fun v hv=>?_⟩;by_cases e:v=i
      · subst e;rw[<-q1];exact a1.1 d
      · exact q3 v (by omega)
    · cases l with
      | true=>
        obtain⟨v,y2,p1,p2,p3,rfl⟩:=ht rfl;simp only[PP,simprocAttr,d,gk0,sk0];refine Gh.step (GStep.im (b:=[.tuple [.bool Jo,p64 0]]) (N:=hH A U Y Z o2 f3 o3 f4 o4 ow pr su (J.set v y2) (L+1+1) O v3 Jp u) (A.length+4) (Ac _) (by simp) (by simp only[PW]) (by simp[aD,PV.under]) ?_ ?_) (Gh.same ⟨_,rfl,a4 v y2 Jp _ _ p1 p2 p3 ⟨fun h=>(by cases h),fun h=>?_⟩⟩)
        · exact(congrArg (fun M:Mem=>M.all (aG (A.length+4))) (I (J.set v y2) (L+1+1) O Jp _)).trans (Q ..)
        · exact I (J.set v y2) (L+1+1) O Jp _
        · exact absurd (a1.2 (h i hlt)) d
      | false=>obtain⟨rfl,rfl,q3⟩:=hf rfl;have a3:=uC (l:=E) y (k:=i) (by omega);simp only[PP,simprocAttr,PN,d,gk,gk0,sk,i0,c,a0,a3,hw];refine aR (ih (i+1) Jo (E.set i y) (O+1) (G++[.cells 0 1 (msC y)]) ⟨by omega,R.set hy,⟨fun q=>Bool.noConfusion q,fun _=>⟨i,y,⟨hlt,?_,fun u hu=>q3 u hu⟩,hy,hn,rfl⟩⟩⟩ (by omega)) (by simp only[PW]) rfl;have:=fun h=>d (a1.2 h);omega
  · obtain rfl:i=ow.length:=by omega
    cases l with
    | true=>
      obtain⟨v,y2,p1,p2,p3,rfl⟩:=ht rfl;simp only[PP,simprocAttr,c];refine aI1 T (G:=G) c1 B R fun r G' hr=>?_;simp only[msM,PP,simprocAttr,gk0,sk0];refine Gh.step (GStep.im (b:=[.tuple [.bool Jo,p64 0]]) (N:=hH A U Y Z o2 f3 o3 f4 o4 ow pr su (J.set v y2) (L+1+1) O v3 (!r) u) (A.length+4) (Ac _) (by simp) (by simp only[PW]) (by simp[aD,PV.under]) ?_ ?_) (Gh.same ⟨_,rfl,a4 v y2 (!r) _ _ p1 p2 p3 ?_⟩)
      · exact(congrArg (fun M:Mem=>M.all (aG (A.length+4))) (I (J.set v y2) (L+1+1) O (!r) _)).trans (Q ..)
      · exact I (J.set v y2) (L+1+1) O (!r) _
      · rw[<-hr];cases r<;>simp
    | false=>
      obtain⟨rfl,rfl,q3⟩:=hf rfl;simp only[PP,simprocAttr,c];refine Gh.step (GStep.im (b:=[.tuple [.bool Jp,p64 0]]) (N:=hH A U Y Z o2 f3 o3 f4 o4 ow pr su E (L+1) O v3 Jo u) (A.length+4) (Ac _) (by simp) (by simp only[PW]) (by simp[aD,PV.under]) ?_ ?_) (Gh.same ⟨_,rfl,a5 q3 _⟩)
      · exact(congrArg (fun M:Mem=>M.all (aG (A.length+4))) (I E (L+1) O Jo _)).trans (Q ..)
      · exact I E (L+1) O Jo _
end
def xN{u:List Ms} :∀v∈msL u,(∃b,v= .bool b)\/∃n,v=p64 n:=fun v hv=>by
  unfold msL at hv;obtain⟨x,_,h⟩:=List.mem_flatMap.1 hv;rcases List.mem_cons.1 h with rfl | h
  · exact .inl ⟨_,rfl⟩
  · obtain⟨n,_,rfl⟩:=List.mem_map.1 h;exact .inr ⟨n,rfl⟩
def JG(k:Nat):∀{l:List PV},(∀v∈l,(∃b,v= .bool b)\/∃n,v=p64 n)->shL k l=l
  | [],_=>by simp[shL]
  | v::l,h=>by have h1:=JG k (l:=l) fun x u=>h x (by simp[u]);rcases h v (by simp)with⟨b,rfl⟩ | ⟨n,rfl⟩<;>simp[shL,PV.sh,h1]
def aAH(u:List Ms):oD (msL u)=Jo:=(t6 _).2 fun v hv=>by rcases xN v hv with⟨b,rfl⟩ | ⟨n,rfl⟩<;>simp[PV.mw]
def aAP(c:Nat):∀{ns:List Nat},(∀n∈ns,n<=c)->mT ns<=(c+1)^ns.length
  | [],_=>by simp[mT]
  | n::ns,h=>by have h1:=aAP c (ns:=ns) fun x u=>h x (by simp[u]);have h2:=h n (by simp);show(n+1)*mT ns<=_;rw[As,Nat.pow_succ,Nat.mul_comm];exact Jf h1 (by omega)
def S6(pr:List Int):∀n∈aP pr,n<=pr.length:=fun n u=>by obtain⟨v,_,rfl⟩:=yO u;exact List.count_le_length
def aIe{ow pr:List Int}{su:List (List Int)}(V:Valid ow pr su)(h:ow.length<=99)(m:Nat):oB ow.length (itN ow.length (gL ow pr su) m)<4000000000000000000:=by
  have h1:=FV (n:=ow.length) (m:=itN ow.length (gL ow pr su) m) (PE (tK V) m).bnd;have h2:mT (aP pr)<=100^8:=by
    have:=aAP 99 (ns:=aP pr) fun n u=>by have:=S6 pr n u;have:=V.p;omega
    rw[iF]at this;exact this
  have h3:=Jf h h2;have B:99*100^8<4000000000000000000:=by decide
  omega
def StP(A:Mem)(ow pr:List Int)(su:List (List Int))(m:Nat)(M:Mem):Prop:=
  m<=oB ow.length (itN ow.length (gL ow pr su) m)/\∃(y B E G I J f4 K:Bool) (u:List Ms) (L O Q:Nat) (b:Bool),ja (aP pr) ow.length u/\Nf (aP pr) u=itN ow.length (gL ow pr su) m/\(b=Jo↔pZ ow.length (gL ow pr su) (itN ow.length (gL ow pr su) m))/\M=hH A y B E G I J f4 K ow pr su u L O Q b m
open Classical in
noncomputable def aEk(ow pr:List Int)(su:List (List Int))(m:Nat):Bool:= !decide (pZ ow.length (gL ow pr su) (itN ow.length (gL ow pr su) m))
def xT{A:Mem}{B E G I J K f4 L:Bool}{ow pr:List Int}{su:List (List Int)}{M:List Ms}{O Q y:Nat}{b:Bool}{u:Int} :(hH A B E G I J K f4 L ow pr su M O Q y b u)[A.length+3]? =Jm (.cells 0 y [.iface 125 (.ptr A.length 0 0),p64 u]):=by unfold hH;rw[gk];rfl
section
variable {tab:Tb} (T:HasA tab){M:Mem}{K:Kp}
include T
def aB0{f o:Bool}{u:List Int}(hm:u.length<big)(y:K (slI Jp Jo .u8 u) M):aj tab 158 [slI f o .u8 u] M K:=by
  have hb:u.length<1000000000000:=hm;have B:u.length<=140737488355328:=by omega
  have E:u.length<=9223372036854775807:=by omega
  refine iK (aF T.h158 (by simp only[PP,simprocAttr]) ?_);simp only[af158,PP,simprocAttr];refine QIf.intro (fun c=>?_) fun c=>?_
  · have:u=[]:=List.length_eq_zero_iff.1 c;subst this;constructor
    · simp only[PP,simprocAttr];exact⟨_,bo.ah _ _ _,y⟩
    · simp only[PP,simprocAttr];exact⟨_,bo.sl _ _ _ _,y⟩
  · simp only[PP,simprocAttr,c,B,E];exact⟨_,bo.refl _,y⟩
def aCk{G I J L O Q f4 R:Bool}{ow pr:List Int}{su:List (List Int)}(B:Bnd ow pr su)(S:bO ow pr su=0)
    (U:∀u b v,CJ ow pr su 0 u b 0->K (.tuple [.ref (M.length+1) 0 9 0 ow.length,.bool b,p64 0]) (M++[.gone,.cells 0 v (msL u)])):
    aj tab 159 [gmP G I J L O Q f4 R ow pr su,p64 0] M K:=by
  refine aCX (args2:=[gmP G I J L O Q f4 R ow pr su,p64 0]) (args3:=[gmP Jp Jp Jp Jp Jp Jp Jp Jp ow pr su,p64 0]) (.same (by simp only[PP,simprocAttr]) (.same (by simp only[PP,simprocAttr]) .nil)) ?_ ?_
  · simp only[gN,PV.age,FG,aCj]
  refine aCl T B (by omega) S (by omega) fun u b v X hA=>⟨[.gone,.cells 0 v (msL u)],?_,by simp,by simp[PV.mw,oD],by simp[aFY,aAH],?_⟩
  · intro i o h
    match i,h with
    | 0,h=>left;simpa using h.symm
    | 1,h=>right;simpa using h
    | i+2,h=>simp at h
  · have:=U u b v hA;rw[Nat.add_comm]at this;simpa [PV.sh,shL,shO,JG _ xN]using this
set_option maxHeartbeats 1000000 in
def aGT{A:Mem}{K:Kp}{y E G I J L f4 O:Bool}{ow pr:List Int}{su:List (List Int)}(B:Bnd ow pr su)(Q:bO ow pr su=0)
    (R:∀Y S U u b,aG (A.length+1) Y=Jo->CJ ow pr su 0 u b 0->K (.ptr (A.length+1) 0 0) (A++[Y,.cells 0 S [slI Jp Jo .u8 ow,slI Jp Jo .i64 pr,slR Jp Jo Jp Jo .i64 su,.ref (A.length+3) 0 9 0 ow.length,.bool b],.gone,.cells 0 U (msL u)])):
    aj tab 94 [gmP y E G I J L f4 O ow pr su] A K:=by
  refine aT T.h94 ?_;simp only[af94,PP,simprocAttr,gk0];refine aB0 T B.o ?_;simp only[PP,simprocAttr,gk0];refine mN T B.p ?_;simp only[PP,simprocAttr,gk0];refine BU T B.s B.r ?_;simp only[PP,simprocAttr,gk0,sk0,Ab];refine aCk T B Q fun u b v hA=>?_;simp only[PP,simprocAttr,gk,sk,Ab];exact R _ 2 v u b (by simp[aG,aD,PV.under,aO,aW]) hA
def ZE{A:Mem}{K:Kp}{E G I J L O f4 Q:Bool}{ow pr:List Int}{su:List (List Int)}(B:Bnd ow pr su)(hA:A.all (aG A.length)=Jo)
    (R:bO ow pr su≠0->K (.tuple [.au,p64 (bO ow pr su)]) A)
    (S:bO ow pr su=0->∀X Y v1 v2 y b,aG (A.length+2) X=Jo->aG (A.length+2) Y=Jo->CJ ow pr su 0 y b 0->K (.tuple [.ptr (A.length+5) 0 0,p64 0]) (hH (A++[X,Y]) Jp Jo Jp Jo Jp Jo Jp Jo ow pr su y v1 v2 0 b 0)):
    aj tab 42 [gmP E G I J L O f4 Q ow pr su] A K:=by
  have U:∀m,aG m (cm.cells 0 0 [slI E G .u8 ow,slI I J .i64 pr,slR L O f4 Q .i64 su])=Jo:=fun m=>by simp[aG,aD,PV.under,aO,aW]
  refine dI (aT T.h42 ?_);simp only[af42,PP,simprocAttr,gk0];refine HN T B ?_;by_cases u:bO ow pr su=0;rotate_left
  · simp only[PP,simprocAttr,u];refine Gh.step (GStep.im (b:=[.tuple [.au,p64 (bO ow pr su)]]) (N:=A) A.length (Ac _) (by simp) (by simp only[PW]) (by simp[aD,PV.under]) ?_ (Bb rfl)) (Gh.same ⟨_,rfl,R u⟩);exact(congrArg (fun M:Mem=>M.all (aG A.length)) (Bb rfl)).trans hA
  simp only[PP,simprocAttr,u,gk0];refine aGT T B u fun Y v1 v2 y b V hA=>?_;have h:=S u (.cells 0 0 [slI E G .u8 ow,slI I J .i64 pr,slR L O f4 Q .i64 su]) Y v1 v2 y b (U _) (by simpa using V) hA;simp only[PP,simprocAttr,nT,pJ,jU,Ab];unfold hH at h;simp only[msM,Ab,Al,Aq,An,As,Bl,Az,El]at h;exact Gh.same ⟨_,rfl,h⟩
def WW{A:Mem}{ow pr:List Int}{su:List (List Int)}(hA:A.all (aG A.length)=Jo)(c1:bO ow pr su=0)(B:Bnd ow pr su)(h99:ow.length<=99):
    rz tab (A.length+3) A.length 125 265 264 10 (fun m=>pZ ow.length (gL ow pr su) (itN ow.length (gL ow pr su) m)) (fun _=>False) (aEk ow pr su) (StP A ow pr su) where
  job:=by rintro m M ⟨_,f1,o1,f2,o2,f3,o3,f4,o4,ms,v1,v2,v3,b,_,_,_,rfl⟩;exact⟨v3,xT⟩
  sm:=by rintro m M ⟨h,_⟩;have:=aIe (eU c1) h99 m;omega
  unit:=by
    rintro m M ⟨h,f1,o1,f2,o2,f3,o3,f4,o4,ms,v1,v2,v3,b,hS,hN,hb,rfl⟩ K k1 k2 k3;refine aDL T hA c1 B hS (fun hp v1'=>?_) fun v y r v1' v2' hF hy hn hr=>?_
    · rw[hN]at hp;exact k1 hp _ ⟨h,f1,o1,f2,o2,f3,o3,f4,o4,ms,v1',v2,v3,Jo,hS,hN,⟨fun _=>hp,fun _=>rfl⟩,rfl⟩
    · have hv:v<ms.length:=by rw[hS.l];exact hF.1
      have hnx:Nf (aP pr) (ms.set v y)=itN ow.length (gL ow pr su) (m+1):=by show _=qP ow.length (gL ow pr su) (itN ow.length (gL ow pr su) m);rw[RN hv,hn,hN,pG (by rw[<-hN];exact hF)]
      refine k3 (fun hp=>?_) (fun q=>q) _ v3 xT ⟨?_,f1,o1,f2,o2,f3,o3,f4,o4,ms.set v y,v1',v2',v3+1,r,hS.set hy,hnx,by rw[<-hnx];exact hr,?_⟩
      · have:=hp v hF.1;rw[<-hN]at this;have:=hF.2.1;omega
      · have e:itN ow.length (gL ow pr su) (m+1)=lV (itN ow.length (gL ow pr su) m) v (gL ow pr su (itN ow.length (gL ow pr su) m) v):=by show qP ow.length (gL ow pr su) (itN ow.length (gL ow pr su) m)=_;exact pG (by rw[<-hN];exact hF)
        have hF2:=hF.2.1;rw[hN]at hF2;have:=yR (n:=ow.length) (m:=itN ow.length (gL ow pr su) m) (v:=v) (x:=gL ow pr su (itN ow.length (gL ow pr su) m) v) hF.1 hF2;rw[e];omega
      · unfold hH;rw[sk];rfl
  left:=by
    rintro m M ⟨h,f1,o1,f2,o2,f3,o3,f4,o4,ms,v1,v2,v3,b,hS,hN,hb,rfl⟩ K k;refine aT T.h264 ?_;have hk:=k _ ⟨h,f1,o1,f2,o2,f3,o3,f4,o4,ms,v1,v2,v3,b,hS,hN,hb,rfl⟩;have e:aEk ow pr su m= !b:=by unfold aEk;congr 1;exact Bool.eq_iff_iff.2 (Iff.trans (@decide_eq_true_iff _ (Classical.propDecidable _)) hb.symm)
    rw[e]at hk;unfold hH at hk ⊢;simp only[af264,msM,PP,simprocAttr,gk0];exact hk
  rj:= .inr (.inr ⟨rfl,rfl,rfl⟩)
end
end Go.Am.Ar
--P14
namespace Go.Am.Ar
open Go.Am.PV renaming aa->Zj
open Go.Am renaming jj->P1,mj->P2,ls->P3,fe->P4,cm.under->P5,ig->P6,du->P7,ct->P8,pev->P9,ji->P10,bd->P11,ll->P12,dv->P13,cK->P14,AO.effect->P15
open List renaming replicate->L1
def x9(f o:Bool)(sz n:Nat)(cs:List PV):PV.age (.sl f o sz n cs)= .sl Jp Jp sz n (gN cs):=by simp[PV.age]
def QL(f o:Bool)(u:List (List Int)):gN (u.map (slI f o .i64))=u.map (slI Jp Jp .i64):=by rw[iJ,Du];exact Dt fun x _=>by show PV.age (slI f o .i64 x)=_;unfold slI;rw[x9,FG]
def M7(f g:Bool)(u:List (List Int)):PV.de (slR f Jo g Jo .i64 u)=Jo:=by unfold slR;rw[yC];exact(iO _).2 fun v hv=>by obtain⟨x,_,rfl⟩:=List.mem_map.1 hv;exact UN _ _ _ _ _
def H9(f:Bool)(u:List Bool):PV.de (slB f Jo u)=Jo:=by unfold slB;rw[yC];exact(iO _).2 fun v hv=>by obtain⟨x,_,rfl⟩:=List.mem_map.1 hv;exact yD _
def YR(f:Bool)(u:List Ms):PV.de (slM f Jo u)=Jo:=by unfold slM;rw[yC];exact(iO _).2 fun v hv=>by rcases xN v hv with⟨b,rfl⟩ | ⟨n,rfl⟩;exact yD _;exact UO _ _
def aFj(u:List Ms):gN (msL u)=msL u:=by
  have h:∀l:List PV,(∀v∈l,(∃b,v= .bool b)\/∃n,v=p64 n)->gN l=l:=by
    intro l
    induction l with
    | nil=>intro _;simp[gN]
    | cons v l y=>intro h;have h1:=y fun x B=>h x (by simp[B]);rcases h v (by simp)with⟨b,rfl⟩ | ⟨n,rfl⟩<;>simp[gN,PV.age,h1]
  exact h _ xN
abbrev JO(f:Bool)(y:Int)(rows:List (List Int))(B:List Bool)(E:List (List Int))(u:List Int)(G:List Ms):PV:=
  .agg [p64 y,p64 0,slR f Jo f Jo .i64 rows,slB f Jo B,slR f Jo f Jo .i64 E,slI f Jo .i64 u,slM f Jo G]
def tI{B:Int}{a b c d e:PV}{rows:List (List Int)}{E:List Bool}{G:List (List Int)}{u:List Int}{I:List Ms}(h1:bo a (slR Jp Jo Jp Jo .i64 rows))(h2:bo b (slB Jp Jo E))(h3:bo c (slR Jp Jo Jp Jo .i64 G))(J:bo d (slI Jp Jo .i64 u))(K:bo e (slM Jp Jo I)):
    bo (.agg [p64 B,p64 0,a,b,c,d,e]) (JO Jp B rows E G u I):=by
  refine bo.agg rfl fun i y z p q=>?_
  match i,p,q with
  | 0,p,q=>cases p;cases q;exact bo.refl _
  | 1,p,q=>cases p;cases q;exact bo.refl _
  | 2,p,q=>cases p;cases q;exact h1
  | 3,p,q=>cases p;cases q;exact h2
  | 4,p,q=>cases p;cases q;exact h3
  | 5,p,q=>cases p;cases q;exact J
  | 6,p,q=>cases p;cases q;exact K
  | i+7,p,q=>simp at p
section
variable {tab:Tb} (T:HasA tab){M:Mem}{K:Kp}
include T
def E7{id g v:Nat}{f o:Bool}{u:List (List Int)}(E:M[id]? =Jm (.cells g v (u.map (slI f o .i64))))(hm:u.length<big)(hr:∀r∈u,r.length<big)(G:K (slR Jp Jo Jp Jo .i64 u) M):aj tab 57 [.ref id g 1 0 u.length] M K:=by refine vE (args2:=[.sl Jo Jp 1 u.length (u.map (slI f o .i64))]) (args3:=[slR Jp Jp Jp Jp .i64 u]) (.ref E (by simp) (aW _ _ _ _ _) (aK _ _ (by simp)) .nil) ?_ (BU T hm hr ⟨M7 _ _ _,G⟩);simp only[gN,x9,QL,slR]
def XI{id g v:Nat}{u:List Bool}(E:M[id]? =Jm (.cells g v (u.map PV.bool)))(hm:u.length<big)(G:K (slB Jp Jo u) M):aj tab 58 [.ref id g 1 0 u.length] M K:=by refine vE (args2:=[.sl Jo Jp 1 u.length (u.map PV.bool)]) (args3:=[slB Jp Jp u]) (.ref E (by simp) (bS _ _) (aK _ _ (by simp)) .nil) ?_ (E9 T hm ⟨H9 _ _,G⟩);simp only[gN,x9,B7,slB]
def XF{f o:Bool}{u:List Ms}(hm:u.length<big)(y:K (slM Jp Jo u) M):aj tab 60 [slM f o u] M K:=by
  have hb:u.length<1000000000000:=hm;have B:u.length*72<=140737488355328:=by omega
  have E:u.length<=9223372036854775807:=by omega
  refine iK (aF T.h60 (by simp only[PP,simprocAttr,PN,PV.under]) ?_);simp only[af60,PP,simprocAttr];refine QIf.intro (fun c=>?_) fun c=>?_
  · have:u=[]:=List.length_eq_zero_iff.1 c;subst this;constructor
    · simp only[PP,simprocAttr];exact⟨_,bo.ah _ _ _,y⟩
    · simp only[PP,P14,simprocAttr];exact⟨_,bo.sl _ _ _ _,y⟩
  · simp only[PP,P14,simprocAttr,PN,c,B,E];rw[f6];exact⟨_,bo.refl _,y⟩
def XG{id g v:Nat}{u:List Ms}(E:M[id]? =Jm (.cells g v (msL u)))(hm:u.length<big)(G:K (slM Jp Jo u) M):aj tab 60 [.ref id g 9 0 u.length] M K:=by refine vE (args2:=[slM Jo Jp u]) (args3:=[slM Jp Jp u]) (.ref E (by rw[jV];omega) (dE _ _) (f6 u) .nil) ?_ (XF T hm ⟨YR _ _,G⟩);simp only[gN,x9,aFj,slM]
set_option maxHeartbeats 1000000 in
def aGH{j w v Q i2 J R i5 L S i6 O U:Nat}{u:Int}{a b c d e x:PV}{E:Int}{V Y Z o2:Bool}{rows ln:List (List Int)}{dd:List Bool}
    (hj:M[j]? =Jm (.cells 0 v [.iface 116 (.ptr w 0 0),p64 u])) (hw:M[w]? =Jm (.cells 0 Q [p64 E,a,b,c,d,e,.ref i2 J 1 0 ln.length,x,.ref i5 L 1 0 rows.length,.ref i6 O 1 0 dd.length]))
    (h2:M[i2]? =Jm (.cells J R (ln.map (slI Z o2 .i64)))) (h5:M[i5]? =Jm (.cells L S (rows.map (slI V Y .i64)))) (h6:M[i6]? =Jm (.cells O U (dd.map PV.bool)))
    (hs:ln.length<big) (G:∀r∈ln,r.length<big) (hr:rows.length<big) (I:∀r∈rows,r.length<big) (hf:dd.length<big) (hc:M.all (aG M.length)=Jo)
    (hk:K (JO Jp E rows dd ln [] []) M):aj tab 20 [.ptr j 0 0] M K:=by
  have y:=fun l=>cE hj l;have B:=fun l=>cE hw l;refine iK (dI (aT T.h20 ?_));simp only[af20,PP,simprocAttr,PI,y,B,gk0,sk0];refine E7 T (cE h5 _) hr I ?_;simp only[PP,simprocAttr,B];refine XI T (cE h6 _) hf ?_;simp only[PP,simprocAttr,B,gk0,sk0];refine E7 T (cE h2 _) hs G ?_;simp only[PP,simprocAttr,gk0,sk0];refine Gh.step (GStep.im (b:=[.agg [p64 E,p64 0,slR Jp Jo Jp Jo .i64 rows,slB Jp Jo dd,slR Jp Jo Jp Jo .i64 ln,.ah,.ah]]) (N:=M) M.length (Ac _) (by simp) (by simp only[PW]) (by simp[aD,PV.under,aW,bS]) ?_ (Bb rfl)) (Gh.same ⟨_,rfl,_,tI (bo.refl _) (bo.refl _) (bo.refl _) (bo.ah _ _ _) (bo.ah _ _ _),hk⟩);exact(congrArg (fun N:Mem=>N.all (aG M.length)) (Bb rfl)).trans hc
set_option maxHeartbeats 1000000 in
def aGG{j w v E:Nat}{u:Int}{a b c d e:PV}{f o:Bool}{cls:List Int}
    (G:M[j]? =Jm (.cells 0 v [.iface 122 (.ptr w 0 0),p64 u])) (hw:M[w]? =Jm (.cells 0 E [a,b,c,d,e,slI f o .i64 cls])) (hl:cls.length<big) (I:M.all (aG M.length)=Jo)
    (J:K (JO Jp 0 [] [] [] cls []) M):aj tab 20 [.ptr j 0 0] M K:=by
  have y:=fun l=>cE G l;have B:=fun l=>cE hw l;refine iK (dI (aT T.h20 ?_));simp only[af20,PP,simprocAttr,PI,y,B,gk0,sk0];refine mN T hl ?_;simp only[PP,simprocAttr,gk0,sk0];refine Gh.step (GStep.im (b:=[.agg [p64 0,p64 0,.ah,.ah,.ah,slI Jp Jo .i64 cls,.ah]]) (N:=M) M.length (Ac _) (by simp) (by simp only[PW]) (by simp[aD,PV.under,aO]) ?_ (Bb rfl)) (Gh.same ⟨_,rfl,_,tI (bo.ah _ _ _) (bo.ah _ _ _) (bo.ah _ _ _) (bo.refl _) (bo.ah _ _ _),J⟩);exact(congrArg (fun N:Mem=>N.all (aG M.length)) (Bb rfl)).trans I
set_option maxHeartbeats 1000000 in
def aGF{j w v G i2 y I:Nat}{u:Int}{a b c d:PV}{ms:List Ms}
    (J:M[j]? =Jm (.cells 0 v [.iface 125 (.ptr w 0 0),p64 u])) (hw:M[w]? =Jm (.cells 0 G [a,b,c,.ref i2 y 9 0 ms.length,d])) (h2:M[i2]? =Jm (.cells y I (msL ms))) (hl:ms.length<big) (L:M.all (aG M.length)=Jo)
    (O:K (JO Jp 0 [] [] [] [] ms) M):aj tab 20 [.ptr j 0 0] M K:=by
  have B:=fun l=>cE J l;have E:=fun l=>cE hw l;refine iK (dI (aT T.h20 ?_));simp only[af20,PP,simprocAttr,PI,B,E,gk0,sk0];refine XG T (cE h2 _) hl ?_;simp only[PP,simprocAttr,gk0,sk0];refine Gh.step (GStep.im (b:=[.agg [p64 0,p64 0,.ah,.ah,.ah,.ah,slM Jp Jo ms]]) (N:=M) M.length (Ac _) (by simp) (by simp only[PW]) (by simp[aD,PV.under,dE]) ?_ (Bb rfl)) (Gh.same ⟨_,rfl,_,tI (bo.ah _ _ _) (bo.ah _ _ _) (bo.ah _ _ _) (bo.ah _ _ _) (bo.refl _),O⟩);exact(congrArg (fun N:Mem=>N.all (aG M.length)) (Bb rfl)).trans L
def aDp{j v:Nat}{w:PV}{u:Int}(y:M[j]? =Jm (.cells 0 v [w,p64 u]))(B:K (p64 u) M):aj tab 22 [.ptr j 0 0] M K:=by refine aT T.h22 ?_;simp only[af22,PP,simprocAttr,PI,y];exact B
end
abbrev csC(f o:Bool)(k:Int)(N:NF)(D:DF)(ow pr:List Int)(su:List (List Int)):List PV:=
  [p64 k,p64 N.vs,p64 N.n,slI f o .i64 N.st,slI f o .i64 N.fi,slE f o N.es,p64 D.vs,p64 D.st,slR f o f o .i64 D.nx,slB f o D.fi,slI f o .u8 ow,slI f o .i64 pr,slR f o f o .i64 su]
section
variable {tab:Tb} (T:HasA tab){M:Mem}{K:Kp}
include T
end
def JM(D:DF)(k i j:Nat)(u:i<D.nx.length)(y:j<D.nx.length)(h:(aS D (k+1)).getD i 0=(aS D (k+1)).getD j 0):(aS D k).getD i 0=(aS D k).getD j 0:=by
  have E:=t8 (nx:=D.nx) (c:=aS D k) u;have G:=t8 (nx:=D.nx) (c:=aS D k) y;have h:(rfN D.nx (aS D k)).getD i 0=(rfN D.nx (aS D k)).getD j 0:=h;rw[E,G]at h;have I:bU D.nx (aS D k) i∈fv (bU D.nx (aS D k)) D.nx.length:=(fF _ _ _).2 ⟨i,u,rfl⟩;have J:bU D.nx (aS D k) j∈fv (bU D.nx (aS D k)) D.nx.length:=(fF _ _ _).2 ⟨j,y,rfl⟩;have B:=kE I;have K:=kE J;have e:ixF (fv (bU D.nx (aS D k)) D.nx.length) (bU D.nx (aS D k) i)=ixF (fv (bU D.nx (aS D k)) D.nx.length) (bU D.nx (aS D k) j):=by omega
  rw[e,K]at B;have:=congrArg (fun l:List Int=>l.headD 0) (Option.some.inj B);exact this.symm
def zD(D:DF)(k i j:Nat)(u:i<D.nx.length)(y:j<D.nx.length):∀d,(aS D (k+d)).getD i 0=(aS D (k+d)).getD j 0->(aS D k).getD i 0=(aS D k).getD j 0
  | 0,h=>h
  | d+1,h=>zD D k i j u y d (JM D (k+d) i j u y h)
def aDu{n:Nat}{L:(Nat->Nat)->Nat->Nat}(m:Nat->Nat)(v:Nat):m v<=qP n L m v:=by
  by_cases h:∃v,ot n L m v
  · obtain⟨u,y⟩:=h;rw[pG y];unfold lV;split
    · rename_i e;subst e;exact Jd y.2.1
    · exact Ac _
  · unfold qP;rw[dif_neg h];exact Ac _
def aBz{n:Nat}{L:(Nat->Nat)->Nat->Nat}(k v:Nat):∀d,itN n L k v<=itN n L (k+d) v
  | 0=>Ac _
  | d+1=>Nat.le_trans (aBz k v d) (aDu _ v)
structure Res where
  vs:Int
  rows:List (List Int)
  dd:List Bool
  ln:List (List Int)
  cls:List Int
  ms:List Ms
abbrev Res.pv(r:Res):PV:=JO Jp r.vs r.rows r.dd r.ln r.cls r.ms
def Res.px(m:Nat)(r:Res):r.pv.under m=Jo:=by simp[PV.under,aD,aW,aO,bS,dE]
structure qc (tab:Tb) (jid:Nat) (e:Int) (D F:Nat->Prop) (St:Nat->Mem->Prop) (L:Nat) (RP:Nat->Res->Prop):Prop where
  len:∀m M,St m M->M.length=L
  cut:∀m M,St m M->M.all (aG L)=Jo
  job:∀m M,St m M->∃v w wid,M[jid]? =Jm (.cells 0 v [.iface w (.ptr wid 0 0),p64 (m:Int)])
  sm:∀m M,St m M->m<4000000000000000000
  step:∀n M,St n M->∀(S:Mem) (k:Int) (K:Kp),0<=k->k<=9223372036854775807->
    (∀m M' b,n<=m->(m:Int)<=n+k->(b=Jo↔D m)->(b=Jp->(m:Int)=n+k)->(∀j,n<=j->j<m->¬D j/\¬F j)->St m M'->K (.tuple [.bool b,p64 0]) (M'++S))->
    (∀m M',n<=m->(m:Int)<n+k->(∀j,n<=j->j<m->¬D j/\¬F j)->F m->St m M'->K (.tuple [.bool Jp,p64 e]) (M'++S))->
    aj tab 18 [.ptr jid 0 0,p64 k] (M++S) K
  res:∀m M,St m M->∀(S:Mem) (K:Kp),(∀r,RP m r->K r.pv (M++S))->aj tab 20 [.ptr jid 0 0] (M++S) K
section
variable {tab:Tb} (T:HasA tab){M:Mem}{K:Kp}
include T
def qc.units{jid:Nat}{e:Int}{D F:Nat->Prop}{St:Nat->Mem->Prop}{L:Nat}{RP:Nat->Res->Prop}(J:qc tab jid e D F St L RP){m:Nat}{M S:Mem}(h:St m M){K:Kp}(u:K (p64 (m:Int)) (M++S)):aj tab 22 [.ptr jid 0 0] (M++S) K:=by obtain⟨v,w,wid,y⟩:=J.job m M h;exact aDp T (cE y S) u
omit T in
def qc.step0{jid:Nat}{e:Int}{D F:Nat->Prop}{St:Nat->Mem->Prop}{L:Nat}{RP:Nat->Res->Prop}(J:qc tab jid e D F St L RP){n:Nat}{M:Mem}(h:St n M){k:Int}{K:Kp}(h0:0<=k)(h1:k<=9223372036854775807)
    (hA:∀m M' b,n<=m->(m:Int)<=n+k->(b=Jo↔D m)->(b=Jp->(m:Int)=n+k)->(∀j,n<=j->j<m->¬D j/\¬F j)->St m M'->K (.tuple [.bool b,p64 0]) M')
    (I:∀m M',n<=m->(m:Int)<n+k->(∀j,n<=j->j<m->¬D j/\¬F j)->F m->St m M'->K (.tuple [.bool Jp,p64 e]) M'):aj tab 18 [.ptr jid 0 0,p64 k] M K:=by
  have:=J.step n M h [] k K h0 h1 (fun m M' b u y B E G O=>by rw[Bv];exact hA m M' b u y B E G O) (fun m M' u y B E G=>by rw[Bv];exact I m M' u y B E G);rwa [Bv]at this
def G7{jid wid:Nat}{ty:TypeId}{fu fl:FuncId}{e:Int}{D F:Nat->Prop}{lft:Nat->Bool}{St:Nat->Mem->Prop}{L:Nat}{RP:Nat->Res->Prop}(J:rz tab jid wid ty fu fl e D F lft St)(he:e≠0)
    (hl:∀m,lft m=Jo↔¬D m) (hlen:∀m M,St m M->M.length=L) (hcut:∀m M,St m M->M.all (aG L)=Jo)
    (hres:∀m M,St m M->∀(K:Kp),(∀r,RP m r->K r.pv M)->aj tab 20 [.ptr jid 0 0] M K):qc tab jid e D F St L RP where
  len:=hlen
  cut:=hcut
  job:=fun m M h=>by obtain⟨v,hv⟩:=J.job m M h;exact⟨v,ty,wid,hv⟩
  sm:=J.sm
  step:=fun n M h S k K h0 h1 hA hC=>by
    have hL:=hlen n M h;have hj:jid<L:=by obtain⟨v,hv⟩:=J.job n M h;have:=aI hv;omega
    have t1:(M++S).take L=M:=Bb hL;have t2:(M++S).drop L=S:=Hj hL;refine lK (m:=L) (by rw[An];omega) (by simp[aD,PV.under,hj]) (by rw[t1];exact hcut n M h) ?_;rw[t1,t2];refine aEE T J he h h0 h1 (fun m M' a1 a2 a3 a4=>?_) (fun m M' a1 a2 a3 a4 a5=>?_) fun m M' a1 a2 a3 a4 a5=>?_
    · refine⟨by simp[aD,PV.under],hlen m M' a4,hcut m M' a4,hA m M' _ a1 (by omega) ?_ (fun _=>a2) a3 a4⟩;have:=hl m;cases hb:lft m
      · rw[hb]at this;simp at this;simpa using this
      · rw[hb]at this;simp at this;simpa using this
    · exact⟨by simp[aD,PV.under],hlen m M' a5,hcut m M' a5,hA m M' Jo a1 (by omega) ⟨fun _=>a4,fun _=>rfl⟩ (fun q=>by cases q) a3 a5⟩
    · exact⟨by simp[aD,PV.under],hlen m M' a5,hcut m M' a5,hC m M' a1 a2 a3 a4 a5⟩
  res:=fun m M h S K hk=>by
    have hL:=hlen m M h;have hj:jid<L:=by obtain⟨v,hv⟩:=J.job m M h;have:=aI hv;omega
    have t1:(M++S).take L=M:=Bb hL;have t2:(M++S).drop L=S:=Hj hL;refine lK (m:=L) (by rw[An];omega) (by simp[aD,PV.under,hj]) (by rw[t1];exact hcut m M h) ?_;rw[t1,t2];exact hres m M h _ fun r hr=>⟨r.px L,hL,hcut m M h,hk r hr⟩
def RpD(N:NF)(m:Nat)(r:Res):Prop:=r=⟨N.vs,rwK N m,fnK N m,aZ (stK N m),[],[]⟩/\m<=(stK N m).length/\(stK N m).length<=4096
def RpM(D:DF)(m:Nat)(r:Res):Prop:=r=⟨0,[],[],[],aS D m,[]⟩
def RpP(ow pr:List Int)(su:List (List Int))(m:Nat)(r:Res):Prop:=∃u,r=⟨0,[],[],[],[],u⟩/\ja (aP pr) ow.length u/\Nf (aP pr) u=itN ow.length (gL ow pr su) m
def LH{A:Mem}{N:NF}(Y:eB N=0)(B:BnN N)(hA:A.all (aG A.length)=Jo):
    qc tab (A.length+7) 10 (fun m=>(stK N m).length<=m) (fun m=>m<(stK N m).length/\4096<(stK N (m+1)).length) (StD A N) (A.length+8) (RpD N):=by
  have C:=lR Y;have y:∀(E G I J L O f o:Bool) (q:Nat->Nat) (S:List (BitVec 64)) (rows:List (List Int)) (R:List Bool) (v:Nat) (u:Int),(jH A E G I J L O f o N q S rows R v u).all (aG (A.length+8))=Jo:=fun E G I J L O f o q S rows R v u=>by rw[<-LJ,Cc,bE (by omega) (oY hA ..)];simp[aG,aD,PV.under]
  refine G7 T (aBr T Y B hA) (by decide) (fun m=>by simp) ?_ ?_ ?_
  · rintro m M ⟨_,E,G,I,J,L,O,f,o,q,v,rfl⟩;simp[jH,eG]
  · rintro m M ⟨_,E,G,I,J,L,O,f,o,q,v,rfl⟩;exact y ..
  · rintro m M ⟨⟨h1,h2⟩,E,G,I,J,L,O,f,o,q,v,rfl⟩ K hk;have U:(rwK N m).length=m:=mC h1;have V:=xW h1;have Q:(aZ (stK N m)).length=(stK N m).length:=by unfold aZ;rw[Ap]
    have Z:aL N<=64:=C.pf;refine aGH T (w:=A.length+4) (i2:=A.length+2) (i5:=A.length+5) (i6:=A.length+6) (ln:=aZ (stK N m)) (rows:=rwK N m) (dd:=fnK N m) xU (by rw[Q];unfold jH;rw[gk];rfl) (by unfold jH;rw[gk];rfl) (by unfold jH;rw[gk];rfl) (by unfold jH;rw[gk];rfl) ?_ ?_ ?_ ?_ ?_ ?_ (hk _ ⟨rfl,h1,h2⟩)
    · rw[Q];show _<1000000000000;omega
    · intro r hr;obtain⟨a,_,rfl⟩:=List.mem_map.1 hr;have:=BZ a;simp only[bF,Ap];show _<1000000000000;omega
    · rw[U];show _<1000000000000;omega
    · intro r hr;obtain⟨a,_,rfl⟩:=List.mem_map.1 hr;rw[sJ];show _<1000000000000;omega
    · rw[V];show _<1000000000000;omega
    · have:=y E G I J L O f o q (stK N m) (rwK N m) (fnK N m) v m;rw[show(jH A E G I J L O f o N q (stK N m) (rwK N m) (fnK N m) v m).length=A.length+8 by simp[jH,eG]];exact this
def LG{A:Mem}{D:DF}(U:cN D=0)(B:BnD D)(S:D.nx.length<=99)(hA:A.all (aG A.length)=Jo):
    qc tab (A.length+1) 10 (fun m=>aS D (m+1)=aS D m) (fun _=>False) (StM A D) (A.length+2) (RpM D):=by
  have y:∀(E G I J L O f o:Bool) (Q R k:Nat) (u:Int),(lS A E G I J L O f o D Q R k u).all (aG (A.length+2))=Jo:=fun E G I J L O f o Q R k u=>by unfold lS;rw[Cc,bE (by omega) hA];simp[aG,aD,PV.under,aW,bS,aO]
  refine G7 T (aBq T U B S) (by decide) (fun m=>by simp) ?_ ?_ ?_
  · rintro m M ⟨_,E,G,I,J,L,O,f,o,Q,R,rfl⟩;simp[lS]
  · rintro m M ⟨_,E,G,I,J,L,O,f,o,Q,R,rfl⟩;exact y ..
  · rintro m M ⟨_,E,G,I,J,L,O,f,o,Q,R,rfl⟩ K V;refine aGG T (w:=A.length) (cls:=aS D m) (by unfold lS;rw[gk];rfl) (by unfold lS;rw[gk0];rfl) (by rw[b9];exact B.n) ?_ (V _ rfl);rw[show(lS A E G I J L O f o D Q R m m).length=A.length+2 by simp[lS]];exact y ..
def EX{A:Mem}{ow pr:List Int}{su:List (List Int)}(hA:A.all (aG A.length)=Jo)(c1:bO ow pr su=0)(B:Bnd ow pr su)(Y:ow.length<=99):
    qc tab (A.length+3) 10 (fun m=>pZ ow.length (gL ow pr su) (itN ow.length (gL ow pr su) m)) (fun _=>False) (StP A ow pr su) (A.length+4) (RpP ow pr su):=by
  have E:∀(G I J L O Q f4 R:Bool) (y:List Ms) (S U V:Nat) (b:Bool) (u:Int),(hH A G I J L O Q f4 R ow pr su y S U V b u).all (aG (A.length+4))=Jo:=fun G I J L O Q f4 R y S U V b u=>by unfold hH;rw[Cc,bE (by omega) hA];simp[aG,aD,PV.under,aW,aO,dE]
  refine G7 T (WW T hA c1 B Y) (by decide) (fun m=>by unfold aEk;simp) ?_ ?_ ?_
  · rintro m M ⟨_,G,I,J,L,O,Q,f4,R,y,S,U,V,b,_,_,_,rfl⟩;simp[hH]
  · rintro m M ⟨_,G,I,J,L,O,Q,f4,R,y,S,U,V,b,_,_,_,rfl⟩;exact E ..
  · rintro m M ⟨_,G,I,J,L,O,Q,f4,R,y,S,U,V,b,Z,hN,_,rfl⟩ K hk;refine aGF T (w:=A.length) (i2:=A.length+2) (ms:=y) xT (by unfold hH;rw[gk0,Z.l];rfl) (by unfold hH;rw[gk];rfl) (by rw[Z.l];exact B.o) ?_ (hk _ ⟨y,rfl,Z,hN⟩);rw[show(hH A G I J L O Q f4 R ow pr su y S U V b m).length=A.length+4 by simp[hH]];exact E ..
end
inductive In where
  | n (N:NF) | d (D:DF) | g (ow pr:List Int) (su:List (List Int))
def In.k:In->Int
  | .n _=>0 | .d _=>1 | .g .. =>2
def In.N:In->NF
  | .n N=>N | _=>⟨0,0,[],[],[]⟩
def In.D:In->DF
  | .d D=>D | _=>⟨0,0,[],[]⟩
def In.ow:In->List Int
  | .g ow _ _=>ow | _=>[]
def In.pr:In->List Int
  | .g _ pr _=>pr | _=>[]
def In.su:In->List (List Int)
  | .g _ _ su=>su | _=>[]
abbrev In.cs(f o:Bool)(i:In):List PV:=csC f o i.k i.N i.D i.ow i.pr i.su
def In.Bn:In->Prop
  | .n N=>BnN N
  | .d D=>BnD D/\D.nx.length<=99
  | .g ow pr su=>Bnd ow pr su/\ow.length<=99
def In.few:In->Prop
  | .n N=>N.n<=12
  | _=>True
def In.chk:In->Int
  | .n N=>eB N
  | .d D=>cN D
  | .g ow pr su=>bO ow pr su
def In.done:In->Nat->Prop
  | .n N=>fun m=>(stK N m).length<=m
  | .d D=>fun m=>aS D (m+1)=aS D m
  | .g ow pr su=>fun m=>pZ ow.length (gL ow pr su) (itN ow.length (gL ow pr su) m)
def In.ik:In->Nat->Prop
  | .n N=>fun m=>m<(stK N m).length/\4096<(stK N (m+1)).length
  | _=>fun _=>False
def In.rp:In->Nat->Res->Prop
  | .n N=>RpD N
  | .d D=>RpM D
  | .g ow pr su=>RpP ow pr su
def SN(N:NF)(m:Nat):∀d,∃t,rwK N (m+d)=rwK N m++t
  | 0=>⟨[],by simp⟩
  | d+1=>by
    obtain⟨t,h⟩:=SN N m d;show ∃t,rwK N (m+d+1)=_
    cases g:(stK N (m+d))[m+d]? with
    | some a=>refine⟨t++[iM (aJ N) (aL N) (cI (aJ N) a (aL N) (stK N (m+d))) a],?_⟩;rw[show rwK N (m+d+1)=_ from qR g,<-Ab,<-h]
    | none=>
      refine⟨t,?_⟩;have hl:=List.getElem?_eq_none_iff.1 g;have y:=zC hl;have u:=mQ hl;have B:(stK N (m+d+1)).length<=m+d+1:=by rw[show stK N (m+d+1)=stK N (m+d)from u];omega
      have E:=zC B;rw[show rwK N (m+d+1)=_ from E,show dQ (aJ N) (aL N) (dL N) (m+d+1)=_ from u,<-y];exact h
structure Grow (r q:Res):Prop where
  s:∀(i:Nat) x,r.ln[i]? =Jm x->q.ln[i]? =Jm x
  w:∀(i:Nat) x,r.rows[i]? =Jm x->q.rows[i]? =Jm x
  cl:q.cls.length=r.cls.length
  c:∀(i k:Nat) a b,r.cls[i]? =Jm a->r.cls[k]? =Jm b->q.cls[i]? =q.cls[k]? ->a=b
  ml:r.ms.length<=q.ms.length
  m:∀(i:Nat) x y,r.ms[i]? =Jm x->q.ms[i]? =Jm y->w7 x y<=0
structure Res.Sm (r:Res):Prop where
  s:r.ln.length<big
  w:r.rows.length<big
  sr:∀x∈r.ln,x.length<big
  wr:∀x∈r.rows,x.length<big
  f:r.dd.length<big
  c:r.cls.length<big
  m:r.ms.length<big
def In.rp_sm{i:In}(h0:i.chk=0)(y:i.Bn){m:Nat}{r:Res}(h:i.rp m r):r.Sm:=by
  cases i with
  | n N=>
    obtain⟨rfl,h1,h2⟩:=h;have C:=lR h0;have E:(rwK N m).length=m:=mC h1;have G:=xW h1;have I:(aZ (stK N m)).length=(stK N m).length:=by unfold aZ;rw[Ap]
    have B:aL N<=64:=C.pf;refine⟨?_,?_,?_,?_,?_,by show 0<1000000000000;omega,by show 0<1000000000000;omega⟩
    · show(aZ (stK N m)).length<1000000000000;omega
    · show(rwK N m).length<1000000000000;omega
    · intro r hr;obtain⟨a,_,rfl⟩:=List.mem_map.1 hr;have:=BZ a;simp only[bF,Ap];show _<1000000000000;omega
    · intro r hr;obtain⟨a,_,rfl⟩:=List.mem_map.1 hr;rw[sJ];show _<1000000000000;omega
    · show(fnK N m).length<1000000000000;omega
  | d D=>
    obtain rfl:=h;have:(aS D m).length<big:=by rw[b9];exact y.1.n
    exact⟨by show 0<1000000000000;omega,by show 0<1000000000000;omega,fun x u=>absurd u (by simp),fun x u=>absurd u (by simp),by show 0<1000000000000;omega,this,by show 0<1000000000000;omega⟩
  | g ow pr su=>
    obtain⟨J,rfl,K,L⟩:=h;have:J.length<big:=by rw[K.l];exact y.1.o
    exact⟨by show 0<1000000000000;omega,by show 0<1000000000000;omega,fun x u=>absurd u (by simp),fun x u=>absurd u (by simp),by show 0<1000000000000;omega,by show 0<1000000000000;omega,this⟩
def TJ{l:List Int}{i:Nat}{a:Int}(h:l[i]? =Jm a):l.getD i 0=a:=by simp[Ax,h]
def In.grow{i:In}(h0:i.chk=0){m d:Nat}{r q:Res}(hr:i.rp m r)(E:i.rp (m+d) q):Grow r q:=by
  cases i with
  | n N=>
    obtain⟨rfl,h1,h2⟩:=hr;obtain⟨rfl,h3,U⟩:=E;obtain⟨t,ht⟩:=FC (aJ N) (aL N) (dL N) m d;have hs:aZ (stK N (m+d))=aZ (stK N m)++aZ t:=by show aZ (dQ _ _ _ _)=_;rw[ht];unfold aZ;rw[Ay]
    have hw:∃L,rwK N (m+d)=rwK N m++L:=SN N m d;obtain⟨L,I⟩:=hw;refine⟨fun i x h=>?_,fun i x h=>?_,rfl,fun i k a b u=>by simp at u,Ac _,fun i x y B=>by simp at B⟩
    · show(aZ (stK N (m+d)))[i]? =_;rw[hs];exact cE h _
    · show(rwK N (m+d))[i]? =_;rw[I];exact cE h _
  | d D=>
    have hr:r=⟨0,[],[],[],aS D m,[]⟩:=hr;have E:q=⟨0,[],[],[],aS D (m+d),[]⟩:=E;subst hr;subst E;refine⟨fun i x h=>by simp at h,fun i x h=>by simp at h,by show(aS D (m+d)).length=(aS D m).length;rw[b9,b9],fun i k a b u hb hh=>?_,Ac _,fun i x y B=>by simp at B⟩;have Q:i<D.nx.length:=by have:=aI u;rw[b9]at this;exact this
    have R:k<D.nx.length:=by have:=aI hb;rw[b9]at this;exact this
    have:=zD D m i k Q R d (by unfold Ax;rw[show(aS D (m+d))[i]? =(aS D (m+d))[k]? from hh]);rw[TJ u,TJ hb]at this;exact this
  | g ow pr su=>obtain⟨S,rfl,M,T⟩:=hr;obtain⟨J,rfl,G,K⟩:=E;refine⟨fun i x h=>by simp at h,fun i x h=>by simp at h,rfl,fun i k a b u=>by simp at u,by show S.length<=J.length;rw[M.l,G.l];exact Ac _,fun i x y B O=>?_⟩;refine(HM (M.ok x (Af B)) (G.ok y (Af O))).2 ?_;rw[<-pB B,<-pB O,T,K];exact aBz m i d
section
variable {tab:Tb} (T:HasA tab){M:Mem}{K:Kp}
include T
omit T in
def In.rf{i:In}(h0:i.chk=0){m:Nat}{r:Res}(h:i.rp m r):∀x∈r.ms,x.fit:=by
  cases i with
  | n N=>obtain⟨rfl,_⟩:=h;exact fun x u=>by cases u
  | d D=>have h:r=_:=h;subst h;exact fun x u=>by cases u
  | g ow pr su=>obtain⟨B,rfl,y,_⟩:=h;exact fun x u=>(y.ok x u).fit (xP (n7 (eU h0)).1)
omit T in
def In.rp_eq{i:In}{m:Nat}{r q:Res}(h:i.rp m r)(u:i.rp m q):r=q:=by
  cases i with
  | n N=>obtain⟨rfl,_⟩:=h;obtain⟨rfl,_⟩:=u;rfl
  | d D=>have h:r=_:=h;have u:q=_:=u;rw[h,u]
  | g ow pr su=>obtain⟨G,rfl,I,J⟩:=h;obtain⟨y,rfl,B,E⟩:=u;have:G=y:=I.eq B (fun v _=>by rw[J,E]);rw[this]
set_option maxHeartbeats 1000000 in
def aGz{r:Res}(u:r.Sm)(hf:∀x∈r.ms,x.fit)(J:K (.bool Jo) M):aj tab 21 [r.pv,r.pv] M K:=by
  have U:r.ms.length<1000000000000:=u.m;have B:BnD ⟨r.vs,0,r.rows,r.dd⟩:=⟨u.w,u.wr,u.f⟩;refine aF T.h21 (by simp only[Res.pv,PP,simprocAttr,PN]) ?_;simp only[Res.pv,af21,PP,simprocAttr];refine aBN T (D:=⟨r.vs,0,r.rows,r.dd⟩) (D':=⟨r.vs,0,r.rows,r.dd⟩) B fun b hb=>?_;obtain rfl:b=Jo:=hb.2 rfl;simp only[PP,simprocAttr];refine wL T u.s u.sr ?_;simp only[PP,simprocAttr];refine lH T u.c ?_;simp only[PP,simprocAttr];refine dN (fun(k:Nat)=>k<=r.ms.length) (fun k=>(.aa:: .aa:: .ptr 0 0 0:: .ptr 1 0 0:: .aa::p64 k::zj 49)) (fun k=>[.cells 0 0 [p64 r.vs,p64 0,slR Jp Jo Jp Jo .i64 r.rows,slB Jp Jo r.dd,slR Jp Jo Jp Jo .i64 r.ln,slI Jp Jo .i64 r.cls,slM Jp Jo r.ms],.cells 0 0 [p64 r.vs,p64 0,slR Jp Jo Jp Jo .i64 r.rows,slB Jp Jo r.dd,slR Jp Jo Jp Jo .i64 r.ln,slI Jp Jo .i64 r.cls,slM Jp Jo r.ms]]) (fun k=>r.ms.length-k) 0 (by omega) (by simp only[PW]) rfl ?_;intro k L O;refine aH (by kernel_rfl) ?_;simp only[PP,simprocAttr];refine QIf.intro (fun d=>?_) fun d=>?_
  · have y:k<r.ms.length:=by omega
    have Q:(0:Int)<=k:=by omega
    have E:=aC (k:=k) (by show _<1000000000000;omega);obtain⟨x,G⟩:=aM (xs:=r.ms) (k:=k) y;have R:=eY G;have S:=qF G;have I:=hf x (Af G);simp only[PP,simprocAttr,PN,d,Q,R,S,SS I I,E];exact aE (O (k+1) (by omega) (by omega)) (by simp only[PW])
  · simp only[PP,simprocAttr,d];exact J
end
def o5(n:Nat):List UInt8:=dig 20 n
def w6(n:Nat):ByteArray:=⟨(o5 n).toArray⟩
def s9{n:Nat}(h:n<100000000000000000000):o5 n=Lib.decDigits n:=BQ 20 n (by omega) (by decide)
def DB{k:Nat}(h:k<256):(UInt8.ofNat k).toNat=k:=by simp;omega
def iQ(o:Option Nat)(b:UInt8):Option Nat:=match o with
  | none=>Jn
  | some n=>if 48<=b.toNat/\b.toNat<=57/\10*n+(b.toNat-48)<=2147483647 then Jm (10*n+(b.toNat-48))else Jn
def q9:∀l:List UInt8,l.foldl iQ Jn=Jn
  | []=>rfl
  | b::l=>q9 l
def uT:∀(n:Nat),n<=2147483647->(Lib.decDigits n).foldl iQ (Jm 0)=Jm n:=by
  intro n
  induction n using Ga with
  | ind n y=>
    intro h;rw[Lib.decDigits];by_cases u:n<10
    · rw[dif_pos u];have e:=DB (k:=48+n) (by omega);show iQ (Jm 0) _=_;unfold iQ;simp only[e];rw[if_pos (by omega)];congr 1;omega
    · rw[dif_neg u,Em,y (n / 10) (by omega) (by omega)];have e:=DB (k:=48+n % 10) (by omega);show iQ (Jm (n / 10)) _=_;unfold iQ;simp only[e];rw[if_pos (by omega)];congr 1;omega
def kM(w:List UInt8):Option Nat:=match w.foldl iQ (Jm 0)with
  | some n=>if o5 n=w then Jm n else Jn
  | none=>Jn
def BI:∀(l:List UInt8) (o:Option Nat) (n:Nat),(∀k,o=Jm k->k<=2147483647)->l.foldl iQ o=Jm n->n<=2147483647
  | [],o,n,h,e=>h n e
  | b::l,o,n,h,e=>BI l (iQ o b) n (fun k u=>by
    unfold iQ at u;split at u
    · cases u
    · split at u
      · cases u;omega
      · cases u) e
def iq{w:List UInt8}{n:Nat} :kM w=Jm n↔n<=2147483647/\o5 n=w:=by
  constructor
  · intro h;unfold kM at h;split at h
    · rename_i k u;split at h
      · rename_i he;cases h;exact⟨BI w (Jm 0) _ (fun k u=>by cases u;omega) u,he⟩
      · cases h
    · cases h
  · rintro⟨h,rfl⟩;unfold kM;have e:=s9 (n:=n) (by omega);rw[e,uT n h];simp only;rw[if_pos e]
def XB:∀(n:Nat),∀b∈Lib.decDigits n,48<=b.toNat/\b.toNat<=57:=by
  intro n
  induction n using Ga with
  | ind n y=>
    intro b hb;rw[Lib.decDigits]at hb;by_cases u:n<10
    · rw[dif_pos u]at hb;have e:=DB (k:=48+n) (by omega);rw[Bp]at hb;subst hb;omega
    · rw[dif_neg u,Ci,Bp]at hb;rcases hb with hb | hb
      · exact y (n / 10) (by omega) b hb
      · have e:=DB (k:=48+n % 10) (by omega);subst hb;omega
def aBV(n:Nat):Lib.decDigits n≠[]:=by
  rw[Lib.decDigits];by_cases u:n<10
  · rw[dif_pos u];simp
  · rw[dif_neg u];simp
def tU(c:UInt8):∀l,bL c l≠[]
  | []=>by simp[bL]
  | b::l=>by
    unfold bL;split
    · simp
    · unfold o6;split<;>simp
def sS:List (List UInt8)->List UInt8
  | []=>[]
  | w::u=>w++u.flatMap fun x=>32::x
def LD:∀u:List (List UInt8),Lib.join u [32]=sS u
  | []=>rfl
  | [w]=>by simp[Lib.join,sS]
  | w::v::u=>by have:=LD (v::u);show w++([32]++Lib.join (v::u) [32])=_;rw[this];simp[sS]
def LE(b:UInt8):∀{u:List (List UInt8)},u≠[]->sS (o6 b u)=b::sS u
  | [],h=>absurd rfl h
  | w::u,_=>rfl
def qX:∀l:List UInt8,sS (bL 32 l)=l
  | []=>rfl
  | b::l=>by
    have u:=qX l;have y:=tU 32 l;unfold bL;by_cases h:b=32
    · rw[if_pos h];subst h;revert u y
      match bL 32 l with
      | []=>exact fun _ h=>absurd rfl h
      | w::B=>intro u _;show []++(32::w++B.flatMap _)=_;rw[<-u];rfl
    · rw[if_neg h,LE b y,u]
def gF:List (List UInt8)->Option (List Nat)
  | []=>Jm []
  | w::u=>match kM w,gF u with
    | some n,Jm y=>Jm (n::y)
    | _,_=>Jn
def ec:∀{B:List (List UInt8)} {u:List Nat},gF B=Jm u↔B=u.map o5/\∀n∈u,n<=2147483647
  | [],u=>by
    constructor
    · intro h;cases h;exact⟨rfl,fun n h=>by cases h⟩
    · rintro⟨h,_⟩
      cases u with
      | nil=>rfl
      | cons=>cases h
  | w::B,u=>by
    unfold gF;constructor
    · intro h;split at h
      · rename_i n E h1 h2;cases h;obtain⟨G,I⟩:=iq.1 h1;obtain⟨J,K⟩:=ec.1 h2;refine⟨by rw[Ak,I,J],fun x y=>?_⟩;rcases List.mem_cons.1 y with rfl | y
        · exact G
        · exact K x y
      · cases h
    · rintro⟨h1,h2⟩
      cases u with
      | nil=>cases h1
      | cons n E=>rw[Ak]at h1;cases h1;rw[iq.2 ⟨h2 n (by simp),rfl⟩,ec.2 ⟨rfl,fun x y=>h2 x (by simp[y])⟩]
structure RS where
  l:List Nat
  e:Int
  late:Int
def RS.next(r:RS):Nat×RS:=match r.l with
  | []=>(0,⟨[],if r.e=0 then 3 else r.e,r.late⟩)
  | n::l=>(n,⟨l,r.e,r.late⟩)
def RS.small(lim:Nat)(r:RS):Nat×RS:=(min r.next.1 lim,⟨r.next.2.l,r.next.2.e,if lim<r.next.1 then 1 else r.next.2.late⟩)
def bG{σ:Type}(f:σ->RS->σ×RS):Nat->σ->RS->σ×RS
  | 0,s,r=>(s,r)
  | n+1,s,r=>if r.e=0 then bG f n (f s r).1 (f s r).2 else(s,r)
def RS.list(n:Nat)(r:RS):List Int×RS:=bG (fun u r=>(u++[(r.next.1:Int)],r.next.2)) n [] r
def RS.vars(r:RS):Nat×RS:=(r.next.1,⟨r.next.2.l,if 6<r.next.1 then 7 else r.next.2.e,r.next.2.late⟩)
def eM(r:RS):Eg×RS:=
  let a:=r.next;let b:=a.2.next;let c:=b.2.small 255;let d:=c.2.small 255
  (⟨a.1,b.1,c.1,d.1⟩,d.2)
def RS.nfa(r:RS):NF×RS:=
  let a:=r.vars;let b:=a.2.next;let c:=b.2.next;let d:=RS.list c.1 c.2;let e:=d.2.next;let f:=RS.list e.1 e.2;let g:=f.2.next
  let h:=bG (fun u r=>(u++[(eM r).1],(eM r).2)) g.1 [] g.2
  (⟨a.1,b.1,d.1,f.1,h.1⟩,h.2)
def RS.dfa(r:RS):DF×RS:=
  let a:=r.vars;let b:=a.2.next;let c:=b.2.next
  let d:=bG (fun u r=>(u++[(RS.list (2^(min a.1 6)) r).1],(RS.list (2^(min a.1 6)) r).2)) c.1 [] c.2
  let e:=bG (fun u r=>(u++[decide ((r.small 1).1=1)],(r.small 1).2)) c.1 [] d.2
  (⟨a.1,b.1,d.1,e.1⟩,e.2)
def RS.dj(r:RS):(List Int×List Int×List (List Int))×RS:=
  let c:=r.next
  let d:=bG (fun u r=>(u++[((r.small 255).1:Int)],(r.small 255).2)) c.1 [] c.2
  let e:=bG (fun u r=>(u++[(r.next.1:Int)],r.next.2)) c.1 [] d.2
  let f:=bG (fun u r=>(u++[(RS.list r.next.1 r.next.2).1],(RS.list r.next.1 r.next.2).2)) c.1 [] e.2
  ((d.1,e.1,f.1),f.2)
def kwD:List UInt8:=[100,101,116,101,114,109,105,110,105,122,101]
def kwM:List UInt8:=[109,105,110,105,109,105,122,101]
def kwP:List UInt8:=[109,101,97,115,117,114,101,115]
def bw(k:List UInt8)(r:RS):In×RS:=
  if k=kwD then(.n r.nfa.1,r.nfa.2)else if k=kwM then(.d r.dfa.1,r.dfa.2)else(.g r.dj.1.1 r.dj.1.2.1 r.dj.1.2.2,r.dj.2)
def In.kw:In->List UInt8
  | .n _=>kwD | .d _=>kwM | .g .. =>kwP
inductive PR where
  | err (e:Int) | ok (i:In) (u:Nat)
def kP(k:List UInt8)(u:List Nat):PR:=
  if(RS.next ⟨u,0,0⟩).2.e≠0 then .err (RS.next ⟨u,0,0⟩).2.e else
  if(bw k (RS.next ⟨u,0,0⟩).2).2.e≠0 then .err (bw k (RS.next ⟨u,0,0⟩).2).2.e else
  if(bw k (RS.next ⟨u,0,0⟩).2).2.l≠[]then .err 5 else
  if(bw k (RS.next ⟨u,0,0⟩).2).2.late≠0 then .err (bw k (RS.next ⟨u,0,0⟩).2).2.late else
  .ok (bw k (RS.next ⟨u,0,0⟩).2).1 (RS.next ⟨u,0,0⟩).1
def cL(l:List UInt8):PR:=match bL 32 l with
  | []=> .err 6
  | k::u=>if k=kwD\/k=kwM\/k=kwP then match gF u with
    | none=> .err 2
    | some y=>kP k y
    else .err 6
def cM(l:List Int):List Int:=(l.length:Int)::l
def egN(e:Eg):List Int:=[e.fr,e.to,e.ps,e.ng]
def b2I(b:Bool):Int:=if b=Jo then 1 else 0
def In.dp:In->List Int
  | .n N=>[N.vs,N.n]++cM N.st++cM N.fi++(N.es.length:Int)::N.es.flatMap egN
  | .d D=>[D.vs,D.st,(D.nx.length:Int)]++D.nx.flatten++D.fi.map b2I
  | .g ow pr su=>(ow.length:Int)::ow++pr++su.flatMap cM
def In.txt(i:In)(u:Nat):List UInt8:=sS (i.kw::((u:Int)::i.dp).map fun n=>o5 n.toNat)
def RS.li(r:RS):List Int:=r.l.map fun n:Nat=>(n:Int)
def Rd(r u:RS)(y:List Int):Prop:=u.e=0->u.late=0->r.e=0/\r.late=0/\r.li=y++u.li
def Rd.refl(r:RS):Rd r r []:=fun h1 h2=>⟨h1,h2,rfl⟩
def Rd.trans{a b c:RS}{x y:List Int}(h:Rd a b x)(k:Rd b c y):Rd a c (x++y):=fun h1 h2=>by obtain⟨u,B,E⟩:=k h1 h2;obtain⟨G,I,J⟩:=h u B;exact⟨G,I,by rw[J,E,Ab]⟩
def Rd.next(r:RS):Rd r r.next.2 [(r.next.1:Int)]:=by
  obtain⟨l,e,la⟩:=r
  cases l with
  | nil=>
    intro h1 h2;simp only[RS.next]at h1;split at h1
    · cases h1
    · contradiction
  | cons n l=>exact fun h1 h2=>⟨h1,h2,rfl⟩
def Rd.small(r:RS)(k:Nat):Rd r (r.small k).2 [((r.small k).1:Int)]:=by
  intro h1 h2;unfold RS.small at h1 h2 ⊢;simp only at h1 h2 ⊢;split at h2
  · cases h2
  · rename_i u;have:=Rd.next r h1 h2;rw[Dv (by omega)];exact this
def Rd.vars(r:RS):Rd r r.vars.2 [(r.vars.1:Int)]:=by
  intro h1 h2;unfold RS.vars at h1 h2 ⊢;simp only at h1 h2 ⊢;split at h1
  · cases h1
  · exact Rd.next r h1 h2
def Rd.each{σ:Type}{f:σ->RS->σ×RS}{g:σ->List Int}(hf:∀s r,∃u,Rd r (f s r).2 u/\g (f s r).1=g s++u):∀(n:Nat) (s:σ) (r:RS),∃u,Rd r (bG f n s r).2 u/\g (bG f n s r).1=g s++u
  | 0,s,r=>⟨[],Rd.refl r,by simp[bG]⟩
  | n+1,s,r=>by
    unfold bG;by_cases h:r.e=0
    · rw[if_pos h];obtain⟨x,B,E⟩:=hf s r;obtain⟨y,G,I⟩:=Rd.each hf n (f s r).1 (f s r).2;exact⟨x++y,B.trans G,by rw[I,E,Ab]⟩
    · rw[if_neg h];exact⟨[],Rd.refl r,by simp⟩
def oX{σ:Type}{f:σ->RS->σ×RS}{len:σ->Nat}(hf:∀s r,len (f s r).1=len s+1):∀(n:Nat) (s:σ) (r:RS),(bG f n s r).2.e=0->len (bG f n s r).1=len s+n
  | 0,s,r,_=>rfl
  | n+1,s,r,h=>by
    unfold bG at h ⊢;by_cases c:r.e=0
    · rw[if_pos c]at h ⊢;rw[oX hf n _ _ h,hf];omega
    · rw[if_neg c]at h;exact absurd h c
def Rd.list(n:Nat)(r:RS):Rd r (RS.list n r).2 (RS.list n r).1:=by
  obtain⟨y,h1,h2⟩:=Rd.each (f:=fun u r=>(u++[(r.next.1:Int)],r.next.2)) (g:=fun l=>l) (fun s r=>⟨_,Rd.next r,rfl⟩) n [] r;have:(RS.list n r).1=y:=by show(bG _ n [] r).1=y;rw[h2];rfl
  rw[this];exact h1
def AG{n:Nat}{r:RS}(h:(RS.list n r).2.e=0):(RS.list n r).1.length=n:=by have:=oX (len:=fun l:List Int=>l.length) (f:=fun u r=>(u++[((RS.next r).1:Int)],(RS.next r).2)) (fun s r=>by simp) n [] r h;have:(RS.list n r).1.length=0+n:=this;omega
def Rd.po(r:RS):Rd r (eM r).2 (egN (eM r).1):=by have h:=(((Rd.next r).trans (Rd.next r.next.2)).trans (Rd.small r.next.2.next.2 255)).trans (Rd.small (r.next.2.next.2.small 255).2 255);exact h
def Rd.nfa(r:RS):Rd r r.nfa.2 (In.n r.nfa.1).dp:=by
  intro y B;obtain⟨J,h1,h2⟩:=Rd.each (f:=fun u r=>(u++[(eM r).1],(eM r).2)) (g:=fun l=>l.flatMap egN) (fun s r=>⟨_,Rd.po r,by simp⟩) (RS.next (RS.list (RS.next (RS.list (RS.next (RS.next r.vars.2).2).1 (RS.next (RS.next r.vars.2).2).2).2).1 (RS.next (RS.list (RS.next (RS.next r.vars.2).2).1 (RS.next (RS.next r.vars.2).2).2).2).2).2).1 [] (RS.next (RS.list (RS.next (RS.list (RS.next (RS.next r.vars.2).2).1 (RS.next (RS.next r.vars.2).2).2).2).1 (RS.next (RS.list (RS.next (RS.next r.vars.2).2).1 (RS.next (RS.next r.vars.2).2).2).2).2).2).2;have hl:=oX (len:=fun l:List Eg=>l.length) (f:=fun u r=>(u++[(eM r).1],(eM r).2)) (fun s r=>by simp) _ [] _ (show(bG (fun u r=>(u++[(eM r).1],(eM r).2)) (RS.next (RS.list (RS.next (RS.list (RS.next (RS.next r.vars.2).2).1 (RS.next (RS.next r.vars.2).2).2).2).1 (RS.next (RS.list (RS.next (RS.next r.vars.2).2).1 (RS.next (RS.next r.vars.2).2).2).2).2).2).1 [] (RS.next (RS.list (RS.next (RS.list (RS.next (RS.next r.vars.2).2).1 (RS.next (RS.next r.vars.2).2).2).2).1 (RS.next (RS.list (RS.next (RS.next r.vars.2).2).1 (RS.next (RS.next r.vars.2).2).2).2).2).2).2).2.e=0 from y);have K:=Rd.vars r;have L:=Rd.next r.vars.2;have M:=Rd.next (RS.next r.vars.2).2;have O:=Rd.list (RS.next (RS.next r.vars.2).2).1 (RS.next (RS.next r.vars.2).2).2;have I:=Rd.next (RS.list (RS.next (RS.next r.vars.2).2).1 (RS.next (RS.next r.vars.2).2).2).2;have G:=Rd.list (RS.next (RS.list (RS.next (RS.next r.vars.2).2).1 (RS.next (RS.next r.vars.2).2).2).2).1 (RS.next (RS.list (RS.next (RS.next r.vars.2).2).1 (RS.next (RS.next r.vars.2).2).2).2).2;have E:=Rd.next (RS.list (RS.next (RS.list (RS.next (RS.next r.vars.2).2).1 (RS.next (RS.next r.vars.2).2).2).2).1 (RS.next (RS.list (RS.next (RS.next r.vars.2).2).1 (RS.next (RS.next r.vars.2).2).2).2).2).2;have V:=(E.trans h1) y B;have Y:=(G.trans (E.trans h1)) y B;have Q:=AG (E.trans h1 y B).1;have R:=AG ((I.trans (G.trans (E.trans h1))) y B).1;have:=(K.trans (L.trans (M.trans (O.trans (I.trans (G.trans (E.trans h1))))))) y B;refine⟨this.1,this.2.1,?_⟩;rw[this.2.2];have S:(In.n r.nfa.1).dp=[(r.vars.1:Int),((RS.next r.vars.2).1:Int)]++cM (RS.list (RS.next (RS.next r.vars.2).2).1 (RS.next (RS.next r.vars.2).2).2).1++cM (RS.list (RS.next (RS.list (RS.next (RS.next r.vars.2).2).1 (RS.next (RS.next r.vars.2).2).2).2).1 (RS.next (RS.list (RS.next (RS.next r.vars.2).2).1 (RS.next (RS.next r.vars.2).2).2).2).2).1++(r.nfa.1.es.length:Int)::r.nfa.1.es.flatMap egN:=rfl;rw[S];have T:r.nfa.1.es.flatMap egN=J:=by rw[show r.nfa.1.es=_ from rfl];exact h2
  have U:r.nfa.1.es.length=(RS.next (RS.list (RS.next (RS.list (RS.next (RS.next r.vars.2).2).1 (RS.next (RS.next r.vars.2).2).2).2).1 (RS.next (RS.list (RS.next (RS.next r.vars.2).2).1 (RS.next (RS.next r.vars.2).2).2).2).2).2).1:=by have:r.nfa.1.es.length=0+_:=hl;rw[this,Az]
  rw[T,U];unfold cM;rw[Q,R];simp only[Al,Aq,Ab];rfl
def Rd.dfa(r:RS):Rd r r.dfa.2 (In.d r.dfa.1).dp:=by
  intro B E;obtain⟨G,h1,h2⟩:=Rd.each (f:=fun u y=>(u++[(RS.list (2^(min r.vars.1 6)) y).1],(RS.list (2^(min r.vars.1 6)) y).2)) (g:=fun l=>l.flatten) (fun s r=>⟨_,Rd.list _ r,by simp⟩) (RS.next (RS.next r.vars.2).2).1 [] (RS.next (RS.next r.vars.2).2).2;obtain⟨I,h3,J⟩:=Rd.each (f:=fun u r=>(u++[decide ((RS.small 1 r).1=1)],(RS.small 1 r).2)) (g:=fun l:List Bool=>l.map b2I) (fun s r=>⟨_,Rd.small r 1,by
    have:(RS.small 1 r).1<=1:=by unfold RS.small;simp only;omega
    simp only[Ay,Ak,Bq,b2I,decide_eq_true_eq];congr 2;split<;>omega⟩) (RS.next (RS.next r.vars.2).2).1 [] (bG (fun u y=>(u++[(RS.list (2^(min r.vars.1 6)) y).1],(RS.list (2^(min r.vars.1 6)) y).2)) (RS.next (RS.next r.vars.2).2).1 [] (RS.next (RS.next r.vars.2).2).2).2
  have K:=Rd.vars r;have L:=Rd.next r.vars.2;have M:=Rd.next (RS.next r.vars.2).2;have k:=h3 B E;have hl:=oX (len:=fun l:List (List Int)=>l.length) (f:=fun u y=>(u++[(RS.list (2^(min r.vars.1 6)) y).1],(RS.list (2^(min r.vars.1 6)) y).2)) (fun s r=>by simp) _ [] _ k.1;have:=(K.trans (L.trans (M.trans (h1.trans h3)))) B E;refine⟨this.1,this.2.1,?_⟩;rw[this.2.2];have O:(In.d r.dfa.1).dp=[(r.vars.1:Int),((RS.next r.vars.2).1:Int),(r.dfa.1.nx.length:Int)]++r.dfa.1.nx.flatten++r.dfa.1.fi.map b2I:=rfl;rw[O];have Q:r.dfa.1.nx.flatten=G:=h2;have R:r.dfa.1.fi.map b2I=I:=J;have S:r.dfa.1.nx.length=(RS.next (RS.next r.vars.2).2).1:=by
    have:r.dfa.1.nx.length=0+_:=hl;rw[this,Az]
  rw[Q,R,S];simp only[Al,Aq,Ab];rfl
def Rd.dj(r:RS):Rd r r.dj.2 (In.g r.dj.1.1 r.dj.1.2.1 r.dj.1.2.2).dp:=by
  intro G I;obtain⟨J,h1,h2⟩:=Rd.each (f:=fun u r=>(u++[((RS.small 255 r).1:Int)],(RS.small 255 r).2)) (g:=fun l=>l) (fun s r=>⟨_,Rd.small r 255,rfl⟩) r.next.1 [] r.next.2;obtain⟨K,h3,L⟩:=Rd.each (f:=fun u r=>(u++[((RS.next r).1:Int)],(RS.next r).2)) (g:=fun l=>l) (fun s r=>⟨_,Rd.next r,rfl⟩) r.next.1 [] (bG (fun u r=>(u++[((RS.small 255 r).1:Int)],(RS.small 255 r).2)) r.next.1 [] r.next.2).2;have y:∀(r:RS),(RS.list r.next.1 r.next.2).2.e=0->(RS.list r.next.1 r.next.2).1.length=r.next.1:=fun r h=>AG h;have M:∀(n:Nat) (s:List (List Int)) (r:RS),(bG (fun u r=>(u++[(RS.list (RS.next r).1 (RS.next r).2).1],(RS.list (RS.next r).1 (RS.next r).2).2)) n s r).2.e=0->(bG (fun u r=>(u++[(RS.list (RS.next r).1 (RS.next r).2).1],(RS.list (RS.next r).1 (RS.next r).2).2)) n s r).2.late=0->
      r.e=0/\r.late=0/\∃B,r.li=B++(bG (fun u r=>(u++[(RS.list (RS.next r).1 (RS.next r).2).1],(RS.list (RS.next r).1 (RS.next r).2).2)) n s r).2.li/\(bG (fun u r=>(u++[(RS.list (RS.next r).1 (RS.next r).2).1],(RS.list (RS.next r).1 (RS.next r).2).2)) n s r).1.flatMap cM=s.flatMap cM++B:=by
    intro n
    induction n with
    | zero=>exact fun s r a b=>⟨a,b,[],rfl,by simp[bG]⟩
    | succ n O=>
      intro s r a b;unfold bG at a b ⊢;by_cases c:r.e=0
      · rw[if_pos c]at a b ⊢;obtain⟨E,Q,B,R,S⟩:=O _ _ a b;obtain⟨T,U,V⟩:=(Rd.next r).trans (Rd.list r.next.1 r.next.2) E Q;refine⟨T,U,([((RS.next r).1:Int)]++(RS.list r.next.1 r.next.2).1)++B,by rw[V,show(RS.list r.next.1 r.next.2).2.li=_ from R];simp only[Ab],?_⟩;rw[S];simp only[Jg,Cd,List.flatMap_nil,Bv,cM,y r E,Ab];rfl
      · rw[if_neg c]at a;exact absurd a c
  obtain⟨k1,k2,Y,Z,k4⟩:=M _ _ _ G I;have g3:=h3 k1 k2;have hl:=oX (len:=fun l:List Int=>l.length) (f:=fun u r=>(u++[((RS.small 255 r).1:Int)],(RS.small 255 r).2)) (fun s r=>by simp) _ [] _ g3.1;have:=((Rd.next r).trans (h1.trans h3)) k1 k2;refine⟨this.1,this.2.1,?_⟩;rw[this.2.2,Z];have e1:(In.g r.dj.1.1 r.dj.1.2.1 r.dj.1.2.2).dp=(r.dj.1.1.length:Int)::r.dj.1.1++r.dj.1.2.1++r.dj.1.2.2.flatMap cM:=rfl;rw[e1];have e2:r.dj.1.1=J:=h2;have e3:r.dj.1.2.1=K:=L;have e4:r.dj.1.2.2.flatMap cM=Y:=k4;have e5:r.dj.1.1.length=r.next.1:=by
    have:r.dj.1.1.length=0+_:=hl;rw[this,Az]
  rw[e5,e2,e3,e4];simp only[Al,Aq,Ab];rfl
def ZU{k:List UInt8}(u:k=kwD\/k=kwM\/k=kwP)(r:RS):(bw k r).1.kw=k:=by
  have d1:kwM≠kwD:=by decide
  have d2:kwP≠kwD:=by decide
  have d3:kwP≠kwM:=by decide
  rcases u with rfl | rfl | rfl
  · unfold bw;rw[if_pos rfl];rfl
  · unfold bw;rw[if_neg d1,if_pos rfl];rfl
  · unfold bw;rw[if_neg d2,if_neg d3];rfl
def Rd.bw(k:List UInt8)(r:RS):Rd r (bw k r).2 (bw k r).1.dp:=by
  unfold Ar.bw;split
  · exact Rd.nfa r
  · split
    · exact Rd.dfa r
    · exact Rd.dj r
def zS{l:List UInt8}{i:In}{u:Nat}(h:cL l= .ok i u):i.txt u=l/\u<=2147483647:=by
  unfold cL at h;split at h
  · cases h
  · rename_i k I hs;split at h
    · rename_i J;split at h
      · cases h
      · rename_i y K;obtain⟨L,M⟩:=ec.1 K;unfold kP at h;split at h
        · cases h
        · rename_i O;split at h
          · cases h
          · rename_i Q;split at h
            · cases h
            · rename_i R;split at h
              · cases h
              · rename_i S;have d1:=Classical.not_not.1 O;have d2:=Classical.not_not.1 Q;have d3:=Classical.not_not.1 R;have T:=Classical.not_not.1 S;obtain⟨V,Y,E⟩:=(Rd.next ⟨y,0,0⟩).trans (Rd.bw k (RS.next ⟨y,0,0⟩).2) d2 T;injection h with h1 h2;have B:=ZU J (RS.next ⟨y,0,0⟩).2;rw[h1]at B E;rw[h2]at E;have U:(Ar.bw k (RS.next ⟨y,0,0⟩).2).2.li=[]:=by unfold RS.li;rw[d3];rfl
                rw[U,Bv]at E;have G:(u:Int)::i.dp=y.map fun n:Nat=>(n:Int):=E.symm;constructor
                · unfold In.txt;rw[G,Du,B];have:(y.map ((fun n:Int=>o5 n.toNat)∘fun n:Nat=>(n:Int)))=I:=by rw[L];exact Dt fun x _=>by simp
                  rw[this,<-hs];exact qX l
                · cases y with
                  | nil=>simp at G
                  | cons n y=>simp only[Ak,List.cons.injEq]at G;have:=M n (by simp);omega
    · cases h
def V7{l:List UInt8}{e:Int}(h:cL l= .err e):e≠0:=by
  unfold cL at h;split at h
  · cases h;decide
  · split at h
    · split at h
      · cases h;decide
      · unfold kP at h;split at h
        · rename_i c;cases h;exact c
        · split at h
          · rename_i c;cases h;exact c
          · split at h
            · cases h;decide
            · split at h
              · rename_i c;cases h;exact c
              · cases h
    · cases h;decide
def vY(n:Nat)(l:List Nat):RS.next ⟨n::l,0,0⟩=(n,⟨l,0,0⟩):=rfl
def JD{n k:Nat}(h:n<=k)(l:List Nat):RS.small k ⟨n::l,0,0⟩=(n,⟨l,0,0⟩):=by unfold RS.small;rw[vY];simp only;rw[if_neg (by omega),Dv h]
def aFV{n:Nat}(h:n<=6)(l:List Nat):RS.vars ⟨n::l,0,0⟩=(n,⟨l,0,0⟩):=by unfold RS.vars;rw[vY];simp only;rw[if_neg (by omega)]
abbrev tn(l:List Int):List Nat:=l.map Dc
def lI{α:Type}{f:List α->RS->List α×RS}{enc:α->List Int} :∀(u:List α) (s:List α) (rest:List Nat),(∀x∈u,∀s rest,f s ⟨tn (enc x)++rest,0,0⟩=(s++[x],⟨rest,0,0⟩))->
    bG f u.length s ⟨tn (u.flatMap enc)++rest,0,0⟩=(s++u,⟨rest,0,0⟩)
  | [],s,rest,h=>by simp[bG]
  | x::u,s,rest,h=>by
    rw[As];unfold bG;rw[if_pos rfl];have e:tn ((x::u).flatMap enc)++rest=tn (enc x)++(tn (u.flatMap enc)++rest):=by simp
    rw[e,h x (by simp)];simp only;rw[lI u _ rest fun y B=>h y (by simp[B])];simp
def S3{xs:List Int}(h:∀x∈xs,0<=x)(rest:List Nat):RS.list xs.length ⟨tn xs++rest,0,0⟩=(xs,⟨rest,0,0⟩):=by have:=lI (f:=fun u r=>(u++[((RS.next r).1:Int)],(RS.next r).2)) (enc:=fun x:Int=>[x]) xs [] rest (fun x y s rest=>by have e:=h x y;show(s++[((x.toNat:Nat):Int)],_)=_;rw[Cz e];rfl);simpa [RS.list]using this
def aIV{x:Eg}(h1:0<=x.fr)(h2:0<=x.to)(h3:0<=x.ps/\x.ps<=255)(u:0<=x.ng/\x.ng<=255)(rest:List Nat):eM ⟨tn (egN x)++rest,0,0⟩=(x,⟨rest,0,0⟩):=by unfold eM egN;simp only[Ak,Bq,Al,Aq,vY,JD (show x.ps.toNat<=255 by omega),JD (show x.ng.toNat<=255 by omega)];have y:=Cz h1;have B:=Cz h2;have E:=Cz h3.1;have G:=Cz u.1;rw[y,B,E,G]
def In.Pos:In->Prop
  | .g ow _ _=>∀x∈ow,0<=x
  | _=>True
def GC{n:Int}{l:List Int}(h:dZ n (-1) l=Jo):∀x∈l,0<=x/\x<n:=fun x u=>by have:=kO h x u;omega
def aGR{N:NF}(C:NOk N)(B:BnN N):RS.nfa ⟨tn (In.n N).dp,0,0⟩=(N,⟨[],0,0⟩):=by have G:=C.v0;have S:=C.v6;have I:=C.n0;have J:=fun rest=>S3 (xs:=N.st) (fun x u=>(GC C.st x u).1) rest;have L:=fun rest=>S3 (xs:=N.fi) (fun x u=>(GC C.fi x u).1) rest;have E:=lI (f:=fun y r=>(y++[(eM r).1],(eM r).2)) (enc:=egN) N.es [] [] (fun x u s rest=>by obtain⟨M,_,O,_,_⟩:=C.ed x u;obtain⟨Q,R⟩:=B.b x u;show(s++[(eM _).1],(eM _).2)=_;rw[aIV M O Q R]);rw[Bv]at E;unfold RS.nfa In.dp cM;simp only[Ak,Ay,Al,Aq,Ab,aFV (show N.vs.toNat<=6 by omega),vY,Ck];rw[J];simp only[vY];rw[L];simp only[vY];rw[E];rw[Cz G,Cz I];rfl
def aHA{D:DF}(C:OkD D):RS.dfa ⟨tn (In.d D).dp,0,0⟩=(D,⟨[],0,0⟩):=by
  have E:=C.v0;have Q:=C.v6;have G:=C.s0;have I:=fun rest=>lI (f:=fun u r=>(u++[(RS.list (2^(min D.vs.toNat 6)) r).1],(RS.list (2^(min D.vs.toNat 6)) r).2)) (enc:=fun x:List Int=>x) D.nx [] rest (fun x y s rest=>by
    obtain⟨J,K⟩:=C.r x y;have e:2^(min D.vs.toNat 6)=x.length:=by
      rw[Dv (by omega)];have:((2^D.vs.toNat:Nat):Int)=x.length:=by rw[J];simp
      omega
    show(s++[(RS.list _ _).1],(RS.list _ _).2)=_;rw[e,S3 fun t ht=>(K t ht).1])
  have B:=lI (f:=fun u r=>(u++[decide ((RS.small 1 r).1=1)],(RS.small 1 r).2)) (enc:=fun b:Bool=>[b2I b]) D.fi [] [] (fun x y s rest=>by
    cases x
    · show(s++[decide ((RS.small 1 ⟨0::rest,0,0⟩).1=1)],(RS.small 1 ⟨0::rest,0,0⟩).2)=_;rw[JD (by omega)];rfl
    · show(s++[decide ((RS.small 1 ⟨1::rest,0,0⟩).1=1)],(RS.small 1 ⟨1::rest,0,0⟩).2)=_;rw[JD (by omega)];rfl)
  rw[Bv,C.f]at B;unfold RS.dfa In.dp;simp only[Ak,Ay,Al,Aq,aFV (show D.vs.toNat<=6 by omega),vY,Ck];have L:(D.nx.flatten)=D.nx.flatMap fun x=>x:=by simp[Jh]
  have M:D.fi.map b2I=D.fi.flatMap fun b=>[b2I b]:=by
    induction D.fi with
    | nil=>rfl
    | cons b l O=>simp[O]
  rw[L,I];simp only;rw[M,B,Cz E,Cz G];rfl
def aEO{ow pr:List Int}{su:List (List Int)}(V:Valid ow pr su)(M:∀x∈ow,0<=x):RS.dj ⟨tn (In.g ow pr su).dp,0,0⟩=((ow,pr,su),⟨[],0,0⟩):=by
  have y:∀i,(E:i<ow.length)->0<=pr.getD i 0/\ow.getD i 0<=1/\∀x,su[i]? =Jm x->∀t∈x,0<=t:=fun i E=>by have hs:=V.s;obtain⟨a,b,c,d,e⟩:=V.row i (by omega);refine⟨a,c,fun x u t ht=>?_⟩;rw[Ad (by omega)]at u;cases u;exact(GC e t ht).1
  have J:∀x∈ow,x<=1:=fun x u=>by obtain⟨i,E⟩:=List.mem_iff_getElem?.1 u;have hl:=aI E;have:=(y i hl).2.1;rw[Ax,E]at this;exact this
  have K:∀x∈pr,0<=x:=fun x u=>by obtain⟨i,E⟩:=List.mem_iff_getElem?.1 u;have hl:=aI E;have M:=V.p;have:=(y i (by omega)).1;rw[Ax,E]at this;exact this
  have L:∀x∈su,∀t∈x,0<=t:=fun x u=>by obtain⟨i,E⟩:=List.mem_iff_getElem?.1 u;have hl:=aI E;have hs:=V.s;exact(y i (by omega)).2.2 x E
  have O:=fun rest=>lI (f:=fun B r=>(B++[((RS.small 255 r).1:Int)],(RS.small 255 r).2)) (enc:=fun x:Int=>[x]) ow [] rest (fun x u s rest=>by have a:=J x u;have b:=M x u;show(s++[((RS.small 255 ⟨x.toNat::rest,0,0⟩).1:Int)],(RS.small 255 ⟨x.toNat::rest,0,0⟩).2)=_;rw[JD (by omega)];simp only;rw[Cz b]);have I:=fun rest=>lI (f:=fun B r=>(B++[((RS.next r).1:Int)],(RS.next r).2)) (enc:=fun x:Int=>[x]) pr [] rest (fun x u s rest=>by have b:=K x u;show(s++[((x.toNat:Nat):Int)],_)=_;rw[Cz b];rfl);have Q:=lI (f:=fun B r=>(B++[(RS.list (RS.next r).1 (RS.next r).2).1],(RS.list (RS.next r).1 (RS.next r).2).2)) (enc:=cM) su [] [] (fun x u s rest=>by show(s++[(RS.list x.length ⟨tn x++rest,0,0⟩).1],(RS.list x.length ⟨tn x++rest,0,0⟩).2)=_;rw[S3 (L x u)]);have G:∀l:List Int,l.flatMap (fun x=>[x])=l:=fun l=>by
    induction l with
    | nil=>rfl
    | cons b l R=>simp[R]
  rw[Bv,V.s]at Q;have I:=fun rest=>I rest;rw[G,V.p]at I;rw[G]at O;unfold RS.dj In.dp;simp only[Ak,Ay,Al,Ab,vY,Ck];rw[O];simp only;rw[I];simp only;rw[Q];rfl
def aDw{α:Type}{P:List α->Prop}(h0:P [])(hs:∀l b,P l->P (l++[b]))(l:List α):P l:=by
  have u:∀r:List α,P r.reverse:=by
    intro r
    induction r with
    | nil=>exact h0
    | cons b r y=>rw[List.reverse_cons];exact hs _ _ y
  have:=u l.reverse;rwa [List.reverse_reverse]at this
def lM(o:Option (Bool×Nat))(b:UInt8):Option (Bool×Nat):=match o with
  | none=>Jn
  | some (f,n)=>if 48<=b.toNat/\b.toNat<=57/\¬(f=Jo/\n=0)/\10*n+(b.toNat-48)<=2147483647 then Jm (Jo,10*n+(b.toNat-48))else Jn
def BH:∀l:List UInt8,l.foldl lM Jn=Jn
  | []=>rfl
  | b::l=>BH l
def W6:∀(n:Nat),n<=2147483647->(Lib.decDigits n).foldl lM (Jm (Jp,0))=Jm (Jo,n):=by
  intro n
  induction n using Ga with
  | ind n y=>
    intro h;rw[Lib.decDigits];by_cases u:n<10
    · rw[dif_pos u];have e:=DB (k:=48+n) (by omega);show lM (Jm (Jp,0)) _=_;unfold lM;simp only[e];rw[if_pos ⟨by omega,by omega,by simp,by omega⟩];congr 2;omega
    · rw[dif_neg u,Em,y (n / 10) (by omega) (by omega)];have e:=DB (k:=48+n % 10) (by omega);show lM (Jm (Jo,n / 10)) _=_;unfold lM;simp only[e];rw[if_pos ⟨by omega,by omega,by rintro⟨_,h⟩;omega,by omega⟩];congr 2;omega
def W5(w:List UInt8):∀f n,w.foldl lM (Jm (Jp,0))=Jm (f,n)->(w=[]/\f=Jp/\n=0)\/(f=Jo/\n<=2147483647/\w=Lib.decDigits n):=by
  refine aDw (P:=fun w=>∀f n,w.foldl lM (Jm (Jp,0))=Jm (f,n)->(w=[]/\f=Jp/\n=0)\/(f=Jo/\n<=2147483647/\w=Lib.decDigits n)) ?_ ?_ w
  · intro f n h;cases h;exact .inl ⟨rfl,rfl,rfl⟩
  · intro l b y f n h;rw[Em]at h;have h:lM (l.foldl lM (Jm (Jp,0))) b=Jm (f,n):=h;right
    cases hl:l.foldl lM (Jm (Jp,0))with
    | none=>rw[hl]at h;cases h
    | some p=>
      obtain⟨B,u⟩:=p;rw[hl]at h;unfold lM at h;simp only at h;split at h
      · rename_i E;obtain⟨K,L,G,I⟩:=E;have h:=Option.some.inj h;obtain⟨rfl,rfl⟩:=Prod.mk.inj h;refine⟨rfl,I,?_⟩;have hb:UInt8.ofNat (48+(b.toNat-48))=b:=by rw[show 48+(b.toNat-48)=b.toNat by omega];simp
        rcases y B u hl with⟨rfl,rfl,rfl⟩ | ⟨rfl,_,rfl⟩
        · rw[Lib.decDigits,dif_pos (by omega)];rw[show 48+(10*0+(b.toNat-48))=48+(b.toNat-48) by omega,hb];rfl
        · have J:u≠0:=fun h=>G ⟨rfl,h⟩
          conv=>rhs;rw[Lib.decDigits]
          rw[dif_neg (by omega),show(10*u+(b.toNat-48)) / 10=u by omega,show(10*u+(b.toNat-48)) % 10=b.toNat-48 by omega,hb]
      · cases h
def Y5(w:List UInt8):Option Nat:=match w.foldl lM (Jm (Jp,0))with
  | some (Jo,n)=>Jm n
  | _=>Jn
def SI(w:List UInt8):Y5 w=kM w:=by
  cases h:kM w with
  | some n=>obtain⟨h1,h2⟩:=iq.1 h;rw[s9 (by omega)]at h2;subst h2;unfold Y5;rw[W6 n h1]
  | none=>
    unfold Y5
    cases hv:w.foldl lM (Jm (Jp,0))with
    | none=>rfl
    | some p=>
      obtain⟨f,n⟩:=p;rcases W5 w f n hv with⟨rfl,rfl,rfl⟩ | ⟨rfl,h1,h2⟩
      · rfl
      · have:kM w=Jm n:=iq.2 ⟨h1,by rw[s9 (by omega)];exact h2.symm⟩;rw[this]at h;cases h
def DP(c:UInt8):∀l:List UInt8,∀w∈bL c l,∀b∈w,b≠c
  | []=>fun w hw=>by simp[bL]at hw;subst hw;simp
  | b::l=>by
    have u:=DP c l;unfold bL;split
    · intro w hw;rcases List.mem_cons.1 hw with rfl | hw
      · simp
      · exact u w hw
    · rename_i hb;revert u
      match bL c l with
      | []=>intro _ w hw;simp[o6]at hw;subst hw;intro x E;rw[Bp]at E;subst E;exact hb
      | x::r=>
        intro u w hw;simp only[o6,Cu]at hw;rcases hw with rfl | hw
        · intro y B;rcases List.mem_cons.1 B with rfl | B
          · exact hb
          · exact u x (by simp) y B
        · exact u w (by simp[hw])
def uE:∀{a:List (List UInt8)} {x:List Nat} (b:List (List UInt8)),gF a=Jm x->gF (a++b)=(gF b).map (x++ ·)
  | [],x,b,h=>by cases h;simp
  | w::a,x,b,h=>by
    have e:∀w l,gF (w::l)=match kM w,gF l with | some n,Jm u=>Jm (n::u) | _,_=>Jn:=fun _ _=>rfl
    rw[Al,e];rw[e]at h;split at h
    · rename_i n u h1 h2;cases h;rw[uE b h2,h1];cases gF b<;>rfl
    · cases h
def OS{w:List UInt8}(h:kM w=Jn)(b:List (List UInt8)):gF (w::b)=Jn:=by unfold gF;rw[h]
structure RF where
  l:List Nat
  sh:Bool
  od:Bool
def RF.next(r:RF):Nat×RF:=match r.l with
  | []=>(0,⟨[],Jo,r.od⟩)
  | n::l=>(n,⟨l,r.sh,r.od⟩)
def RF.small(k:Nat)(r:RF):Nat×RF:=if k<r.next.1 then(0,⟨r.next.2.l,r.next.2.sh,Jo⟩)else(r.next.1,r.next.2)
def RF.list(n:Nat)(r:RF):List Int×RF:=if r.l.length<n then([],⟨r.l,Jo,r.od⟩)else((r.l.take n).map fun n:Nat=>(n:Int),⟨r.l.drop n,r.sh,r.od⟩)
def cC{σ:Type}(f:σ->RF->σ×RF):Nat->σ->RF->σ×RF
  | 0,s,r=>(s,r)
  | n+1,s,r=>if r.sh=Jo then(s,r)else cC f n (f s r).1 (f s r).2
def jQ(r:RF):Eg×RF:=
  let a:=r.next;let b:=a.2.next;let c:=b.2.small 255;let d:=c.2.small 255
  (⟨a.1,b.1,c.1,d.1⟩,d.2)
def RF.nfa(r:RF):NF×RF:=
  let a:=r.next;let b:=a.2.next;let c:=b.2.next;let d:=RF.list c.1 c.2;let e:=d.2.next;let f:=RF.list e.1 e.2;let g:=f.2.next
  let h:=cC (fun u r=>(u++[(jQ r).1],(jQ r).2)) g.1 [] g.2
  (⟨a.1,b.1,d.1,f.1,h.1⟩,h.2)
def RF.dfa(r:RF):DF×RF:=
  let a:=r.next;let b:=a.2.next;let c:=b.2.next
  let d:=cC (fun u r=>(u++[(RF.list (2^(min a.1 6)) r).1],(RF.list (2^(min a.1 6)) r).2)) c.1 [] c.2
  let e:=cC (fun u r=>(u++[decide ((r.small 1).1=1)],(r.small 1).2)) c.1 [] d.2
  (⟨a.1,b.1,d.1,e.1⟩,e.2)
def RF.dj(r:RF):(List Int×List Int×List (List Int))×RF:=
  let c:=r.next
  let d:=cC (fun u r=>(u++[((r.small 255).1:Int)],(r.small 255).2)) c.1 [] c.2
  let e:=cC (fun u r=>(u++[(r.next.1:Int)],r.next.2)) c.1 [] d.2
  let f:=cC (fun u r=>(u++[(RF.list r.next.1 r.next.2).1],(RF.list r.next.1 r.next.2).2)) c.1 [] e.2
  ((d.1,e.1,f.1),f.2)
def iN(k:List UInt8)(r:RF):In×RF:=
  if k=kwD then(.n r.nfa.1,r.nfa.2)else if k=kwM then(.d r.dfa.1,r.dfa.2)else(.g r.dj.1.1 r.dj.1.2.1 r.dj.1.2.2,r.dj.2)
def Rl(r:RS)(p:RF):Prop:=(r.e=0/\p.sh=Jp/\p.l=r.l/\(p.od=Jo↔r.late≠0))\/(r.e≠0/\p.sh=Jo)
def Eo(r:RS):Prop:=(r.e=0\/r.e=3)/\(r.late=0\/r.late=1)
structure Pr {α:Type} (r:RS) (x:α×RS) (y:α×RF):Prop where
  rl:Rl x.2 y.2
  mo:x.2.e=0->x.2.late=0->r.e=0/\r.late=0
  v:x.2.e=0->x.2.late=0->x.1=y.1
  eo:Eo r->Eo x.2
def Rl.bad{r:RS}{p:RF}(h:Rl r p)(he:r.e≠0):p.sh=Jo:=by
  rcases h with⟨a,_⟩ | ⟨_,b⟩
  · exact absurd a he
  · exact b
def Rl.next{r:RS}{p:RF}(h:Rl r p):Pr r r.next p.next/\(r.next.2.e=0->p.next.1=r.next.1):=by
  obtain⟨l,e,la⟩:=r;obtain⟨u,s,o⟩:=p;rcases h with⟨h1,h2,h3,y⟩ | ⟨h1,h2⟩
  · simp only at h1 h2 h3 y;subst h1 h2 h3
    cases u with
    | nil=>exact⟨⟨.inr ⟨by simp[RS.next],rfl⟩,fun e=>by simp[RS.next]at e,fun e=>by simp[RS.next]at e,fun h=>⟨.inr rfl,h.2⟩⟩,fun _=>rfl⟩
    | cons n l=>exact⟨⟨.inl ⟨rfl,rfl,rfl,y⟩,fun a b=>⟨a,b⟩,fun _ _=>rfl,fun h=>h⟩,fun _=>rfl⟩
  · simp only at h1 h2;subst h2;have a:(RS.next ⟨l,e,la⟩).2.e=e:=by
      cases l with
      | nil=>simp only[RS.next];rw[if_neg h1]
      | cons=>rfl
    have b:(RS.next ⟨l,e,la⟩).2.e≠0:=by rw[a];exact h1
    refine⟨⟨.inr ⟨b,?_⟩,fun h=>absurd h b,fun h=>absurd h b,fun h=>⟨by rw[a];exact h.1,?_⟩⟩,fun h=>absurd h b⟩
    · cases u<;>rfl
    · cases l<;>exact h.2
def Rl.small{r:RS}{p:RF}(h:Rl r p)(k:Nat):Pr r (r.small k) (p.small k):=by
  obtain⟨h1,h2⟩:=h.next;unfold RS.small RF.small;rcases h1.rl with⟨u,y,B,E⟩ | ⟨u,y⟩
  · have hv:=h2 u;rw[hv];by_cases c:k<r.next.1
    · simp only[if_pos c];exact⟨.inl ⟨u,y,B,by simp⟩,(fun _ h=>by cases h),(fun _ h=>by cases h),fun h=>⟨(h1.eo h).1,.inr rfl⟩⟩
    · simp only[if_neg c];exact⟨.inl ⟨u,y,B,E⟩,h1.mo,fun _ _=>by simp only;omega,h1.eo⟩
  · refine⟨.inr ⟨u,?_⟩,fun h=>absurd h u,fun h=>absurd h u,fun h=>⟨(h1.eo h).1,?_⟩⟩
    · split<;>exact y
    · simp only;split
      · exact .inr rfl
      · exact(h1.eo h).2
def iG{σ:Type}(f:σ->RS->σ×RS):∀(n:Nat) (s:σ) {r:RS},r.e≠0->bG f n s r=(s,r)
  | 0,s,r,h=>rfl
  | n+1,s,r,h=>by unfold bG;rw[if_neg h]
def uW{σ:Type}(f:σ->RF->σ×RF):∀(n:Nat) (s:σ) {r:RF},r.sh=Jo->cC f n s r=(s,r)
  | 0,s,r,h=>rfl
  | n+1,s,r,h=>by unfold cC;rw[if_pos h]
def Rl.rn{σ:Type}{f:σ->RS->σ×RS}{g:σ->RF->σ×RF}
    (hf:∀s t r p,Rl r p->Rl (f s r).2 (g t p).2/\((f s r).2.e=0->(f s r).2.late=0->(r.e=0/\r.late=0)/\(s=t->(f s r).1=(g t p).1))/\(Eo r->Eo (f s r).2)):
    ∀(n:Nat) (s t:σ) (r:RS) (p:RF),Rl r p->(r.e=0->r.late=0->s=t)->Pr r (bG f n s r) (cC g n t p)
  | 0,s,t,r,p,h,hv=>⟨h,fun a b=>⟨a,b⟩,hv,fun h=>h⟩
  | n+1,s,t,r,p,h,hv=>by
    unfold bG cC;have E:=h;rcases h with⟨y,B,J,K⟩ | ⟨y,B⟩
    · rw[if_pos y,if_neg (by rw[B];decide)];obtain⟨G,u,I⟩:=hf s t r p E;have:=Rl.rn hf n (f s r).1 (g t p).1 _ _ G fun e l=>(u e l).2 (hv (u e l).1.1 (u e l).1.2);exact⟨this.rl,fun e l=>(u (this.mo e l).1 (this.mo e l).2).1,this.v,fun h=>this.eo (I h)⟩
    · rw[if_neg y,if_pos B];exact⟨E,fun a b=>⟨a,b⟩,hv,fun h=>h⟩
def Rl.each{σ:Type}{f:σ->RS->σ×RS}{g:σ->RF->σ×RF}{r:RS}{p:RF}(h:Rl r p)(s:σ){n n':Nat}(u:r.e=0->n'=n)
    (hf:∀s t r p,Rl r p->Rl (f s r).2 (g t p).2/\((f s r).2.e=0->(f s r).2.late=0->(r.e=0/\r.late=0)/\(s=t->(f s r).1=(g t p).1))/\(Eo r->Eo (f s r).2)):
    Pr r (bG f n s r) (cC g n' s p):=by
  by_cases c:r.e=0
  · rw[u c];exact Rl.rn hf n s s r p h fun _ _=>rfl
  · rw[iG f n s c,uW g n' s (h.bad c)];exact⟨h,fun a b=>⟨a,b⟩,fun _ _=>rfl,fun h=>h⟩
def KV:∀(n:Nat) (l:List Nat) (u:List Int) (la:Int),n<=l.length->bG (fun u r=>(u++[((RS.next r).1:Int)],(RS.next r).2)) n u ⟨l,0,la⟩=(u++(l.take n).map (fun n:Nat=>(n:Int)),⟨l.drop n,0,la⟩)
  | 0,l,u,la,h=>by simp[bG]
  | n+1,[],u,la,h=>by simp at h
  | n+1,x::l,u,la,h=>by unfold bG;rw[if_pos rfl];have:=KV n l (u++[(x:Int)]) la (by simpa using h);simp only[RS.next]at this ⊢;rw[this];simp
def EO:∀(n:Nat) (l:List Nat) (u:List Int) (la:Int),l.length<n->(bG (fun u r=>(u++[((RS.next r).1:Int)],(RS.next r).2)) n u ⟨l,0,la⟩).2.e≠0
  | 0,l,u,la,h=>by simp at h
  | n+1,[],u,la,h=>by
    unfold bG;rw[if_pos rfl];have:(RS.next ⟨[],0,la⟩).2.e≠0:=by simp[RS.next]
    rw[iG _ n _ this];exact this
  | n+1,x::l,u,la,h=>by unfold bG;rw[if_pos rfl];exact EO n l (u++[(x:Int)]) la (by simpa using h)
def Eo.next{r:RS}(h:Eo r):Eo r.next.2:=by
  obtain⟨l,e,la⟩:=r
  cases l with
  | nil=>
    refine⟨?_,h.2⟩;simp only[RS.next];split
    · exact .inr rfl
    · exact h.1
  | cons=>exact h
def Eo.each{σ:Type}{f:σ->RS->σ×RS}(hf:∀s r,Eo r->Eo (f s r).2):∀(n:Nat) (s:σ) (r:RS),Eo r->Eo (bG f n s r).2
  | 0,s,r,h=>h
  | n+1,s,r,h=>by
    unfold bG;split
    · exact Eo.each hf n _ _ (hf s r h)
    · exact h
def Rl.list{r:RS}{p:RF}(h:Rl r p){n n':Nat}(K:r.e=0->n'=n):Pr r (RS.list n r) (RF.list n' p):=by
  have L:=h;have y:Eo r->Eo (RS.list n r).2:=Eo.each (f:=fun E r=>(E++[((RS.next r).1:Int)],(RS.next r).2)) (fun s r h=>h.next) n [] r;have M:=Rd.list n r;rcases h with⟨u,B,I,J⟩ | ⟨u,B⟩
  · rw[K u];obtain⟨l,e,la⟩:=r;obtain⟨G,s,o⟩:=p;simp only at u B I J;subst u B I;by_cases c:G.length<n
    · have:=EO n G [] la c;refine⟨.inr ⟨this,?_⟩,fun q=>absurd q this,fun q=>absurd q this,y⟩;unfold RF.list;rw[if_pos c]
    · have:=KV n G [] la (by omega);unfold RS.list RF.list at*;rw[this]at y ⊢;rw[if_neg c];exact⟨.inl ⟨rfl,rfl,rfl,J⟩,fun a b=>⟨a,b⟩,fun _ _=>by simp,y⟩
  · have e:RS.list n r=([],r):=iG _ n _ u;rw[e]at y ⊢;refine⟨.inr ⟨u,?_⟩,fun q=>absurd q u,fun q=>absurd q u,y⟩;unfold RF.list;split
    · rfl
    · exact B
def Rl.po{r:RS}{p:RF}(h:Rl r p):Pr r (eM r) (jQ p):=by
  have h1:=h.next.1;have h2:=h1.rl.next.1;have h3:=h2.rl.small 255;have u:=h3.rl.small 255;refine⟨u.rl,fun e l=>?_,fun e l=>?_,fun q=>u.eo (h3.eo (h2.eo (h1.eo q)))⟩
  · obtain⟨y,B⟩:=u.mo e l;obtain⟨E,G⟩:=h3.mo y B;obtain⟨I,J⟩:=h2.mo E G;exact h1.mo I J
  · obtain⟨y,B⟩:=u.mo e l;obtain⟨E,G⟩:=h3.mo y B;obtain⟨I,J⟩:=h2.mo E G;have K:=h1.v I J;have L:=h2.v E G;have M:=h3.v y B;have O:=u.v e l;show Eg.mk _ _ _ _=Eg.mk _ _ _ _;rw[K,L,M,O]
def SD{r:RS}(h:r.next.1<=6):r.vars=r.next:=by unfold RS.vars;rw[if_neg (by omega)]
def Rl.nfa{r:RS}{p:RF}(h:Rl r p)(hv:r.next.1<=6):Pr r r.nfa p.nfa:=by
  obtain⟨h1,_⟩:=h.next;obtain⟨h2,_⟩:=h1.rl.next;obtain⟨h3,V⟩:=h2.rl.next;have B:=h3.rl.list V;obtain⟨J,Y⟩:=B.rl.next;have E:=J.rl.list Y;obtain⟨K,Z⟩:=E.rl.next;have G:=K.rl.each (f:=fun u r=>(u++[(eM r).1],(eM r).2)) (g:=fun u r=>(u++[(jQ r).1],(jQ r).2)) ([]:List Eg) Z fun s t r p h=>
    ⟨h.po.rl,fun e l=>⟨h.po.mo e l,fun q=>by simp only;rw[q,h.po.v e l]⟩,h.po.eo⟩
  have I:=SD hv;have y:∀e l,(r.e=0/\r.late=0)/\r.nfa.1=p.nfa.1:=fun(e:r.nfa.2.e=0) (l:r.nfa.2.late=0)=>by unfold RS.nfa at e l;simp only[I]at e l;obtain⟨e7,l7⟩:=G.mo e l;obtain⟨L,M⟩:=K.mo e7 l7;obtain⟨e5,l5⟩:=E.mo L M;obtain⟨O,Q⟩:=J.mo e5 l5;obtain⟨e3,l3⟩:=B.mo O Q;obtain⟨R,S⟩:=h3.mo e3 l3;obtain⟨T,U⟩:=h2.mo R S;refine⟨h1.mo T U,?_⟩;unfold RS.nfa RF.nfa;simp only[I];rw[NF.mk.injEq];exact⟨congrArg _ (h1.v T U),congrArg _ (h2.v R S),B.v O Q,E.v L M,G.v e l⟩
  refine⟨?_,fun e l=>(y e l).1,fun e l=>(y e l).2,?_⟩
  · unfold RS.nfa RF.nfa;simp only[I];exact G.rl
  · intro q;unfold RS.nfa;simp only[I];exact G.eo (K.eo (E.eo (J.eo (B.eo (h3.eo (h2.eo (h1.eo q)))))))
def Rl.dfa{r:RS}{p:RF}(h:Rl r p)(hv:r.next.1<=6):Pr r r.dfa p.dfa:=by
  obtain⟨h1,L⟩:=h.next;obtain⟨h2,v2⟩:=h1.rl.next;obtain⟨h3,M⟩:=h2.rl.next;have G:=SD hv;have hK:r.next.2.e=0->p.next.1=r.next.1:=L
  --rows
  have I:Pr r.next.2.next.2.next.2 (bG (fun u y=>(u++[(RS.list (2^(min r.next.1 6)) y).1],(RS.list (2^(min r.next.1 6)) y).2)) r.next.2.next.2.next.1 [] r.next.2.next.2.next.2)
      (cC (fun u y=>(u++[(RF.list (2^(min p.next.1 6)) y).1],(RF.list (2^(min p.next.1 6)) y).2)) p.next.2.next.2.next.1 [] p.next.2.next.2.next.2):=by
    by_cases c:r.next.2.e=0
    · rw[L c];exact h3.rl.each ([]:List (List Int)) M fun s t y p' Y=>by have:=Y.list (n:=2^(min r.next.1 6)) (n':=2^(min r.next.1 6)) fun _=>rfl;exact⟨this.rl,fun e l=>⟨this.mo e l,fun q=>by simp only;rw[q,this.v e l]⟩,this.eo⟩
    · have b2:r.next.2.next.2.e≠0:=fun q=>by
        rcases h2.rl with⟨_,B,_⟩ | ⟨K,_⟩
        · have:=h1.rl.bad c;have e:p.next.2.next.2.sh=Jo:=by unfold RF.next at this ⊢;split<;>first | rfl | exact this
          rw[e]at B;cases B
        · exact K q
      have O:r.next.2.next.2.next.2.e≠0:=fun q=>by
        rcases h3.rl with⟨_,B,_⟩ | ⟨K,_⟩
        · have:=h2.rl.bad b2;have e:p.next.2.next.2.next.2.sh=Jo:=by
            conv=>lhs;unfold RF.next
            split<;>first | rfl | exact this
          rw[e]at B;cases B
        · exact K q
      rw[iG _ _ _ O,uW _ _ _ (h3.rl.bad O)];exact⟨h3.rl,fun a b=>⟨a,b⟩,fun _ _=>rfl,fun h=>h⟩
  have hn:∀{f:List (List Int)->RS->List (List Int)×RS} {n:Nat} {s:List (List Int)} {r:RS},(bG f n s r).2.e=0->r.e=0:=fun {f n s r} e=>by
    by_cases c:r.e=0
    · exact c
    · rw[iG f n s c]at e;exact e
  have J:=I.rl.each (f:=fun u r=>(u++[decide ((RS.small 1 r).1=1)],(RS.small 1 r).2)) (g:=fun u r=>(u++[decide ((RF.small 1 r).1=1)],(RF.small 1 r).2)) ([]:List Bool) (n:=r.next.2.next.2.next.1) (n':=p.next.2.next.2.next.1) (fun e=>M (hn e)) fun s t r p h=>by have:=h.small 1;exact⟨this.rl,fun e l=>⟨this.mo e l,fun q=>by simp only;rw[q,this.v e l]⟩,this.eo⟩
  have E:∀e l,(r.e=0/\r.late=0)/\r.dfa.1=p.dfa.1:=fun(e:r.dfa.2.e=0) (l:r.dfa.2.late=0)=>by unfold RS.dfa at e l;simp only[G]at e l;obtain⟨Q,R⟩:=J.mo e l;obtain⟨e3,l3⟩:=I.mo Q R;obtain⟨S,T⟩:=h3.mo e3 l3;obtain⟨U,V⟩:=h2.mo S T;refine⟨h1.mo U V,?_⟩;unfold RS.dfa RF.dfa;simp only[G];rw[DF.mk.injEq];exact⟨congrArg _ (h1.v U V),congrArg _ (h2.v S T),I.v Q R,J.v e l⟩
  refine⟨?_,fun e l=>(E e l).1,fun e l=>(E e l).2,?_⟩
  · unfold RS.dfa RF.dfa;simp only[G];exact J.rl
  · intro q;unfold RS.dfa;simp only[G];exact J.eo (I.eo (h3.eo (h2.eo (h1.eo q))))
def Rl.dj{r:RS}{p:RF}(h:Rl r p):Pr r r.dj p.dj:=by
  obtain⟨h1,E⟩:=h.next;have G:∀{σ:Type} {f:σ->RS->σ×RS} {n:Nat} {s:σ} {r:RS},(bG f n s r).2.e=0->r.e=0:=fun {σ f n s r} e=>by
    by_cases c:r.e=0
    · exact c
    · rw[iG f n s c]at e;exact e
  have h2:=h1.rl.each (f:=fun u r=>(u++[((RS.small 255 r).1:Int)],(RS.small 255 r).2)) (g:=fun u r=>(u++[((RF.small 255 r).1:Int)],(RF.small 255 r).2)) ([]:List Int) E fun s t r p h=>by have:=h.small 255;exact⟨this.rl,fun e l=>⟨this.mo e l,fun q=>by simp only;rw[q,this.v e l]⟩,this.eo⟩
  have h3:=h2.rl.each (f:=fun u r=>(u++[((RS.next r).1:Int)],(RS.next r).2)) (g:=fun u r=>(u++[((RF.next r).1:Int)],(RF.next r).2)) ([]:List Int) (n:=r.next.1) (n':=p.next.1) (fun e=>E (G e)) fun s t r p h=>by have:=h.next.1;exact⟨this.rl,fun e l=>⟨this.mo e l,fun q=>by simp only;rw[q,this.v e l]⟩,this.eo⟩
  have B:=h3.rl.each (f:=fun u r=>(u++[(RS.list (RS.next r).1 (RS.next r).2).1],(RS.list (RS.next r).1 (RS.next r).2).2)) (g:=fun u r=>(u++[(RF.list (RF.next r).1 (RF.next r).2).1],(RF.list (RF.next r).1 (RF.next r).2).2)) ([]:List (List Int)) (n:=r.next.1) (n':=p.next.1) (fun e=>E (G (G e))) fun s t r p h=>by obtain⟨a,b⟩:=h.next;have:=a.rl.list b;exact⟨this.rl,fun e l=>⟨a.mo (this.mo e l).1 (this.mo e l).2,fun q=>by simp only;rw[q,this.v e l]⟩,fun q=>this.eo (a.eo q)⟩
  have y:∀e l,(r.e=0/\r.late=0)/\r.dj.1=p.dj.1:=fun(e:r.dj.2.e=0) (l:r.dj.2.late=0)=>by obtain⟨I,J⟩:=B.mo e l;obtain⟨K,L⟩:=h3.mo I J;obtain⟨O,Q⟩:=h2.mo K L;refine⟨h1.mo O Q,?_⟩;show Prod.mk _ (Prod.mk _ _)=Prod.mk _ (Prod.mk _ _);rw[Prod.mk.injEq,Prod.mk.injEq];exact⟨h2.v K L,h3.v I J,B.v e l⟩
  exact⟨B.rl,fun e l=>(y e l).1,fun e l=>(y e l).2,fun q=>B.eo (h3.eo (h2.eo (h1.eo q)))⟩
def aBR{σ:Type}{f:σ->RS->σ×RS}{n:Nat}{s:σ}{r:RS}(h:r.e≠0):(bG f n s r).2.e=r.e:=by rw[iG f n s h]
def aAx{r:RS}(h:r.e≠0):r.next.2.e=r.e:=by
  obtain⟨l,e,la⟩:=r
  cases l with
  | nil=>simp only[RS.next];rw[if_neg h]
  | cons=>rfl
def aG1{n:Nat}{r:RS}(h:r.e≠0):(RS.list n r).2.e=r.e:=aBR h
def IF{r:RS}(h:6<r.next.1):r.vars.2.e=7:=by unfold RS.vars;rw[if_pos h]
def aD5{r:RS}(h:6<r.next.1):r.nfa.2.e=7:=by
  have h1:=IF h;unfold RS.nfa;simp only;have u:∀{r:RS},r.e=7->r.next.2.e=7:=fun {r} h=>by rw[aAx (by rw[h];decide)];exact h
  have y:∀{n:Nat} {r:RS},r.e=7->(RS.list n r).2.e=7:=fun {n r} h=>by rw[aG1 (by rw[h];decide)];exact h
  have B:=u (y (n:=(RS.next (RS.list (RS.next (RS.next r.vars.2).2).1 (RS.next (RS.next r.vars.2).2).2).2).1) (u (y (n:=(RS.next (RS.next r.vars.2).2).1) (u (u h1)))));rw[aBR (by rw[B];decide)];exact B
def aEX{r:RS}(h:6<r.next.1):r.dfa.2.e=7:=by
  have h1:=IF h;unfold RS.dfa;simp only;have u:∀{r:RS},r.e=7->r.next.2.e=7:=fun {r} h=>by rw[aAx (by rw[h];decide)];exact h
  have h3:=u (u h1);rw[iG _ _ _ (show(RS.next (RS.next r.vars.2).2).2.e≠0 by rw[h3];decide),iG _ _ _ (show(RS.next (RS.next r.vars.2).2).2.e≠0 by rw[h3];decide)];exact h3
def OK(k:List UInt8):List Nat->PR
  | []=> .err 3
  | u::y=>if(k=kwD\/k=kwM)/\y≠[]/\6<y.headD 0 then .err 7 else
    if(iN k ⟨y,Jp,Jp⟩).2.sh=Jo then .err 3 else
    if(iN k ⟨y,Jp,Jp⟩).2.l≠[]then .err 5 else
    if(iN k ⟨y,Jp,Jp⟩).2.od=Jo then .err 1 else .ok (iN k ⟨y,Jp,Jp⟩).1 u
def Rl.bw{k:List UInt8}{r:RS}{p:RF}(h:Rl r p)(hv:k=kwD\/k=kwM->r.next.1<=6):Pr r (bw k r) (iN k p):=by
  unfold Ar.bw iN;by_cases u:k=kwD
  · rw[if_pos u,if_pos u];have:=h.nfa (hv (.inl u));exact⟨this.rl,this.mo,fun e l=>congrArg In.n (this.v e l),this.eo⟩
  rw[if_neg u,if_neg u];by_cases y:k=kwM
  · rw[if_pos y,if_pos y];have:=h.dfa (hv (.inr y));exact⟨this.rl,this.mo,fun e l=>congrArg In.d (this.v e l),this.eo⟩
  rw[if_neg y,if_neg y];have:=h.dj;exact⟨this.rl,this.mo,fun e l=>by have q:=this.v e l;show In.g _ _ _=In.g _ _ _;rw[q],this.eo⟩
def V8(k:List UInt8)(y:List Nat):OK k y=kP k y:=by
  cases y with
  | nil=>unfold OK kP;rw[if_pos (by simp[RS.next])];rfl
  | cons u y=>
    have e:kP k (u::y)=if(Ar.bw k ⟨y,0,0⟩).2.e≠0 then .err (Ar.bw k ⟨y,0,0⟩).2.e else
        if(Ar.bw k ⟨y,0,0⟩).2.l≠[]then .err 5 else if(Ar.bw k ⟨y,0,0⟩).2.late≠0 then .err (Ar.bw k ⟨y,0,0⟩).2.late else .ok (Ar.bw k ⟨y,0,0⟩).1 u:=if_neg fun q=>q rfl
    rw[e];show(if(k=kwD\/k=kwM)/\y≠[]/\6<y.headD 0 then PR.err 7 else _)=_;by_cases hv:(k=kwD\/k=kwM)/\y≠[]/\6<y.headD 0
    · rw[if_pos hv];obtain⟨E,h1,h2⟩:=hv;have h3:6<(RS.next ⟨y,0,0⟩).1:=by
        cases y with
        | nil=>exact absurd rfl h1
        | cons n y=>exact h2
      have K:(Ar.bw k ⟨y,0,0⟩).2.e=7:=by
        unfold Ar.bw;rcases E with rfl | rfl
        · rw[if_pos rfl];exact aD5 h3
        · rw[if_neg (by decide),if_pos rfl];exact aEX h3
      rw[K,if_pos (by decide)]
    · rw[if_neg hv];have P:=Rl.bw (k:=k) (r:=⟨y,0,0⟩) (p:=⟨y,Jp,Jp⟩) (.inl ⟨rfl,rfl,rfl,by simp⟩) fun E=>by
        cases y with
        | nil=>exact Ai _
        | cons n y=>refine Nat.not_lt.1 fun h=>hv ⟨E,by simp,h⟩
      have I:=P.eo ⟨.inl rfl,.inl rfl⟩;have hV:=P.v;rcases P.rl with⟨B,G,L,J⟩ | ⟨B,G⟩
      · rw[if_neg (by rw[G];decide),if_neg (show ¬(Ar.bw k ⟨y,0,0⟩).2.e≠0 from fun q=>q B),L];by_cases c:(Ar.bw k ⟨y,0,0⟩).2.l≠[]
        · rw[if_pos c,if_pos c]
        · rw[if_neg c,if_neg c];by_cases d:(Ar.bw k ⟨y,0,0⟩).2.late=0
          · rw[if_neg (fun q=>(J.1 q) d),if_neg (fun q=>q d),hV B d]
          · rw[if_pos (J.2 d),if_pos d];rcases I.2 with q | q
            · exact absurd q d
            · rw[q]
      · rw[if_pos G,if_pos B];rcases I.1 with q | q
        · exact absurd q B
        · rw[q]
def xG(x y:ByteArray):cD .eql (.str x) (.str y)=Jm (.bool (decide (x=y))):=by
  have h:(x.toList==y.toList)=decide (x=y):=by rw[ByteArray.toList_eq,ByteArray.toList_eq,Bool.eq_iff_iff,beq_iff_eq,decide_eq_true_eq];exact⟨fun h=>Fs (Ch h),fun h=>by rw[h]⟩
  show(Jm (PV.bool (x.toList==y.toList)))=_;rw[h]
def nf{l:List UInt8}{t:ByteArray} :(⟨l.toArray⟩:ByteArray)=t↔l=t.data.toList:=by
  constructor
  · rintro rfl;rfl
  · intro h;subst h;exact Fs (by simp)
section
variable {tab:Tb} (T:HasA tab){M:Mem}{K:Kp}
include T
def GX{c x:Int}(u:cD .or (.int .u8 c) (.int .u8 32)=Jm (.int .u8 x))(y:K (.int .u8 x) M):aj tab 200 [.int .u8 c] M K:=by refine aF T.h200 (by simp only[PP,simprocAttr]) ?_;simp only[af200,PP,simprocAttr,u];exact y
set_option maxHeartbeats 4000000 in
def aBA{t:ByteArray}(hm:t.size<=100000000)
    (u:t.data.toList=[]\/t.data.toList.foldl iQ (Jm 0)=Jn->∀m:Int,∀k:Int,(k=1\/k=2)->K (.tuple [.int .u64 m,.iface (Proofs.YtapbgleednkimaaGreatDoor.Lay.renNm.t 167) (p64 k)]) M)
    (Q:∀n:Nat,t.data.toList≠[]->t.data.toList.foldl iQ (Jm 0)=Jm n->K (.tuple [.int .u64 n,.ae]) M):aj tab 171 [.str t,p64 10,p64 31] M K:=by
  have hs:t.data.toList.length=t.size:=rfl;have e0:=xG t ⟨#[]⟩;have q1:cD .shl (.int .u64 1) (.int .u64 31)=Jm (.int .u64 2147483648):=by rfl
  have q2:cD .sub (.int .u64 2147483648) (.int .u64 1)=Jm (.int .u64 2147483647):=by rfl
  have R:Proofs.YtapbgleednkimaaGreatDoor.Lay.renNm.t 167=263:=by kernel_rfl
  rw[R]at u;have E:∀k:Int,cP 0 [] (.iface 263 (p64 k))=Jm (.iface 263 (p64 k)):=fun k=>by simp[cP,bX,PV.under]
  have f2:cP 0 [] .ae=Jm .ae:=by simp[cP,bX,PV.under]
  have w1:IntKind.u64.wrap 31=31:=by rfl
  have J:IntKind.u64.wrap 10=10:=by rfl
  have L:IntKind.u8.wrap 10=10:=by rfl
  refine aF T.h171 (by simp only[PP,simprocAttr,PT]) ?_;simp only[af171,PP,simprocAttr,e0];refine QIf.intro (fun c=>?_) fun c=>?_
  · simp only[PP,simprocAttr,PI,c,E];exact u (.inl (by rw[c])) 0 2 (.inr rfl)
  have S:t.data.toList≠[]:=fun h=>c (Fs (Ch h));have b1:t.size<=140737488355328:=by omega
  simp only[PP,simprocAttr,PT,PI,c,q1,q2,w1,b1];refine cQ (fun(k n:Nat)=>k<=t.size/\n<=2147483647/\(t.data.toList.take k).foldl iQ (Jm 0)=Jm n) (fun k n=>(.aa::p64 10::zj 6++ .bool Jp:: .str t:: .int .u64 1844674407370955162:: .int .u64 2147483647:: .bool Jp:: .int .u64 n::zj 85++ .sl Jo Jp 1 t.size (t.data.toList.map fun b:UInt8=>PV.int .u8 ((b.toNat:Nat):Int))::p64 t.size::p64 k::zj 70)) (fun k n=>[]) (fun k n=>t.size-k) 0 0 ⟨by omega,by omega,rfl⟩ (by simp only[PW]) rfl ?_;intro k n ⟨a0,hn,hf⟩ ih;have stop:∀b:UInt8,t.data.toList[k]? =Jm b->iQ (Jm n) b=Jn->t.data.toList.foldl iQ (Jm 0)=Jn:=fun b hb he=>by
    rw[<-Cy k t.data.toList,Em,hf,gB hb,Ed,he,q9]
  refine aH (by kernel_rfl) ?_;simp only[PP,simprocAttr];refine QIf.intro (fun O=>?_) fun O=>?_;rotate_left
  · have U:k=t.size:=by omega
    subst U;rw[Be (by rw[hs];exact Ac _)]at hf;simp only[PP,simprocAttr,O,f2];exact Q n S hf
  have hlt:k<t.data.toList.length:=by omega
  have hw:=aC (k:=k) (by show _<1000000000000;omega);have i0:(0:Int)<=k:=by omega
  obtain⟨b,G⟩:=aM hlt;have hb:=b.toNat_lt;have a1:(48:Int)<=((b.toNat:Nat):Int)\/¬(48:Int)<=((b.toNat:Nat):Int):=by omega
  by_cases hd:48<=b.toNat/\b.toNat<=57
  · have y:¬((b.toNat:Nat):Int)=95:=by omega
    have d1:(48:Int)<=((b.toNat:Nat):Int):=by omega
    have d2:((b.toNat:Nat):Int)<=57:=by omega
    have d3:IntKind.u8.wrap (((b.toNat:Nat):Int)-48)=((b.toNat-48:Nat):Int):=by rw[show((b.toNat:Nat):Int)-48=((b.toNat-48:Nat):Int) by omega,p9 (by omega)]
    have V:¬(10:Int)<=((b.toNat-48:Nat):Int):=by omega
    have Y:¬(1844674407370955162:Int)<=(n:Int):=by omega
    have Z:∀x:Nat,x<18446744073709551616->IntKind.u64.wrap (x:Int)=x:=fun x I=>by simp only[IntKind.wrap,IntKind.signed,IntKind.bits];simp;omega
    have d6:IntKind.u64.wrap ((n:Int)*10)=((n*10:Nat):Int):=by rw[show(n:Int)*10=((n*10:Nat):Int) by omega,Z _ (by omega)]
    have d7:IntKind.u64.wrap ((b.toNat-48:Nat):Int)=((b.toNat-48:Nat):Int):=Z _ (by omega);have d8:IntKind.u64.wrap (((n*10:Nat):Int)+((b.toNat-48:Nat):Int))=((10*n+(b.toNat-48):Nat):Int):=by
      rw[show((n*10:Nat):Int)+((b.toNat-48:Nat):Int)=((10*n+(b.toNat-48):Nat):Int) by omega,Z _ (by omega)]
    have d9:¬((10*n+(b.toNat-48):Nat):Int)<((n*10:Nat):Int):=by omega
    simp only[PP,simprocAttr,O,i0,G,y,d1,d2,d3,V,Y,d6,d7,d8,d9,J,L];refine QIf.intro (fun e=>?_) fun e=>?_
    · simp only[PP,simprocAttr,PI,e,E];exact u (.inr (stop b G (by unfold iQ;simp only;rw[if_neg (by omega)]))) _ 1 (.inl rfl)
    · simp only[PP,simprocAttr,e,hw];refine aE (ih (k+1) (10*n+(b.toNat-48)) ⟨by omega,by omega,?_⟩ (by omega)) (by simp only[PW]);rw[Cp,G,Em,hf];show iQ (Jm n) b=_;unfold iQ;simp only;rw[if_pos (by omega)]
  · have hn:iQ (Jm n) b=Jn:=by unfold iQ;simp only;rw[if_neg (by omega)]
    have B:=stop b G hn;have y:((b.toNat:Nat):Int)=95\/¬((b.toNat:Nat):Int)=95:=by omega
    have d1:(¬((48:Int)<=((b.toNat:Nat):Int))/\¬(1:Int)<=0)\/((48:Int)<=((b.toNat:Nat):Int))/\¬(((b.toNat:Nat):Int)<=57):=by omega
    rcases y with y | y<;>rcases d1 with⟨d1,d2⟩ | ⟨d1,d2⟩
    · omega
    all_goals
      obtain⟨x,I⟩:∃x,cD .or (.int .u8 ((b.toNat:Nat):Int)) (.int .u8 32)=Jm (.int .u8 x):=⟨_,rfl⟩;simp only[PP,simprocAttr,O,i0,G,y,d1,d2];try rw[y]at I
      refine GX T I ?_;simp only[PP,simprocAttr];refine QIf.intro (fun e=>?_) fun e=>?_
      · simp only[PP,simprocAttr,e];refine GX T I ?_;simp only[PP,simprocAttr];refine QIf.intro (fun e2=>?_) fun e2=>?_
        · simp only[PP,simprocAttr,e2];refine GX T I ?_;have Y:IntKind.u8.wrap (IntKind.u8.wrap (x-97)+10)=((x-97+10).toNat:Int):=by rw[show x-97=(((x-97).toNat:Nat):Int) by omega,p9 (by omega),show(((x-97).toNat:Nat):Int)+10=((((x-97).toNat+10):Nat):Int) by omega,p9 (by omega)];omega
          have V:(10:Int)<=((x-97+10).toNat:Int):=by omega
          simp only[PP,simprocAttr,PI,V,Y,L,E];exact u (.inr B) _ 2 (.inr rfl)
        · simp only[PP,simprocAttr,PI,e2,E];exact u (.inr B) _ 2 (.inr rfl)
      · simp only[PP,simprocAttr,PI,e,E];exact u (.inr B) _ 2 (.inr rfl)
def Z1{t:ByteArray}(hm:t.size<=100000000)
    (u:t.data.toList=[]\/t.data.toList.foldl iQ (Jm 0)=Jn->∀(m:Int) y,K (.tuple [.int .u64 m,.iface y Zj]) M)
    (B:∀n:Nat,t.data.toList≠[]->t.data.toList.foldl iQ (Jm 0)=Jm n->K (.tuple [.int .u64 n,.ae]) M):aj tab 130 [.str t,p64 10,p64 31] M K:=by
  refine aT T.h130 ?_;simp only[af130,PP,simprocAttr];refine aBA T hm (fun h m k E=>?_) fun n h1 h2=>?_
  · simp only[PP,simprocAttr,PI];refine Y6 T (by omega) E fun y=>?_;simp only[PP,simprocAttr];exact u h m y
  · simp only[PP,simprocAttr,PI];exact B n h1 h2
def aCf{t:ByteArray}(hm:t.size<=100000000)(u:K (.bool (kM t.data.toList).isSome) M):aj tab 76 [.str t] M K:=by
  refine aT T.h76 ?_;simp only[af76,PP,simprocAttr];refine Z1 T hm (fun h m G=>?_) fun n h1 h2=>?_
  · simp only[PP,simprocAttr,PI];have:(kM t.data.toList).isSome=Jp:=by
      cases B:kM t.data.toList with
      | none=>rfl
      | some n=>
        obtain⟨E,y⟩:=iq.1 B;rw[s9 (by omega)]at y;rcases h with h | h
        · rw[h]at y;exact absurd y (aBV n)
        · rw[<-y,uT n E]at h;cases h
    rw[this]at u;exact u
  · have I:=BI _ (Jm 0) n (fun k u=>by cases u;omega) h2;have e:=xG ⟨(dig 20 n).toArray⟩ t;simp only[PP,simprocAttr,PI];refine aHt T (by omega) ?_;simp only[PP,simprocAttr,e];have:(kM t.data.toList).isSome=decide ((⟨(dig 20 n).toArray⟩:ByteArray)=t):=by
      unfold kM;rw[h2];simp only;by_cases c:o5 n=t.data.toList
      · rw[if_pos c];exact(decide_eq_true (nf.2 c)).symm
      · rw[if_neg c];exact(decide_eq_false fun h=>c (nf.1 h)).symm
    rw[this]at u;exact u
end
def lC(n:Int):Prop:=0<=n/\n<=2147483647
def mD{n:Int}(G:0<=n){l:List Int}(h:dZ n (-1) l=Jo):(l.length:Int)<=n:=by
  obtain⟨h1,h2⟩:=iT h;have u:∀(l:List Int) (a:Int),l.Pairwise (· < ·)->(∀x∈l,a<x/\x<n)->(l.length:Int)<=max 0 (n-a-1):=by
    intro l
    induction l with
    | nil=>intro a _ _;simp;omega
    | cons x l B=>intro a E y;have h1:=List.pairwise_cons.1 E;have h2:=B x h1.2 fun z hz=>⟨h1.1 z hz,(y z (by simp[hz])).2⟩;have h3:=y x (by simp);rw[As];omega
  have:=u l (-1) h1 h2;omega
def F4{n:Int}(h0:0<=n)(y:n<=5000){l:List Int}(h:dZ n (-1) l=Jo):∀x∈cM l,lC x:=fun x u=>by
  have h1:=mD h0 h;rcases List.mem_cons.1 u with rfl | u
  · exact⟨by omega,by omega⟩
  · have:=GC h x u;exact⟨by omega,by omega⟩
def IG{ow pr:List Int}{su:List (List Int)}(V:Valid ow pr su):(∀x∈ow,x<=1)/\(∀x∈pr,0<=x/\x<=16)/\∀x∈su,dZ ow.length (-1) x=Jo:=by
  have hs:=V.s;have B:=V.p;refine⟨fun x y=>?_,fun x y=>?_,fun x y=>?_⟩
  · obtain⟨i,u⟩:=List.mem_iff_getElem?.1 y;have hl:=aI u;have:=(V.row i (by omega)).2.2.1;rw[Ax,u]at this;exact this
  · obtain⟨i,u⟩:=List.mem_iff_getElem?.1 y;have hl:=aI u;have:=V.row i (by omega);rw[Ax,u]at this;exact⟨this.1,this.2.1⟩
  · obtain⟨i,u⟩:=List.mem_iff_getElem?.1 y;have hl:=aI u;have:=(V.row i (by omega)).2.2.2.2;rw[Ad (by omega)]at u;cases u;exact this
def In.nk{i:In}(h0:i.chk=0)(B:i.Bn)(E:i.Pos):∀x∈i.dp,lC x:=by
  cases i with
  | n N=>
    have C:=lR h0;have G:=C.v0;have I:=C.v6;have y:=C.n0;have J:=C.n64;have Q:=C.rq;intro x u;unfold In.dp at u;simp only[Ci,Cu,Fh,or_false,Gb]at u;rcases u with(((rfl | rfl) | u) | u) | rfl | ⟨e,he,u⟩
    · exact⟨by omega,by omega⟩
    · exact⟨by omega,by omega⟩
    · exact F4 y (by omega) C.st x u
    · exact F4 y (by omega) C.fi x u
    · exact⟨by omega,by omega⟩
    · obtain⟨R,S,T,U,_⟩:=C.ed e he;obtain⟨Y,Z⟩:=B.b e he;unfold egN at u;simp only[Cu,Fh,or_false]at u;rcases u with rfl | rfl | rfl | rfl<;>exact⟨by omega,by omega⟩
  | d D=>
    have C:=fx.1 h0;have G:=C.v0;have I:=C.v6;have y:=C.n0;have K:=C.n1;have s0:=C.s0;have s1:=C.s1;intro x u;unfold In.dp at u;simp only[Ci,Cu,Fh,or_false,List.mem_flatten,List.mem_map]at u;rcases u with((rfl | rfl | rfl) | ⟨r,hr,u⟩) | ⟨b,_,rfl⟩
    · exact⟨by omega,by omega⟩
    · exact⟨by omega,by omega⟩
    · exact⟨by omega,by omega⟩
    · have:=(C.r r hr).2 x u;exact⟨by omega,by omega⟩
    · unfold b2I;split<;>exact⟨by omega,by omega⟩
  | g ow pr su=>
    have V:=eU h0;have K:=V.n1;obtain⟨L,M,O⟩:=IG V;intro x u;unfold In.dp at u;simp only[Ci,Cu,Gb]at u;rcases u with((rfl | u) | u) | ⟨r,hr,u⟩
    · exact⟨by omega,by omega⟩
    · have:=L x u;have:=E x u;exact⟨by omega,by omega⟩
    · have:=M x u;exact⟨by omega,by omega⟩
    · exact F4 (n:=ow.length) (by omega) (by omega) (O r hr) x u
def In.rd{i:In}(h0:i.chk=0)(u:i.Bn)(y:i.Pos):bw i.kw ⟨tn i.dp,0,0⟩=(i,⟨[],0,0⟩):=by
  have d1:kwM≠kwD:=by decide
  have d2:kwP≠kwD:=by decide
  have d3:kwP≠kwM:=by decide
  cases i with
  | n N=>unfold bw In.kw;rw[if_pos rfl,aGR (lR h0) u]
  | d D=>unfold bw In.kw;simp only;rw[if_neg d1,if_pos trivial,aHA (fx.1 h0)]
  | g ow pr su=>unfold bw In.kw;simp only;rw[if_neg d2,if_neg d3,aEO (eU h0) y]
def W0{x:Int}(h:0<=x):TG x=w6 x.toNat:=by unfold TG LL w6 o5;rw[if_neg (by omega)]
abbrev wds(l:List Int):List ByteArray:=l.map fun x=>w6 x.toNat
abbrev wdM(b y g B:Nat)(u:List ByteArray):Mem:=[.cells 0 y [.ref (b+1) g 1 0 u.length],.cells g B (u.map PV.str)]
section
variable {tab:Tb} (T:HasA tab){M:Mem}{K:Kp}
include T
set_option maxHeartbeats 1000000 in
def nW{A G M:Mem}{K:Kp}{f o:Bool}{vb g vw:Nat}{xs:List ByteArray}{l:List Int}(O:M=A++(wdM A.length vb g vw xs++G))(hl:∀x∈l,lC x)(h1:xs.length<1000000000)(h2:l.length<1000000000)
    (u:∀y Q B,K (.tuple []) (A++(wdM A.length y Q B (xs++wds l)++G))):aj tab 61 [.ptr A.length 0 0,slI f o .i64 l] M K:=by
  subst O;refine aT T.h61 ?_;simp only[af61,PP,simprocAttr];refine wA (fun(k vb g vw:Nat)=>k<=l.length) (fun k vb g vw=>(.ptr A.length 0 0::zj 5++slI f o .i64 l::p64 l.length::p64 k::zj 13)) (fun k vb g vw=>A++(wdM A.length vb g vw (xs++wds (l.take k))++G)) (fun k vb g vw=>l.length-k) 0 vb g vw (by omega) (by simp only[PW]) (by simp) ?_;intro k vb g vw R S;refine aH (by kernel_rfl) ?_;simp only[PP,simprocAttr];refine QIf.intro (fun c=>?_) fun c=>?_;rotate_left
  · have E:k=l.length:=by omega
    subst E;rw[Be (Ac _)];have u:=u vb g vw;simp only[PP,simprocAttr]at u;simp only[PP,simprocAttr,c];exact u
  have hlt:k<l.length:=by omega
  have hw:=aC (k:=k) (by show _<1000000000000;omega);have U:(0:Int)<=k:=by omega
  obtain⟨x,I⟩:=aM hlt;have L:=hl x (Af I);unfold lC at L;have J:(l.take k).length=k:=by rw[Bu];omega
  have V:(xs.length+k+1)*16<=140737488355328:=by omega
  have Y:xs.length+k+1<=9223372036854775807:=by omega
  simp only[PP,simprocAttr,c,U,I,gk0,J];refine aEH T (by omega) (by omega) ?_;simp only[PP,simprocAttr,PT,gk,gk0,sk,sk0,hw,J,V,Y];have e:xs.length+k+1=xs.length+(k+1):=by omega
  have:=S (k+1) (vb+1) (g+1) 0 (by omega) (by omega);rw[bZ I,W0 L.1]at*;simp only[PP,simprocAttr,J,e]at this ⊢;refine aR this (by simp only[PW]) ?_;rw[aK _ _ (by simp;omega)];simp only[Ab]
set_option maxHeartbeats 1000000 in
def uZ{A G M:Mem}{K:Kp}{f o:Bool}{vb g vw:Nat}{xs:List ByteArray}{l:List Int}(I:M=A++(wdM A.length vb g vw xs++G))(hl:∀x∈cM l,lC x)(h1:xs.length<900000000)(h2:l.length<900000000)
    (u:∀B J E,K (.tuple []) (A++(wdM A.length B J E (xs++wds (cM l))++G))):aj tab 62 [.ptr A.length 0 0,slI f o .i64 l] M K:=by
  subst I;refine aT T.h62 ?_;simp only[af62,PP,simprocAttr];refine nW T (f:=true) (o:=true) (l:=[(l.length:Int)]) (A:=A) (G:=G) (vb:=vb) (g:=g) (vw:=vw) (xs:=xs) (by simp only[PP,simprocAttr]) (fun x y=>hl x (by unfold cM;simp at y;simp[y])) (by omega) (by simp) fun vb g vw=>?_;simp only[PP,simprocAttr];refine nW T (f:=f) (o:=o) (l:=l) (A:=A) (G:=G) (vb:=vb) (g:=g) (vw:=vw) (xs:=xs++wds [(l.length:Int)]) (by simp only[PP,simprocAttr]) (fun x y=>hl x (List.mem_cons_of_mem _ y)) (by simp;omega) (by omega) fun vb g vw=>?_;have u:=u vb g vw;simp only[PP,simprocAttr,cM,Ab]at u ⊢;exact u
end
end Go.Am.Ar
namespace Go.Am
def rN{u:Tb}{m:Nat}{a:List PV}{M:Mem}{B E:Kl}{G:Nat->Kl}{c:AR}{x y:AC}(J:pev a c= .bool Jp)(h:bV u m y a M B E G):bV u m (.cond c x y) a M B E G:=by intro w hh K h0 hm s I;rw[HZ];have hv:=aQ I c;rw[J]at hv;refine⟨Jp,jB hv,?_⟩;rw[if_neg (by simp)];exact h w hh K h0 hm s I
end Go.Am
namespace Go.Am.Ar
open Go.Am.PV renaming aa->Zj
open Go.Am renaming jj->P1,mj->P2,ls->P3,fe->P4,cm.under->P5,ig->P6,du->P7,ct->P8,pev->P9,ji->P10,bd->P11,ll->P12,dv->P13,cK->P14,AO.effect->P15
open List renaming replicate->L1
def In.oj(i:In)(u:Nat):ByteArray:=⟨(i.txt u).toArray⟩
def aBp(i:In)(u:Nat):(⟨(Lib.join (((⟨i.kw.toArray⟩:ByteArray)::wds ((u:Int)::i.dp)).map (·.data.toList)) [32]).toArray⟩:ByteArray)=i.oj u:=by rw[LD];unfold In.oj In.txt;congr 3;simp[w6]
def lU{A G:Mem}{b y g B n:Nat}{u:List ByteArray}{cs:List PV}(h1:n=u.length)(h2:cs=u.map PV.str):A++cm.cells 0 y [.ref (b+1) g 1 0 n]::cm.cells g B cs::G=A++(wdM b y g B u++G):=by subst h1;subst h2;rfl
def HK:∀k u,(dig k u).length<=k
  | 0,_=>Ac _
  | k+1,u=>by
    unfold dig;split
    · simp
    · rw[An,List.length_singleton];have:=HK k (u / 10);omega
def R0:∀l:List Int,((l.map fun n:Int=>o5 n.toNat).flatMap fun x=>32::x).length<=21*l.length
  | []=>by simp
  | x::l=>by have:=R0 l;have h:=HK 20 x.toNat;simp only[Ak,Cd,An,As];have:(o5 x.toNat).length<=20:=h;omega
def aDr(i:In)(u:Nat):(i.txt u).length<=32+21*i.dp.length:=by
  have h:=R0 ((u:Int)::i.dp);have y:i.kw.length<=11:=by cases i<;>simp[In.kw,kwD,kwM,kwP]
  have:(i.txt u).length=i.kw.length+((((u:Int)::i.dp).map fun n:Int=>o5 n.toNat).flatMap fun x=>32::x).length:=by unfold In.txt sS;rw[An]
  rw[As]at h;omega
section
variable {tab:Tb} (T:HasA tab){M:Mem}{K:Kp}
include T
omit T in
def sZ:∀l:List Eg,(l.flatMap egN).length=4*l.length
  | []=>rfl
  | e::l=>by rw[Cd,An,sZ l];simp[egN];omega
def NQ{i:In}{u id g ver n:Nat}{cs:List PV}(E:M[id]? =Jm (.cells g ver cs))(I:n=cs.length)(B:cs= .str ⟨i.kw.toArray⟩::((u:Int)::i.dp).map fun x=>PV.str (w6 x.toNat))(hl:i.dp.length<1000000000)(J:K (.str (i.oj u)) M):
    aj tab 63 [.ref id g 1 0 n,.str ⟨#[32]⟩] M K:=by
  have e:cs=((⟨i.kw.toArray⟩:ByteArray)::wds ((u:Int)::i.dp)).map PV.str:=by rw[B];simp
  have hlen:n=((⟨i.kw.toArray⟩:ByteArray)::wds ((u:Int)::i.dp)).length:=by rw[I,e,Ap]
  rw[e]at E;rw[hlen];have y:(⟨#[32]⟩:ByteArray).data.toList=[32]:=rfl;have ht:=aDr i u;have G:Lib.join (((⟨i.kw.toArray⟩:ByteArray)::wds ((u:Int)::i.dp)).map (·.data.toList)) [32]=i.txt u:=by have:=aBp i u;unfold In.oj at this;have:=congrArg (fun b:ByteArray=>b.data.toList) this;simpa using this
  refine aEF T E (by simp;omega) (by rw[y,G];omega) ?_;rw[y,G];exact J
set_option maxHeartbeats 4000000 in
def aGy{j w v y:Nat}{u:Nat}{U V Y Z f3 o3:Bool}{N:NF}{rest:List PV}
    (R:M[j]? =Jm (.cells 0 v [.iface 116 (.ptr w 0 0),p64 (u:Int)])) (hw:M[w]? =Jm (.cells 0 y (nfC U V Y Z f3 o3 N++rest)))
    (J:∀x∈(In.n N).dp,lC x) (hu:u<=2147483647) (hc:M.all (aG M.length)=Jo) (hB:N.st.length<100000000/\N.fi.length<100000000/\N.es.length<100000000)
    (hk:K (.str ((In.n N).oj u)) M):aj tab 23 [.ptr j 0 0] M K:=by
  have I:=fun l=>cE R l;have L:=fun l=>cE hw l;refine dI (cA T.h23 ?_);simp only[af23];refine aA (aB ?_);simp only[PP,simprocAttr];refine aA (aB ?_);simp only[PP,simprocAttr,PI,R];refine aA (aB ?_);simp only[PP,simprocAttr];refine aA ?_;refine aA (aB ?_);simp only[PP,simprocAttr,I];refine gP (aA (aB ?_));simp only[PP,simprocAttr,PI];refine rM rfl ?_;refine aA (aB ?_);simp only[PP,simprocAttr];refine aA (rL 0 rfl ?_);simp only[PP,simprocAttr,PT,Option.some.injEq,exists_eq_left',Ab,gk0,sk0];refine aB ?_;simp only[PP,simprocAttr,I,L];have a0:N.st.length<100000000/\N.fi.length<100000000/\N.es.length<100000000:=by exact hB
  have m1:∀x∈[(u:Int),N.vs,N.n],lC x:=fun x E=>by
    simp only[Cu,Fh,or_false]at E;rcases E with rfl | rfl | rfl
    · exact⟨by omega,by omega⟩
    · exact J _ (by unfold In.dp;simp)
    · exact J _ (by unfold In.dp;simp)
  have m2:∀x∈cM N.st,lC x:=fun x E=>J x (by unfold In.dp;simp only[Ci];exact .inl (.inl (.inr E)));have m3:∀x∈cM N.fi,lC x:=fun x E=>J x (by unfold In.dp;simp only[Ci];exact .inl (.inr E));have m4:∀x∈[(N.es.length:Int)],lC x:=fun x E=>by
    rw[Bp]at E;exact J x (by unfold In.dp;simp[E])
  have m5:∀e∈N.es,∀x∈egN e,lC x:=fun e he x E=>J x (by unfold In.dp;simp only[Ci,Cu,Gb];exact .inr (.inr ⟨e,he,E⟩));refine nW T (f:=true) (o:=true) (l:=[(u:Int),N.vs,N.n]) (A:=M) (G:=[]) (vb:=1) (g:=0) (vw:=0) (xs:=[⟨kwD.toArray⟩]) (by simp only[PP,simprocAttr];rfl) m1 (by simp) (by simp) fun B g y=>?_;simp only[PP,simprocAttr,L];refine uZ T (f:=U) (o:=V) (l:=N.st) (A:=M) (G:=[]) (vb:=B) (g:=g) (vw:=y) (xs:=[⟨kwD.toArray⟩]++wds [(u:Int),N.vs,N.n]) (by simp only[PP,simprocAttr]) m2 (by simp) (by omega) fun B g y=>?_;simp only[PP,simprocAttr,L];refine uZ T (f:=Y) (o:=Z) (l:=N.fi) (A:=M) (G:=[]) (vb:=B) (g:=g) (vw:=y) (xs:=[⟨kwD.toArray⟩]++wds [(u:Int),N.vs,N.n]++wds (cM N.st)) (by simp only[PP,simprocAttr]) m3 (by simp[cM];omega) (by omega) fun B g y=>?_;simp only[PP,simprocAttr,L];refine nW T (f:=true) (o:=true) (l:=[(N.es.length:Int)]) (A:=M) (G:=[]) (vb:=B) (g:=g) (vw:=y) (xs:=[⟨kwD.toArray⟩]++wds [(u:Int),N.vs,N.n]++wds (cM N.st)++wds (cM N.fi)) (by simp only[PP,simprocAttr]) m4 (by simp[cM];omega) (by simp) fun B g y=>?_;simp only[PP,simprocAttr,L];refine aAU (fun(k B g y:Nat) (G:Mem)=>k<=N.es.length) (fun k B g y G=>(zj 3++ .ptr M.length 0 0::zj 63++slE f3 o3 N.es::p64 N.es.length::p64 k::zj 123))
    (fun k B g y G=>M++(wdM M.length B g y ([⟨kwD.toArray⟩]++wds [(u:Int),N.vs,N.n]++wds (cM N.st)++wds (cM N.fi)++wds [(N.es.length:Int)]++wds ((N.es.take k).flatMap egN))++G)) (fun k B g y G=>N.es.length-k) 0 B g y [] (by omega) (by simp only[PW]) (by simp) ?_
  intro k B g y G a1 ih;refine aH (by kernel_rfl) ?_;simp only[PP,simprocAttr];refine QIf.intro (fun c=>?_) fun c=>?_;rotate_left
  · have S:k=N.es.length:=by omega
    subst S;rw[Be (Ac _)];simp only[PP,simprocAttr,c];refine aB ?_;simp only[PP,simprocAttr,gk0];refine NQ T (i:= .n N) (u:=u) (by rw[gk];rfl) (by simp;omega) (by simp[In.dp,cM,In.kw,Gf]) (by unfold In.dp cM;simp only[An,As,Bl,sZ];omega) ?_;simp only[PP,simprocAttr];refine Gh.step (GStep.im (b:=[.str ((In.n N).oj u)]) (N:=M) M.length (Ac _) (by simp) (by simp only[PW]) (by simp[aD,PV.under]) ?_ (Bb rfl)) (Gh.same ⟨_,rfl,hk⟩);exact(congrArg (fun N:Mem=>N.all (aG M.length)) (Bb rfl)).trans hc
  have hlt:k<N.es.length:=by omega
  have hw:=aC (k:=k) (by show _<1000000000000;omega);have i0:(0:Int)<=k:=by omega
  obtain⟨x,Q⟩:=aM hlt;have he:aY (egL N.es) (k*4) 4=egC x:=oH Q;have b4:k*4+4<=(egL N.es).length:=by rw[gA];omega
  have E:=m5 x (Af Q);have x1:=E x.ps (by simp[egN]);have x2:=E x.ng (by simp[egN]);unfold lC at x1 x2;have w1:IntKind.i64.wrap x.ps=x.ps:=by rw[wrap64]<;>omega
  have w2:IntKind.i64.wrap x.ng=x.ng:=by rw[wrap64]<;>omega
  simp only[PP,simprocAttr,c,i0,gk,gk0,sk,sk0,he,b4,Ab,egC,w1,w2];refine nW T (f:=true) (o:=true) (l:=egN x) (A:=M) (G:=G++[.cells 0 1 (egC x)]) (vb:=B) (g:=g) (vw:=y) (xs:=[⟨kwD.toArray⟩]++wds [(u:Int),N.vs,N.n]++wds (cM N.st)++wds (cM N.fi)++wds [(N.es.length:Int)]++wds ((N.es.take k).flatMap egN)) (lU (by simp;omega) (by simp)) E (by have h3:=sZ (N.es.take k);rw[Bu]at h3;simp only[PP,simprocAttr,cM,h3];omega) (by simp[egN]) fun B g y=>?_;simp only[PP,simprocAttr,hw];refine aR (ih (k+1) B g y (G++[.cells 0 1 (egC x)]) (by omega) (by omega)) (by simp only[PW]) ?_;rw[bZ Q];simp only[Ab];exact lU (by simp;omega) (by simp)
end
abbrev m6(l:List UInt8):PV:= .str ⟨l.toArray⟩
def iP(l:List UInt8):(⟨l.toArray⟩:ByteArray).size=l.length:=by show l.toArray.size=_;simp
def yT(l:List UInt8)(k:Nat):(⟨l.toArray⟩:ByteArray)[k]? =l[k]? :=by
  by_cases h:k<l.length
  · rw[getElem?_pos _ _ (by show k<Gj _;rw[iP];exact h),Ad h];rfl
  · rw[getElem?_neg _ _ (by show ¬k<Gj _;rw[iP];exact h),Bk (by omega)]
def I1(l:List UInt8)(a b:Nat):(⟨l.toArray⟩:ByteArray).extract a b=⟨((l.take b).drop a).toArray⟩:=by
  apply Fs;rw[ByteArray.data_extract];apply Ch;simp[List.take_drop];by_cases h:a<=b
  · rw[show a+(b-a)=b by omega]
  · rw[show b-a=0 by omega,Nat.add_zero,Fm (by simp;omega),Fm (by simp;omega)]
section
variable {tab:Tb} (T:HasA tab){M:Mem}{K:Kp}
include T
omit T in
def pF{f:Bool}{n:Nat}{b:UInt8}(h:¬(48<=b.toNat/\b.toNat<=57)\/f=Jo/\n=0\/2147483647<10*n+(b.toNat-48)):lM (Jm (f,n)) b=Jn:=by
  unfold lM;simp only;rw[if_neg];rintro⟨a,b,c,d⟩;rcases h with h | h | h
  · exact h ⟨a,b⟩
  · exact c h
  · omega
set_option maxHeartbeats 2000000 in
def aDk{w:List UInt8}(hm:w.length<=100000000)(S:∀n,kM w=Jm n->K (.tuple [p64 n,.bool Jo]) M)(y:kM w=Jn->K (.tuple [p64 0,.bool Jp]) M):aj tab 111 [m6 w] M K:=by
  have B:=iP w;have u:=yT w;refine aF T.h111 (by simp only[PP,simprocAttr,PT]) ?_;simp only[af111,PP,simprocAttr];refine cQ (fun(k n:Nat)=>k<=w.length/\n<=2147483647/\(w.take k).foldl lM (Jm (Jp,0))=Jm (decide (0<k),n)) (fun k n=>(m6 w::zj 3++p64 n::p64 k::zj 38)) (fun k n=>[]) (fun k n=>w.length-k) 0 0 ⟨by omega,by omega,rfl⟩ (by simp only[PW]) rfl ?_;intro k n ⟨a0,hn,hf⟩ ih;have stop:∀b:UInt8,w[k]? =Jm b->lM (Jm (decide (0<k),n)) b=Jn->kM w=Jn:=fun b hb he=>by
    rw[<-SI];unfold Y5;rw[<-Cy k w,Em,hf,gB hb,Ed,he,BH]
  refine aH (by kernel_rfl) ?_;simp only[PP,simprocAttr,PT,B];refine QIf.intro (fun O=>?_) fun O=>?_;rotate_left
  · obtain rfl:k=w.length:=by omega
    rw[En]at hf;simp only[PP,simprocAttr,PT,B,O];have hv:=SI w;unfold Y5 at hv;rw[hf]at hv;by_cases h0:0<w.length
    · have J:(0:Int)<w.length:=by omega
      rw[decide_eq_true h0]at hv;simp only[J,decide_true];exact S n hv.symm
    · have J:¬(0:Int)<w.length:=by omega
      rw[decide_eq_false h0]at hv;obtain rfl:w=[]:=List.length_eq_zero_iff.1 (by omega);cases hf;simp only[J,decide_false];exact y hv.symm
  have hlt:k<w.length:=by omega
  have hw:=aC (k:=k) (by show _<1000000000000;omega);have Q:(0:Int)<=k:=by omega
  obtain⟨b,G⟩:=aM hlt;have hb:=b.toNat_lt;by_cases d1:b.toNat<48
  · have E:((b.toNat:Nat):Int)<48:=by omega
    simp only[PP,simprocAttr,PT,u,O,Q,G,E];exact y (stop b G (pF (.inl (by omega))))
  have E:¬((b.toNat:Nat):Int)<48:=by omega
  by_cases d2:57<b.toNat
  · have I:(57:Int)<((b.toNat:Nat):Int):=by omega
    simp only[PP,simprocAttr,PT,u,O,Q,G,E,I];exact y (stop b G (pF (.inl (by omega))))
  have I:¬(57:Int)<((b.toNat:Nat):Int):=by omega
  have U:IntKind.u8.wrap (((b.toNat:Nat):Int)-48)=((b.toNat-48:Nat):Int):=by rw[show((b.toNat:Nat):Int)-48=((b.toNat-48:Nat):Int) by omega,p9 (by omega)]
  have V:IntKind.i64.wrap ((b.toNat-48:Nat):Int)=((b.toNat-48:Nat):Int):=by rw[wrap64]<;>omega
  have Y:IntKind.i64.wrap (10*(n:Int))=((10*n:Nat):Int):=by rw[wrap64]<;>omega
  have Z:IntKind.i64.wrap (((10*n:Nat):Int)+((b.toNat-48:Nat):Int))=((10*n+(b.toNat-48):Nat):Int):=by rw[wrap64]<;>omega
  have rest:¬(0<k/\n=0)->∀{X:Prop},(2147483647<10*n+(b.toNat-48)->kM w=Jn)->True:=fun _ _ _=>trivial;have R:¬(0<k/\n=0)->10*n+(b.toNat-48)<=2147483647->(w.take (k+1)).foldl lM (Jm (Jp,0))=Jm (decide (0<k+1),10*n+(b.toNat-48)):=fun h1 h2=>by rw[Cp,G,Em,hf];show lM (Jm (decide (0<k),n)) b=_;unfold lM;simp only;rw[if_pos ⟨by omega,by omega,by rintro⟨a,c⟩;exact h1 ⟨of_decide_eq_true a,c⟩,h2⟩];simp
  have fin:¬(0<k/\n=0)->2147483647<10*n+(b.toNat-48)->kM w=Jn:=fun h1 h2=>stop b G (pF (.inr (.inr h2)));by_cases d3:k=0
  · subst d3;have k0:¬(0:Int)<((0:Nat):Int):=by omega
    simp only[PP,simprocAttr,PT,u,G,E,I,U,V,Y,Z];refine QIf.intro (fun L=>?_) fun L=>?_
    · simp only[PP,simprocAttr,L];exact y (fin (by omega) (by omega))
    · have wz:IntKind.i64.wrap 1=1:=rfl;simp only[PP,simprocAttr,L,wz];exact aE (ih (0+1) _ ⟨by omega,by omega,R (by omega) (by omega)⟩ (by omega)) (by simp only[PW])
  · have k0:(0:Int)<(k:Int):=by omega
    simp only[PP,simprocAttr,PT,u,O,Q,G,E,I,k0];refine QIf.intro (fun L=>?_) fun L=>?_
    · simp only[PP,simprocAttr,L];exact y (stop b G (pF (.inr (.inl ⟨decide_eq_true (by omega),by omega⟩))))
    · simp only[PP,simprocAttr,PT,u,Q,G,U,V,Y,Z,L];refine QIf.intro (fun c3=>?_) fun c3=>?_
      · simp only[PP,simprocAttr,c3];exact y (fin (by omega) (by omega))
      · simp only[PP,simprocAttr,c3,hw];exact aE (ih (k+1) _ ⟨by omega,by omega,R (by omega) (by omega)⟩ (by omega)) (by simp only[PW])
set_option maxHeartbeats 4000000 in
def aGw{j w v B:Nat}{u:Nat}{f1 o1 f2 o2 f3 o3 f4 V:Bool}{ow pr:List Int}{su:List (List Int)}{rest:List PV}
    (Y:M[j]? =Jm (.cells 0 v [.iface 125 (.ptr w 0 0),p64 (u:Int)])) (hw:M[w]? =Jm (.cells 0 B ([slI f1 o1 .u8 ow,slI f2 o2 .i64 pr,slR f3 o3 f4 V .i64 su]++rest)))
    (R:∀x∈(In.g ow pr su).dp,lC x) (hu:u<=2147483647) (hc:M.all (aG M.length)=Jo) (Z:(In.g ow pr su).dp.length<100000000)
    (hk:K (.str ((In.g ow pr su).oj u)) M):aj tab 23 [.ptr j 0 0] M K:=by
  have J:=fun l=>cE Y l;have S:=fun l=>cE hw l;have nl:1+ow.length+pr.length+(su.flatMap cM).length<100000000:=by unfold In.dp at Z;simp only[An,As]at Z;omega
  have m1:∀x∈[(u:Int),(ow.length:Int)],lC x:=fun x I=>by
    simp only[Cu,Fh,or_false]at I;rcases I with rfl | rfl
    · exact⟨by omega,by omega⟩
    · exact R _ (by unfold In.dp;simp)
  have m2:∀x∈ow,lC x:=fun x I=>R x (by unfold In.dp;simp[I]);have m3:∀x∈pr,lC x:=fun x I=>R x (by unfold In.dp;simp[I]);have m4:∀r∈su,∀x∈cM r,lC x:=fun r hr x I=>R x (by unfold In.dp;simp only[Ci,Gb];exact .inr ⟨r,hr,I⟩);have O:∀k,((su.take k).flatMap cM).length<=(su.flatMap cM).length:=fun k=>by
    have:=congrArg (fun l:List (List Int)=>(l.flatMap cM).length) (Cy k su);simp only[Jg,An]at this;omega
  have a2:su.length<=(su.flatMap cM).length:=by
    clear O m4 R hk nl Z hw S
    induction su with
    | nil=>simp
    | cons r l U=>simp only[Cd,An,As,cM]at U ⊢;omega
  refine dI (cA T.h23 ?_);simp only[af23];refine aA (aB ?_);simp only[PP,simprocAttr];refine aA (aB ?_);simp only[PP,simprocAttr,PI,Y];refine aA (aB ?_);simp only[PP,simprocAttr];refine aA ?_;refine aA (aB ?_);simp only[PP,simprocAttr,J];refine gP (aA (aB ?_));simp only[PP,simprocAttr,PI];refine rN rfl ?_;refine aA (aB ?_);simp only[PP,simprocAttr,PI];refine rN rfl ?_;refine aA (aB ?_);simp only[PP,simprocAttr,PI];refine rM rfl ?_;refine aA (aB ?_);simp only[PP,simprocAttr];refine aA (rL 0 rfl ?_);simp only[PP,simprocAttr,PT,Option.some.injEq,exists_eq_left',Ab,gk0,sk0];refine aB ?_;simp only[PP,simprocAttr,J,S];refine nW T (f:=true) (o:=true) (l:=[(u:Int),(ow.length:Int)]) (A:=M) (G:=[]) (vb:=1) (g:=0) (vw:=0) (xs:=[⟨kwP.toArray⟩]) (by simp only[PP,simprocAttr];rfl) m1 (by simp) (by simp) fun E g B=>?_;simp only[PP,simprocAttr,S];refine wA (fun(k E g B:Nat)=>k<=ow.length) (fun k E g B=>(zj 3++ .ptr M.length 0 0::zj 8++ .ptr w 0 0::zj 148++slI f1 o1 .u8 ow::p64 ow.length::p64 k::zj 29))
    (fun k E g B=>M++(wdM M.length E g B ([⟨kwP.toArray⟩]++wds [(u:Int),(ow.length:Int)]++wds (ow.take k))++[])) (fun k E g B=>ow.length-k) 0 E g B (by omega) (by simp only[PW]) (by simp) ?_
  intro k E g B a0 U;refine aH (by kernel_rfl) ?_;simp only[PP,simprocAttr];refine QIf.intro (fun c=>?_) fun c=>?_
  · have hlt:k<ow.length:=by omega
    have hw:=aC (k:=k) (by show _<1000000000000;omega);have i0:(0:Int)<=k:=by omega
    obtain⟨x,L⟩:=aM hlt;have I:=m2 x (Af L);have a1:=I;unfold lC at a1;have w1:IntKind.i64.wrap x=x:=by rw[wrap64]<;>omega
    have tk:(ow.take k).length=k:=by rw[Bu];omega
    simp only[PP,simprocAttr,c,i0,L,w1];refine nW T (f:=true) (o:=true) (l:=[x]) (A:=M) (G:=[]) (vb:=E) (g:=g) (vw:=B) (xs:=[⟨kwP.toArray⟩]++wds [(u:Int),(ow.length:Int)]++wds (ow.take k)) (lU (by simp) (by simp)) (fun y hy=>by rw[Bp]at hy;subst hy;exact I) (by simp only[PP,simprocAttr,tk];omega) (by simp) fun E g B=>?_;simp only[PP,simprocAttr,hw];refine aR (U (k+1) E g B (by omega) (by omega)) (by simp only[PW]) ?_;rw[bZ L];refine lU (by simp<;>omega) (by simp)
  · have Q:k=ow.length:=by omega
    subst Q;rw[Be (Ac _)];simp only[PP,simprocAttr,c,S];refine nW T (f:=f2) (o:=o2) (l:=pr) (A:=M) (G:=[]) (vb:=E) (g:=g) (vw:=B) (xs:=[⟨kwP.toArray⟩]++wds [(u:Int),(ow.length:Int)]++wds ow) (lU (by simp) (by simp)) m3 (by simp only[PP,simprocAttr];omega) (by omega) fun E g B=>?_;simp only[PP,simprocAttr,S];refine wA (fun(k E g B:Nat)=>k<=su.length) (fun k E g B=>(zj 3++ .ptr M.length 0 0::zj 178++slR f3 o3 f4 V .i64 su::p64 su.length::p64 k::zj 8))
      (fun k E g B=>M++(wdM M.length E g B ([⟨kwP.toArray⟩]++wds [(u:Int),(ow.length:Int)]++wds ow++wds pr++wds ((su.take k).flatMap cM))++[])) (fun k E g B=>su.length-k) 0 E g B (by omega) (by simp only[PW]) (by simp) ?_
    intro k E g B a0 U;refine aH (by kernel_rfl) ?_;simp only[PP,simprocAttr];refine QIf.intro (fun c=>?_) fun c=>?_
    · have hlt:k<su.length:=by omega
      have hw:=aC (k:=k) (by show _<1000000000000;omega);have i0:(0:Int)<=k:=by omega
      obtain⟨x,L⟩:=aM hlt;have I:=m4 x (Af L);have h2:=O k;have h3:=O (k+1);rw[bZ L,Jg,An]at h3;simp only[Cd,List.flatMap_nil,Bv,cM,As]at h3;simp only[PP,simprocAttr,c,i0,L];refine uZ T (f:=f4) (o:=V) (l:=x) (A:=M) (G:=[]) (vb:=E) (g:=g) (vw:=B) (xs:=[⟨kwP.toArray⟩]++wds [(u:Int),(ow.length:Int)]++wds ow++wds pr++wds ((su.take k).flatMap cM)) (lU (by simp) (by simp)) I (by simp only[PP,simprocAttr];omega) (by omega) fun E g B=>?_;simp only[PP,simprocAttr,hw];refine aR (U (k+1) E g B (by omega) (by omega)) (by simp only[PW]) ?_;rw[bZ L];refine lU (by simp<;>omega) (by simp)
    · have Q:k=su.length:=by omega
      subst Q;rw[Be (Ac _)];simp only[PP,simprocAttr,c];refine aB ?_;simp only[PP,simprocAttr,gk0];refine NQ T (i:= .g ow pr su) (u:=u) (by rw[gk];rfl) (by simp only[As,An,Ap]) (by simp[In.dp,In.kw,Gf]) (by omega) ?_;simp only[PP,simprocAttr];refine Gh.step (GStep.im (b:=[.str ((In.g ow pr su).oj u)]) (N:=M) M.length (Ac _) (by simp) (by simp only[PW]) (by simp[aD,PV.under]) ?_ (Bb rfl)) (Gh.same ⟨_,rfl,hk⟩);exact(congrArg (fun N:Mem=>N.all (aG M.length)) (Bb rfl)).trans hc
end
abbrev jbN(f o:Bool)(N:NF)(u:Int):List PV:=
  [p64 1,p64 N.vs,p64 N.n,slI f o .i64 N.st,slI f o .i64 N.fi,slE f o N.es,p64 0,p64 0,slR f o f o .i64 [],slB f o [],slI f o .u8 [],slI f o .i64 [],slR f o f o .i64 [],p64 u]
section
variable {tab:Tb} (T:HasA tab){M:Mem}{K:Kp}
include T
abbrev jbD(f o:Bool)(D:DF)(u:Int):List PV:=
  [p64 2,p64 0,p64 0,slI f o .i64 [],slI f o .i64 [],slE f o [],p64 D.vs,p64 D.st,slR f o f o .i64 D.nx,slB f o D.fi,slI f o .u8 [],slI f o .i64 [],slR f o f o .i64 [],p64 u]
abbrev jbG(f o:Bool)(ow pr:List Int)(su:List (List Int))(u:Int):List PV:=
  [p64 3,p64 0,p64 0,slI f o .i64 [],slI f o .i64 [],slE f o [],p64 0,p64 0,slR f o f o .i64 [],slB f o [],slI f o .u8 ow,slI f o .i64 pr,slR f o f o .i64 su,p64 u]
end
def In.four:In->Prop
  | .g ow _ _=>ow.length<=4
  | _=>True
def NT{D:DF}{m:Nat}(h:∀j,j<m->aS D (j+1)≠aS D j):m<=D.nx.length:=by
  rcases Fb D.nx.length with q | q
  · rcases Fb m with p | p
    · omega
    · have e:aS D (0+1)=aS D 0:=by rw[List.length_eq_zero_iff.1 ((b9 D 0).trans q),List.length_eq_zero_iff.1 ((b9 D (0+1)).trans q)]
      exact absurd e (h 0 p)
  · exact Jd (GA q h)
section
variable {tab:Tb} (T:HasA tab){M:Mem}{K:Kp}
include T
set_option maxHeartbeats 4000000 in
def aGx{j w v y:Nat}{u:Nat}{f1 o1 S U f3 o3:Bool}{D:DF}{rest:List PV}
    (V:M[j]? =Jm (.cells 0 v [.iface 122 (.ptr w 0 0),p64 (u:Int)])) (hw:M[w]? =Jm (.cells 0 y (dfC f1 o1 S U f3 o3 D++rest)))
    (hn:∀x∈(In.d D).dp,lC x) (hu:u<=2147483647) (hc:M.all (aG M.length)=Jo) (hB:(In.d D).dp.length<100000000)
    (hk:K (.str ((In.d D).oj u)) M):aj tab 23 [.ptr j 0 0] M K:=by
  have L:=fun l=>cE V l;have Y:=fun l=>cE hw l;have nl:3+D.nx.flatten.length+D.fi.length<100000000:=by unfold In.dp at hB;simp only[An,As,Bl,Ap]at hB;omega
  have m1:∀x∈[(u:Int),D.vs,D.st,(D.nx.length:Int)],lC x:=fun x E=>by
    rcases List.mem_cons.1 E with rfl | E
    · exact⟨by omega,by omega⟩
    · exact hn _ (by unfold In.dp;simp only[Ci];exact .inl (.inl E))
  have nb:D.nx.length<=2147483647:=by have:=m1 (D.nx.length:Int) (by simp);unfold lC at this;omega
  have m2:∀r∈D.nx,∀x∈r,lC x:=fun r hr x E=>hn x (by unfold In.dp;simp only[Ci,List.mem_flatten];exact .inl (.inr ⟨r,hr,E⟩));have O:∀k,((D.nx.take k).flatten).length<=D.nx.flatten.length:=fun k=>by
    have:=congrArg (fun l:List (List Int)=>l.flatten.length) (Cy k D.nx);simp only[List.flatten_append,An]at this;omega
  refine dI (cA T.h23 ?_);simp only[af23];refine aA (aB ?_);simp only[PP,simprocAttr];refine aA (aB ?_);simp only[PP,simprocAttr,PI,V];refine aA (aB ?_);simp only[PP,simprocAttr];refine aA ?_;refine aA (aB ?_);simp only[PP,simprocAttr,L];refine gP (aA (aB ?_));simp only[PP,simprocAttr,PI];refine rN rfl ?_;refine aA (aB ?_);simp only[PP,simprocAttr,PI];refine rM rfl ?_;refine aA (aB ?_);simp only[PP,simprocAttr];refine aA (rL 0 rfl ?_);simp only[PP,simprocAttr,PT,Option.some.injEq,exists_eq_left',Ab,gk0,sk0];refine aB ?_;simp only[PP,simprocAttr,L,Y];refine nW T (f:=true) (o:=true) (l:=[(u:Int),D.vs,D.st,(D.nx.length:Int)]) (A:=M) (G:=[]) (vb:=1) (g:=0) (vw:=0) (xs:=[⟨kwM.toArray⟩]) (by simp only[PP,simprocAttr];rfl) m1 (by simp) (by simp) fun B g y=>?_;simp only[PP,simprocAttr,Y];refine wA (fun(k B g y:Nat)=>k<=D.nx.length) (fun k B g y=>(zj 3++ .ptr M.length 0 0::zj 3++ .ptr w 0 0::zj 108++slR f1 o1 S U .i64 D.nx::p64 D.nx.length::p64 k::zj 74))
    (fun k B g y=>M++(wdM M.length B g y ([⟨kwM.toArray⟩]++wds [(u:Int),D.vs,D.st,(D.nx.length:Int)]++wds ((D.nx.take k).flatten))++[])) (fun k B g y=>D.nx.length-k) 0 B g y (by omega) (by simp only[PW]) (by simp) ?_
  intro k B g y a0 R;refine aH (by kernel_rfl) ?_;simp only[PP,simprocAttr];refine QIf.intro (fun c=>?_) fun c=>?_
  · have hlt:k<D.nx.length:=by omega
    have hw:=aC (k:=k) (by show _<1000000000000;omega);have Q:(0:Int)<=k:=by omega
    obtain⟨x,I⟩:=aM hlt;have E:=m2 x (Af I);have h2:=O k;have h3:=O (k+1);rw[bZ I,List.flatten_append,An]at h3;simp only[Ef,List.flatten_nil,Bv]at h3;simp only[PP,simprocAttr,c,Q,I];refine nW T (f:=S) (o:=U) (l:=x) (A:=M) (G:=[]) (vb:=B) (g:=g) (vw:=y) (xs:=[⟨kwM.toArray⟩]++wds [(u:Int),D.vs,D.st,(D.nx.length:Int)]++wds ((D.nx.take k).flatten)) (lU (by simp) (by simp)) E (by simp only[PP,simprocAttr];omega) (by omega) fun B g y=>?_;simp only[PP,simprocAttr,hw];refine aR (R (k+1) B g y (by omega) (by omega)) (by simp only[PW]) ?_;rw[bZ I];refine lU (by simp<;>omega) (by simp)
  · have J:k=D.nx.length:=by omega
    subst J;rw[Be (Ac _)];simp only[PP,simprocAttr,c,Y];refine wA (fun(k B g y:Nat)=>k<=D.fi.length) (fun k B g y=>(zj 3++ .ptr M.length 0 0::zj 125++slB f3 o3 D.fi::p64 D.fi.length::p64 k::zj 61))
      (fun k B g y=>M++(wdM M.length B g y ([⟨kwM.toArray⟩]++wds [(u:Int),D.vs,D.st,(D.nx.length:Int)]++wds D.nx.flatten++wds ((D.fi.take k).map b2I))++[])) (fun k B g y=>D.fi.length-k) 0 B g y (by omega) (by simp only[PW]) (by simp) ?_
    intro k B g y a0 R;refine aH (by kernel_rfl) ?_;simp only[PP,simprocAttr];refine QIf.intro (fun c=>?_) fun c=>?_
    · have hlt:k<D.fi.length:=by omega
      have hw:=aC (k:=k) (by show _<1000000000000;omega);have Q:(0:Int)<=k:=by omega
      obtain⟨x,I⟩:=aM hlt;have tk:(D.fi.take k).length=k:=by rw[Bu];omega
      simp only[PP,simprocAttr,c,Q,I];cases x
      · simp only[PP,simprocAttr];refine nW T (f:=true) (o:=true) (l:=[0]) (A:=M) (G:=[]) (vb:=B) (g:=g) (vw:=y) (xs:=[⟨kwM.toArray⟩]++wds [(u:Int),D.vs,D.st,(D.nx.length:Int)]++wds D.nx.flatten++wds ((D.fi.take k).map b2I)) (lU (by simp) (by simp)) (fun x E=>by rw[Bp]at E;subst E;exact⟨by omega,by omega⟩) (by simp only[PP,simprocAttr,tk];omega) (by simp) fun B g y=>?_;simp only[PP,simprocAttr,hw];refine aR (R (k+1) B g y (by omega) (by omega)) (by simp only[PW]) ?_;rw[bZ I];refine lU (by simp<;>omega) (by simp[b2I])
      · simp only[PP,simprocAttr];refine nW T (f:=true) (o:=true) (l:=[1]) (A:=M) (G:=[]) (vb:=B) (g:=g) (vw:=y) (xs:=[⟨kwM.toArray⟩]++wds [(u:Int),D.vs,D.st,(D.nx.length:Int)]++wds D.nx.flatten++wds ((D.fi.take k).map b2I)) (lU (by simp) (by simp)) (fun x E=>by rw[Bp]at E;subst E;exact⟨by omega,by omega⟩) (by simp only[PP,simprocAttr,tk];omega) (by simp) fun B g y=>?_;simp only[PP,simprocAttr,hw];refine aR (R (k+1) B g y (by omega) (by omega)) (by simp only[PW]) ?_;rw[bZ I];refine lU (by simp<;>omega) (by simp[b2I])
    · have J:k=D.fi.length:=by omega
      subst J;rw[Be (Ac _)];simp only[PP,simprocAttr,c];refine aB ?_;simp only[PP,simprocAttr,gk0];refine NQ T (i:= .d D) (u:=u) (by rw[gk];rfl) (by simp only[As,An,Ap]) (by simp[In.dp,In.kw,Gf]) (by omega) ?_;simp only[PP,simprocAttr];refine Gh.step (GStep.im (b:=[.str ((In.d D).oj u)]) (N:=M) M.length (Ac _) (by simp) (by simp only[PW]) (by simp[aD,PV.under]) ?_ (Bb rfl)) (Gh.same ⟨_,rfl,hk⟩);exact(congrArg (fun N:Mem=>N.all (aG M.length)) (Bb rfl)).trans hc
end
structure ra (tab:Tb) (jid b L:Nat) (i:In) (StF:Mem->Nat->Mem->Prop):Prop where
  X:∀A:Mem,A.length=b->A.all (aG b)=Jo->qc tab jid 10 i.done i.ik (StF A) L i.rp
  sav:∀A:Mem,A.length=b->A.all (aG b)=Jo->∀m M,StF A m M->m<=2147483647->∀(S:Mem) (K:Kp),K (.str (i.oj m)) (M++S)->aj tab 23 [.ptr jid 0 0] (M++S) K
  pre:∀A m M,StF A m M->∃X,M=A++X
  bas:∀(A A':Mem) m X,A.length=b->A'.length=b->StF A m (A++X)->StF A' m (A'++X)
def In.Bw:In->Prop
  | .n N=>BnN N
  | .d D=>BnD D
  | .g ow pr su=>Bnd ow pr su
def In.B99:In->Prop
  | .n N=>True
  | .d D=>D.nx.length<=99
  | .g ow pr su=>ow.length<=99
def In.Bn.w{i:In}(h:i.Bn):i.Bw/\i.B99:=by
  cases i with
  | n N=>exact⟨h,trivial⟩
  | d D=>exact h
  | g ow pr su=>exact h
def In.bn{i:In}(h:i.Bw)(h2:i.B99):i.Bn:=by
  cases i with
  | n N=>exact h
  | d D=>exact⟨h,h2⟩
  | g ow pr su=>exact⟨h,h2⟩
def TK{l:List (List Int)}{c:Nat}(h:∀x∈l,x.length<=c):l.flatten.length<=l.length*c:=by
  induction l with
  | nil=>simp
  | cons x l u=>have h1:=h x (by simp);have h2:=u fun y B=>h y (by simp[B]);rw[Ef,An,As,Nat.add_mul];omega
def In.ny{i:In}(h0:i.chk=0):i.dp.length<100000000:=by
  cases i with
  | n N=>have C:=lR h0;have B:=C.n0;have E:=C.n64;have K:=C.rq;have h1:=mD B C.st;have h2:=mD B C.fi;have h3:=sZ N.es;unfold In.dp cM;simp only[An,As,Bl,h3];omega
  | d D=>
    have C:=fx.1 h0;have L:=C.v6;have G:=C.n1;have hf:=C.f;have I:2^D.vs.toNat<=2^6:=Ji (by omega) (by omega);have h1:=TK (l:=D.nx) (c:=64) fun x u=>by
      have:=(C.r x u).1;have:((2^D.vs.toNat:Nat):Int)=x.length:=by rw[this];simp
      omega
    unfold In.dp;simp only[An,As,Bl,Ap];omega
  | g ow pr su=>
    have V:=eU h0;have G:=V.n1;have M:=V.p;have hs:=V.s;have h1:=TK (l:=su.map cM) (c:=4097) fun x u=>by obtain⟨y,J,rfl⟩:=List.mem_map.1 u;have:=mD (n:=ow.length) (by omega) ((IG V).2.2 y J);unfold cM;rw[As];omega
    rw[Ap]at h1;have e:su.flatMap cM=(su.map cM).flatten:=by simp[Jh]
    have h2:su.length*4097<=4096*4097:=Nat.mul_le_mul_right _ (by omega);unfold In.dp;simp only[An,As,e];omega
section
variable {tab:Tb} (T:HasA tab){M:Mem}{K:Kp}
include T
omit T in
def F7{u L:Nat}{M S:Mem}{K:Kp}{t:ByteArray}(hL:M.length=L)(G:u<L)(y:M.all (aG L)=Jo)(I:K (.str t) (M++S))(h:∀B:Kp,B (.str t) M->aj tab 23 [.ptr u 0 0] M B):
    aj tab 23 [.ptr u 0 0] (M++S) K:=by
  have E:(M++S).take L=M:=Bb hL;have J:(M++S).drop L=S:=Hj hL;refine lK (m:=L) (by rw[An];omega) (by simp[aD,PV.under,G]) (by rw[E];exact y) ?_;rw[E,J];exact h _ ⟨by simp[PV.under],hL,y,I⟩
def aBt{b:Nat}{N:NF}(hc:eB N=0)(B:BnN N):ra tab (b+7) b (b+8) (.n N) (fun A=>StD A N) where
  X:=fun A hb hA=>by subst hb;exact LH T hc B hA
  sav:=fun A hb hA m M hS hm S K hk=>by subst hb;have J:=LH T hc B hA;refine F7 (J.len _ _ hS) (by omega) (J.cut _ _ hS) hk fun K' hk'=>?_;have hL:=J.len _ _ hS;have hC:=J.cut _ _ hS;obtain⟨_,f1,o1,f2,o2,f3,o3,f,o,q,v,rfl⟩:=hS;have C:=lR hc;have n0:=C.n0;have n64:=C.n64;have e5:=C.rq;have h1:=mD n0 C.st;have h2:=mD n0 C.fi;exact aGy T (w:=A.length+4) xU (by unfold jH;rw[gk];rfl) (In.nk (i:= .n N) hc B trivial) hm (by rw[hL];exact hC) ⟨by omega,by omega,by omega⟩ hk'
  pre:=fun A m M ⟨_,f1,o1,f2,o2,f3,o3,f,o,q,v,h⟩=>⟨_,h⟩
  bas:=fun A A' m X h1 h2 ⟨hb,f1,o1,f2,o2,f3,o3,f,o,q,v,h⟩=>by have hX:=Jj (show A++X=A++_ from h);refine⟨hb,f1,o1,f2,o2,f3,o3,f,o,q,v,?_⟩;unfold jH;rw[hX,h1,h2]
def aBs{b:Nat}{D:DF}(hc:cN D=0)(B:BnD D)(h99:D.nx.length<=99):ra tab (b+1) b (b+2) (.d D) (fun A=>StM A D) where
  X:=fun A hb hA=>by subst hb;exact LG T hc B h99 hA
  sav:=fun A hb hA m M hS hm S K hk=>by subst hb;have J:=LG T hc B h99 hA;refine F7 (J.len _ _ hS) (by omega) (J.cut _ _ hS) hk fun K' hk'=>?_;have hL:=J.len _ _ hS;have hC:=J.cut _ _ hS;obtain⟨_,f1,o1,f2,o2,f3,o3,f,o,v1,v2,rfl⟩:=hS;exact aGx T (w:=A.length) (by unfold lS;rw[gk];rfl) (by unfold lS;rw[gk0];rfl) (In.nk (i:= .d D) hc ⟨B,h99⟩ trivial) hm (by rw[hL];exact hC) (In.ny (i:= .d D) hc) hk'
  pre:=fun A m M ⟨_,f1,o1,f2,o2,f3,o3,f,o,v1,v2,h⟩=>⟨_,h⟩
  bas:=fun A A' m X h1 h2 ⟨hb,f1,o1,f2,o2,f3,o3,f,o,v1,v2,h⟩=>by have hX:=Jj (show A++X=A++_ from h);refine⟨hb,f1,o1,f2,o2,f3,o3,f,o,v1,v2,?_⟩;unfold lS;rw[hX,h1,h2]
def WX{b:Nat}{ow pr:List Int}{su:List (List Int)}(hc:bO ow pr su=0)(B:Bnd ow pr su)(h99:ow.length<=99)(hp:∀x∈ow,0<=x):ra tab (b+3) b (b+4) (.g ow pr su) (fun A=>StP A ow pr su) where
  X:=fun A hb hA=>by subst hb;exact EX T hA hc B h99
  sav:=fun A hb hA m M hS hm S K hk=>by subst hb;have J:=EX T hA hc B h99;refine F7 (J.len _ _ hS) (by omega) (J.cut _ _ hS) hk fun K' hk'=>?_;have hL:=J.len _ _ hS;have hC:=J.cut _ _ hS;obtain⟨_,f1,o1,f2,o2,f3,o3,f4,o4,ms,v1,v2,v3,b,hS1,hN,_,rfl⟩:=hS;exact aGw T (w:=A.length) xT (by unfold hH;rw[gk0];rfl) (In.nk (i:= .g ow pr su) hc ⟨B,h99⟩ hp) hm (by rw[hL];exact hC) (In.ny (i:= .g ow pr su) hc) hk'
  pre:=fun A m M ⟨_,f1,o1,f2,o2,f3,o3,f4,o4,ms,v1,v2,v3,b,_,_,_,h⟩=>⟨_,h⟩
  bas:=fun A A' m X h1 h2 ⟨hb,f1,o1,f2,o2,f3,o3,f4,o4,ms,v1,v2,v3,b,a1,a2,a3,h⟩=>by have hX:=Jj (show A++X=A++_ from h);refine⟨hb,f1,o1,f2,o2,f3,o3,f4,o4,ms,v1,v2,v3,b,a1,a2,a3,?_⟩;unfold hH;rw[hX,h1,h2]
end
structure lf (tab:Tb) (i:In) (A:Mem) (K:Kp):Prop where
  bad:i.chk≠0->K (.tuple [.au,p64 i.chk]) A
  ok:i.chk=0->∀jid b L StF A0 M0,ra tab jid b L i StF->A0.length=b->A0.all (aG b)=Jo->StF A0 0 M0->(∃X,A0=A++X)->K (.tuple [.ptr jid 0 0,p64 0]) M0
def In.oc:In->List PV
  | .n N=>nfC Jp Jo Jp Jo Jp Jo N
  | .d D=>dfC Jp Jo Jp Jo Jp Jo D
  | .g ow pr su=>[slI Jp Jo .u8 ow,slI Jp Jo .i64 pr,slR Jp Jo Jp Jo .i64 su]
def In.bg:In->FuncId
  | .n _=>121
  | .d _=>124
  | .g .. =>128
section
variable {tab:Tb} (T:HasA tab){M:Mem}{K:Kp}
include T
def aI9{A Y:Mem}{N:NF}{K:Kp}{q:Nat->Nat}{v:Nat}(u:eB N=0)(B:BnN N)(h:lf tab (.n N) A K)(y:(A++Y).all (aG (A++Y).length)=Jo):K (.tuple [.ptr ((A++Y).length+7) 0 0,p64 0]) (jH (A++Y) Jp Jo Jp Jo Jp Jo Jp Jo N q [dL N] [] [] v 0):=
  h.ok u _ _ _ _ (A++Y) _ (aBt T u B) rfl y ⟨⟨by omega,by show [dL N].length<=4096;simp⟩,Jp,Jo,Jp,Jo,Jp,Jo,Jp,Jo,q,v,rfl⟩ ⟨Y,rfl⟩
def aJb{A Y:Mem}{D:DF}{K:Kp}{v:Nat}(y:cN D=0)(B:BnD D)(u:D.nx.length<=99)(h:lf tab (.d D) A K)(E:(A++Y).all (aG (A++Y).length)=Jo):K (.tuple [.ptr ((A++Y).length+1) 0 0,p64 0]) (lS (A++Y) Jp Jo Jp Jo Jp Jo Jp Jo D v 0 0 0):=
  h.ok y _ _ _ _ (A++Y) _ (aBs T y B u) rfl E ⟨fun j G=>by omega,Jp,Jo,Jp,Jo,Jp,Jo,Jp,Jo,v,0,rfl⟩ ⟨Y,rfl⟩
def aJa{A Y:Mem}{ow pr:List Int}{su:List (List Int)}{u:List Ms}{b:Bool}{K:Kp}{v1 v2:Nat}(y:bO ow pr su=0)(B:Bnd ow pr su)(E:ow.length<=99)(J:∀x∈ow,0<=x)(G:CJ ow pr su 0 u b 0)(h:lf tab (.g ow pr su) A K)(L:(A++Y).all (aG (A++Y).length)=Jo):K (.tuple [.ptr ((A++Y).length+3) 0 0,p64 0]) (hH (A++Y) Jp Jo Jp Jo Jp Jo Jp Jo ow pr su u v1 v2 0 b 0):=by
  rcases G with⟨a,_⟩ | ⟨_,a,_⟩ | ⟨_,_,O,I,Q,_⟩
  · exact absurd y a
  · omega
  · refine h.ok y _ _ _ _ (A++Y) _ (WX T y B E J) rfl L ⟨Ai _,Jp,Jo,Jp,Jo,Jp,Jo,Jp,Jo,u,v1,v2,0,b,O,I,?_,rfl⟩ ⟨Y,rfl⟩;rw[Q,I];exact Iff.rfl
omit T in
def aBW{A Y:Mem}{n:Nat}(hA:A.all (aG A.length)=Jo)(u:Y.all (aG n)=Jo)(y:A.length+Y.length=n):(A++Y).all (aG (A++Y).length)=Jo:=by rw[An,y,Cc,u,bE (by omega) hA];rfl
def aIf{A:Mem}{K:Kp}{u y E G I J:Bool}{N:NF}(B:BnN N)(hA:A.all (aG A.length)=Jo)(h:lf tab (.n N) A K):aj tab 40 [.agg (nfC u y E G I J N)] A K:=
  ZG T B hA h.bad fun L X q v O=>by have:=aI9 T (Y:=[X]) (q:=q) (v:=v) L B h (aBW (n:=A.length+1) hA (by simp[O]) rfl);simpa only[An,As,Bl,Az,Cs,El]using this
def aIh{A:Mem}{K:Kp}{E G I J L O:Bool}{D:DF}(B:BnD D)(u:cN D=0->D.nx.length<=99)(hA:A.all (aG A.length)=Jo)(h:lf tab (.d D) A K):aj tab 41 [.agg (dfC E G I J L O D)] A K:=
  ZF T B u hA h.bad fun y X Y v Q R=>by have:=aJb T (Y:=[X,Y]) (v:=v) y B (u y) h (aBW (n:=A.length+2) hA (by simp[Q,R]) rfl);simpa only[An,As,Bl,Az,Cs,El]using this
def aIg{A:Mem}{K:Kp}{J L O Q R S f4 U:Bool}{ow pr:List Int}{su:List (List Int)}(B:Bnd ow pr su)(u:bO ow pr su=0->ow.length<=99)(V:∀x∈ow,0<=x)(hA:A.all (aG A.length)=Jo)(h:lf tab (.g ow pr su) A K):aj tab 42 [gmP J L O Q R S f4 U ow pr su] A K:=
  ZE T B hA h.bad fun E X Y G I ms b Z hy y=>by have:=aJa T (Y:=[X,Y]) (v1:=G) (v2:=I) E B (u E) V y h (aBW (n:=A.length+2) hA (by simp[Z,hy]) rfl);simpa only[An,As,Bl,Az,Cs,El]using this
def aI0{A:Mem}{K:Kp}{q R:Nat}{i:In}(Q:i.Bw)(E:i.chk=0->i.B99)(S:i.Pos)(B:A[q]? =Jm (.cells 0 R i.oc))(hA:A.all (aG A.length)=Jo)(h:lf tab i A K):aj tab i.bg [.ptr q 0 0] A K:=by
  cases i with
  | n N=>
    refine aT T.h121 ?_;simp only[In.oc]at B;simp only[af121,PP,simprocAttr,B];refine aIf T Q hA ⟨fun u=>?_,fun u y b L StF G I J h1 h2 h3 O=>?_⟩
    · simp only[PP,simprocAttr];exact h.bad u
    · simp only[PP,simprocAttr];exact h.ok u y b L StF G I J h1 h2 h3 O
  | d D=>
    refine aT T.h124 ?_;simp only[In.oc]at B;simp only[af124,PP,simprocAttr,B];refine aIh T Q E hA ⟨fun u=>?_,fun u y b L StF G I J h1 h2 h3 O=>?_⟩
    · simp only[PP,simprocAttr];exact h.bad u
    · simp only[PP,simprocAttr];exact h.ok u y b L StF G I J h1 h2 h3 O
  | g ow pr su=>
    refine aT T.h128 ?_;simp only[In.oc]at B;simp only[af128,PP,simprocAttr,B];refine aIg T Q E S hA ⟨fun u=>?_,fun u y b L StF G I J h1 h2 h3 O=>?_⟩
    · simp only[PP,simprocAttr];exact h.bad u
    · simp only[PP,simprocAttr];exact h.ok u y b L StF G I J h1 h2 h3 O
end
def BP{α:Type}{f:List α->RS->List α×RS}{P:α->Prop}(hf:∀s r,∃x,(f s r).1=s++[x]/\P x):∀(n:Nat) (s:List α) (r:RS),(∀x∈s,P x)->∀x∈(bG f n s r).1,P x
  | 0,s,r,h=>h
  | n+1,s,r,h=>by
    unfold bG;split
    · refine BP hf n _ _ fun x u=>?_;obtain⟨y,h1,h2⟩:=hf s r;rw[h1]at u;rcases List.mem_append.1 u with u | u
      · exact h x u
      · rw[Bp]at u;subst u;exact h2
    · exact h
def JC(k:Nat)(r:RS):(RS.small k r).1<=k:=by unfold RS.small;simp only;omega
def aIp(r:RS):∀x∈r.nfa.1.es,(0<=x.ps/\x.ps<=255)/\(0<=x.ng/\x.ng<=255):=by unfold RS.nfa;exact BP (f:=fun u r=>(u++[(eM r).1],(eM r).2)) (P:=fun x=>(0<=x.ps/\x.ps<=255)/\(0<=x.ng/\x.ng<=255)) (fun s r=>⟨_,rfl,by have h1:=JC 255 r.next.2.next.2;have h2:=JC 255 (RS.small 255 r.next.2.next.2).2;show(0<=((RS.small 255 r.next.2.next.2).1:Int)/\((RS.small 255 r.next.2.next.2).1:Int)<=255)/\(0<=((RS.small 255 (RS.small 255 r.next.2.next.2).2).1:Int)/\((RS.small 255 (RS.small 255 r.next.2.next.2).2).1:Int)<=255);omega⟩) _ [] _ (fun x y=>by cases y)
def aHp(r:RS):∀x∈r.dj.1.1,0<=x:=by unfold RS.dj;exact BP (f:=fun u r=>(u++[((RS.small 255 r).1:Int)],(RS.small 255 r).2)) (P:=fun x=>0<=x) (fun s r=>⟨_,rfl,by omega⟩) _ [] _ (fun x y=>by cases y)
def VH(k:List UInt8)(r:RS):(bw k r).1.Pos/\∀N,(bw k r).1= .n N->∀x∈N.es,(0<=x.ps/\x.ps<=255)/\(0<=x.ng/\x.ng<=255):=by
  unfold bw;split
  · exact⟨trivial,fun N h=>by cases h;exact aIp r⟩
  · split
    · exact⟨trivial,fun N h=>by cases h⟩
    · exact⟨aHp r,fun N h=>by cases h⟩
def YU:∀l:List Int,2*l.length<=((l.map fun n:Int=>o5 n.toNat).flatMap fun x=>32::x).length
  | []=>by simp
  | x::l=>by
    have:=YU l;have h:o5 x.toNat≠[]:=by unfold o5 dig;split<;>simp
    have h:=List.length_pos_iff.2 h;simp only[Ak,Cd,An,As];omega
def aGo(i:In)(u:Nat):10+2*i.dp.length<=(i.txt u).length:=by
  have h:=YU ((u:Int)::i.dp);have y:8<=i.kw.length:=by cases i<;>simp[In.kw,kwD,kwM,kwP]
  have:(i.txt u).length=i.kw.length+((((u:Int)::i.dp).map fun n:Int=>o5 n.toNat).flatMap fun x=>32::x).length:=by unfold In.txt sS;rw[An]
  rw[As]at h;omega
def aD4{i:In}(hl:i.dp.length<=195)(hs:∀x∈i.dp,x<=2147483647)(hb:∀N,i= .n N->∀x∈N.es,(0<=x.ps/\x.ps<=255)/\(0<=x.ng/\x.ng<=255)):i.Bw/\(i.chk=0->i.B99):=by
  have G:∀(l:List (List Int)) (x:List Int),x∈l->x.length<=l.flatten.length:=fun l x u=>by
    induction l with
    | nil=>cases u
    | cons y l B=>
      rw[Ef,An];rcases List.mem_cons.1 u with rfl | u
      · omega
      · have:=B u;omega
  cases i with
  | n N=>have he:=sZ N.es;unfold In.dp cM at hl;simp only[An,As,Bl,he]at hl;exact⟨⟨by show _<1000000000000;omega,by show _<1000000000000;omega,by show _<1000000000000;omega,hb N rfl⟩,fun _=>trivial⟩
  | d D=>
    unfold In.dp at hl;simp only[An,As,Bl,Ap]at hl;have hz:D.nx.length<=195->D.nx.length<1000000000000:=fun h=>by omega
    refine⟨⟨?_,fun r hr=>?_,by show _<1000000000000;omega⟩,fun E=>?_⟩
    · have:=hs (D.nx.length:Int) (by unfold In.dp;simp);show _<1000000000000;omega
    · have:=G D.nx r hr;show _<1000000000000;omega
    · have C:=fx.1 E;have:=C.f;have h1:∀l:List (List Int),(∀r∈l,1<=r.length)->l.length<=l.flatten.length:=fun l h=>by
        induction l with
        | nil=>simp
        | cons y l B=>have:=h y (by simp);have:=B fun r hr=>h r (by simp[hr]);rw[Ef,An,As];omega
      have:=h1 D.nx fun r hr=>by
        have:=(C.r r hr).1;have I:0<2^D.vs.toNat:=Nat.pow_pos (by omega);have:((2^D.vs.toNat:Nat):Int)=r.length:=by rw[this];simp
        omega
      show D.nx.length<=99;omega
  | g ow pr su=>
    unfold In.dp at hl;simp only[An,As]at hl;have h2:∀su:List (List Int),su.length<=(su.flatMap cM).length:=fun su=>by
      induction su with
      | nil=>simp
      | cons r l B=>have e:(cM r).length=r.length+1:=rfl;rw[Cd,An,As];omega
    have h2:=h2 su;refine⟨⟨by show _<1000000000000;omega,by show _<1000000000000;omega,by show _<1000000000000;omega,fun r hr=>?_⟩,fun E=>?_⟩
    · have:=G (su.map cM) (cM r) (List.mem_map.2 ⟨r,hr,rfl⟩);have e:su.flatMap cM=(su.map cM).flatten:=by simp[Jh]
      rw[<-e]at this;have J:(cM r).length=r.length+1:=rfl;show _<1000000000000;omega
    · have V:=eU E;have:=V.p;have:=V.s;show ow.length<=99;omega
def zQ{l:List UInt8}{i:In}{u:Nat}(h:cL l= .ok i u)(hl:l.length<=400):i.Bw/\(i.chk=0->i.B99)/\i.Pos/\(∀x∈i.dp,x<=2147483647):=by
  obtain⟨ht,U⟩:=zS h;have hg:=aGo i u;rw[ht]at hg;have B:i.Pos/\(∀N,i= .n N->∀x∈N.es,(0<=x.ps/\x.ps<=255)/\(0<=x.ng/\x.ng<=255))/\∀x∈i.dp,x<=2147483647:=by
    unfold cL at h;split at h
    · cases h
    · rename_i k V hs;split at h
      · rename_i Y;split at h
        · cases h
        · rename_i y E;obtain⟨Z,K⟩:=ec.1 E;unfold kP at h;split at h
          · cases h
          · split at h
            · cases h
            · rename_i L;split at h
              · cases h
              · rename_i M;split at h
                · cases h
                · rename_i O;have d2:=Classical.not_not.1 L;have d3:=Classical.not_not.1 M;have Q:=Classical.not_not.1 O;have hr:=VH k (RS.next ⟨y,0,0⟩).2;obtain⟨b1,b2,I⟩:=(Rd.next ⟨y,0,0⟩).trans (Rd.bw k (RS.next ⟨y,0,0⟩).2) d2 Q;injection h with h1 h2;rw[h1]at hr I;refine⟨hr.1,hr.2,fun x R=>?_⟩;have G:x∈(RS.mk y 0 0).li:=by rw[I];simp[R]
                  obtain⟨n,E,rfl⟩:=List.mem_map.1 G;have:=K n E;omega
      · cases h
  obtain⟨k1,k2,J⟩:=B;obtain⟨S,T⟩:=aD4 (by omega) J k2;exact⟨S,T,k1,J⟩
def zR:∀(l:List UInt8) (a n:Nat),l.foldl iQ (Jm a)=Jm n->Lib.parseUint10 a l= .ok n
  | [],a,n,h=>by cases h;rfl
  | c::l,a,n,h=>by
    rw[Ed]at h;by_cases u:48<=c.toNat/\c.toNat<=57/\10*a+(c.toNat-48)<=2147483647
    · have e:iQ (Jm a) c=Jm (10*a+(c.toNat-48)):=by unfold iQ;simp only;rw[if_pos u]
      rw[e]at h;have:=zR l _ n h;unfold Lib.parseUint10;rw[if_pos ⟨u.1,u.2.1⟩,if_neg (by omega),if_neg (by omega),show a*10+(c.toNat-48)=10*a+(c.toNat-48) by omega];exact this
    · have e:iQ (Jm a) c=Jn:=by unfold iQ;simp only;rw[if_neg u]
      rw[e,q9]at h;cases h
def aCh{n:Nat}(h:n<=2147483647):Lib.atoiAll (w6 n).data.toList= .ok (n:Int):=by
  have e:(w6 n).data.toList=Lib.decDigits n:=by show o5 n=_;exact s9 (by omega)
  have u:=zR _ 0 n (uT n h);have hd:=XB n;have y:=aBV n;rw[e];revert u hd y
  match Lib.decDigits n with
  | []=>exact fun _ _ h=>absurd rfl h
  | c::r=>intro u hd _;have B:=hd c (by simp);unfold Lib.atoiAll;simp only;rw[if_neg (by omega)];unfold Lib.parseMag;rw[if_neg (by simp),u];simp only;rw[if_neg (by omega),if_neg (by omega),if_neg (by omega)]
def OkR(r:RS):Prop:=∀n∈r.l,n<=2147483647
def OkR.next{r:RS}(h:OkR r):OkR r.next.2/\r.next.1<=2147483647:=by
  obtain⟨l,e,la⟩:=r
  cases l with
  | nil=>exact⟨fun n y=>absurd y (by simp[RS.next]),by simp[RS.next]⟩
  | cons n l=>exact⟨fun x u=>h x (by simp at u ⊢;exact .inr u),h n (by simp)⟩
def OkR.small{r:RS}(h:OkR r)(k:Nat):OkR (r.small k).2:=h.next.1
def OkR.vars{r:RS}(h:OkR r):OkR r.vars.2:=h.next.1
def OkR.each{σ:Type}{f:σ->RS->σ×RS}(hf:∀s r,OkR r->OkR (f s r).2):∀(n:Nat) (s:σ) (r:RS),OkR r->OkR (bG f n s r).2
  | 0,s,r,h=>h
  | n+1,s,r,h=>by
    unfold bG;split
    · exact OkR.each hf n _ _ (hf s r h)
    · exact h
def OkR.list{r:RS}(h:OkR r)(n:Nat):OkR (RS.list n r).2:=OkR.each (f:=fun u r=>(u++[((RS.next r).1:Int)],(RS.next r).2)) (fun s r h=>h.next.1) n [] r h
abbrev nsV(l:List Nat):PV:= .sl Jo Jo 1 l.length (l.map fun n=>PV.str (w6 n))
abbrev rdO(v:Nat)(r:RS):cm:= .cells 0 v [nsV r.l,p64 r.e,p64 r.late]
section
variable {tab:Tb} (T:HasA tab){M:Mem}{K:Kp}
include T
def gV{A G:Mem}{K:Kp}{v:Nat}{r:RS}(hr:OkR r)(u:∀y,K (p64 (r.next.1:Int)) (A++(rdO y r.next.2::G))):aj tab 77 [.ptr A.length 0 0] (A++(rdO v r::G)) K:=by
  obtain⟨l,e,la⟩:=r;refine aT T.h77 ?_
  cases l with
  | nil=>
    simp only[af77,PP,simprocAttr,gk0];refine QIf.intro (fun c=>?_) fun c=>?_
    · simp only[PP,simprocAttr,gk0,sk0];have:=u (v+1);simp only[RS.next,PP,simprocAttr,c]at this;exact this
    · simp only[PP,simprocAttr];have:=u v;simp only[RS.next,PP,simprocAttr,c]at this;exact this
  | cons n l=>
    have B:n<=2147483647:=hr n (by simp);have hz:¬((l.length+1:Nat):Int)=0:=by omega
    have E:(0:Int)<((l.length+1:Nat):Int):=by omega
    have h1:(1:Int)<=((l.length+1:Nat):Int):=by omega
    have I:(((l.length+1:Nat):Int)-1).toNat=l.length:=by omega
    have hd:=HK 20 n;have hs:(w6 n).size<=9223372036854775806:=by have:(w6 n).size=(dig 20 n).length:=rfl;omega
    simp only[af77,PP,simprocAttr,gk0,hz,E];refine aFe T hs (aCh B) ?_;simp only[PP,simprocAttr,gk0,sk0,h1,I];have:=u (v+1);simp only[RS.next,simprocAttr]at this;exact⟨Cq _,this⟩
omit T in
def T0(M u:Mem):∀(A:Mem) (i:Nat),bT i (A++M) (A++u)=bT (i+A.length) M u
  | [],i=>rfl
  | o::A,i=>by show bT i (o::(A++M)) (o::(A++u))=_;rw[BV,T0 M u A (i+1),As,show i+1+A.length=i+(A.length+1) by omega]
omit T in
def dA(A G:Mem)(v u:Nat)(x y:List PV):bT 0 (A++cm.cells 0 v x::G) (A++cm.cells 0 u y::G)=if v=u then []else [A.length]:=by rw[T0,Az,qK,j7];simp
def sI{A G:Mem}{K:Kp}{v lim:Nat}{r:RS}(hr:OkR r)(hl:lim<=255)(E:∀y,K (.int .u8 ((r.small lim).1:Int)) (A++(rdO y (r.small lim).2::G))):aj tab 120 [.ptr A.length 0 0,p64 (lim:Int)] (A++(rdO v r::G)) K:=by
  refine aT T.h120 ?_;simp only[af120,PP,simprocAttr];refine gV T hr fun y=>?_;have u:∀n:Nat,min (n:Int) (lim:Int)=((min n lim:Nat):Int):=fun n=>by omega
  have hw:IntKind.u8.wrap ((min r.next.1 lim:Nat):Int)=((min r.next.1 lim:Nat):Int):=p9 (by omega);simp only[PP,simprocAttr];refine QIf.intro (fun c=>?_) fun c=>?_
  · have B:lim<r.next.1:=by omega
    have:=E (y+1);simp only[RS.small,simprocAttr,B]at this;simp only[PP,simprocAttr,gk0,sk0,EH,u,hw];exact this
  · have B:¬lim<r.next.1:=by omega
    have:=E y;simp only[RS.small,simprocAttr,B]at this;simp only[PP,simprocAttr,EH,u,hw];exact this
def SO{A G:Mem}{K:Kp}{v:Nat}{r:RS}(hr:OkR r)(B:∀u,K (p64 (r.vars.1:Int)) (A++(rdO u r.vars.2::G))):aj tab 116 [.ptr A.length 0 0] (A++(rdO v r::G)) K:=by
  refine aT T.h116 ?_;simp only[af116,PP,simprocAttr];refine gV T hr fun u=>?_;simp only[PP,simprocAttr];refine QIf.intro (fun c=>?_) fun c=>?_
  · have y:6<r.next.1:=by omega
    have:=B (u+1);simp only[RS.vars,simprocAttr,y]at this;simp only[PP,simprocAttr,gk0,sk0];exact this
  · have y:¬6<r.next.1:=by omega
    have:=B u;simp only[RS.vars,simprocAttr,y]at this;simp only[PP,simprocAttr];exact this
set_option maxHeartbeats 1000000 in
def rC{σ:Type}{A G:Mem}{K:Kp}{n g v:Nat}{B:List PV}{f:σ->RS->σ×RS}{s:σ}{r:RS}(I:Nat->σ->Mem->Prop)(hn:n<=2147483647)
    (hf:∀k s r v G,k<n->I k s G->OkR r->r.e=0->∀Y:Kp,(∀J E,I (k+1) (f s r).1 E->Y (.tuple []) (A++(rdO J (f s r).2::E)))->aj tab g B (A++(rdO v r::G)) Y)
    (S:∀s r,OkR r->OkR (f s r).2) (L:I 0 s G) (hr:OkR r)
    (R:∀k J E,k<=n->I k (bG f n s r).1 E->OkR (bG f n s r).2->K (.tuple []) (A++(rdO J (bG f n s r).2::E))):
    aj tab 118 [.ptr A.length 0 0,p64 (n:Int),.func (.func g) [] B] (A++(rdO v r::G)) K:=by
  refine aT T.h118 ?_;simp only[af118,PP,simprocAttr];refine aAU (fun(k:Nat) (y:σ) (u:RS) (v:Nat) (G:Mem)=>k<=n/\I k y G/\OkR u/\bG f (n-k) y u=bG f n s r) (fun k y u v G=>(.ptr A.length 0 0::p64 n:: .func (.func g) [] B::zj 3++p64 k::zj 14)) (fun k y u v G=>A++(rdO v u::G)) (fun k y u v G=>n-k) 0 s r v G ⟨by omega,L,hr,rfl⟩ (by simp only[PW]) rfl ?_;intro k y u v G ⟨O,L,hr,he⟩ Z;refine aH (by kernel_rfl) ?_;by_cases U:(k:Int)<n
  · by_cases Q:u.e=0
    · have hw:=aC (k:=k) (by show _<1000000000000;omega);have V:bG f (n-k) y u=bG f (n-(k+1)) (f y u).1 (f y u).2:=by
        rw[show n-k=(n-(k+1))+1 by omega,bG,if_pos Q]
      simp only[PP,simprocAttr,gk0,U,Q];refine hf k y u v G (by omega) L hr Q _ fun J E h'=>?_;simp only[PP,simprocAttr,hw];exact aE (Z (k+1) _ _ J E ⟨by omega,h',S _ _ hr,by rw[<-V,he]⟩ (by omega)) (by simp only[PW])
    · have e:bG f (n-k) y u=(y,u):=by rw[show n-k=(n-(k+1))+1 by omega,bG,if_neg Q]
      rw[e]at he;simp only[PP,simprocAttr,gk0,U,Q];rw[<-he]at R;exact R k v G O L hr
  · have e:n-k=0:=by omega
    rw[e]at he;have he:(y,u)=_:=he;rw[<-he]at R;simp only[PP,simprocAttr,U];exact R k v G O L hr
omit T in
def IM(m:Nat)(l:List Nat):aD m (l.map fun n=>PV.str (w6 n))=Jo:=dK m _ (fun x=>by simp[PV.under]) l
omit T in
def BS(m v:Nat)(r:RS):aG m (rdO v r)=Jo:=by simp only[aG,aD,PV.under,IM,Dp]
set_option maxHeartbeats 1000000 in
def xL{A G:Mem}{K:Kp}{n v:Nat}{r:RS}(R:n<=2147483647)(hr:OkR r)(hA:A.all (aG (A.length+(G.length+1)))=Jo)(S:G.all (aG (A.length+(G.length+1)))=Jo)
    (U:∀y,K (slI Jp Jo .i64 (RS.list n r).1) (A++(rdO y (RS.list n r).2::G))):aj tab 117 [.ptr A.length 0 0,p64 (n:Int)] (A++(rdO v r::G)) K:=by
  refine mR (cA T.h117 ?_);simp only[af117];refine aA (aB ?_);simp only[PP,simprocAttr,Ab];refine aU (GStep.ew (A.length+(G.length+1+1)) 0 1 (g:=0) (ver:=0) (cs:=[.ah]) (by rw[gk];simp only[PP,simprocAttr];rw[gk];rfl) rfl rfl) ?_;refine aB ?_;simp only[PP,simprocAttr,Ab,gk,gk0,sk];refine rC T (f:=fun u r=>(u++[((RS.next r).1:Int)],(RS.next r).2)) (s:=([]:List Int)) (r:=r) (fun k u E=>∃B g ver,E=G++[.cells 0 0 [.ptr A.length 0 0],.cells 0 B [.ref (A.length+(G.length+1+1+1)) g 1 0 k],.cells g ver (u.map p64)]/\u.length=k) R ?_ (fun s r h=>h.next.1) ⟨0,0,0,by simp only[PP,simprocAttr],rfl⟩ hr ?_
  · rintro k u r v E I ⟨B,g,ver,rfl,hl⟩ hr _ Y J;have L:(k+1)*8<=140737488355328:=by omega
    have O:k+1<=9223372036854775807:=by omega
    refine aT T.h170 ?_;simp only[af170,PP,simprocAttr,gk,gk0];refine gV T hr fun y=>?_;have Q:=J y (G++[.cells 0 0 [.ptr A.length 0 0],.cells 0 (B+1) [.ref (A.length+(G.length+1+1+1)) (g+1) 1 0 (k+1)],.cells (g+1) 0 ((u++[((RS.next r).1:Int)]).map p64)]) ⟨B+1,g+1,0,rfl,by simp[hl]⟩;by_cases hv:v=y
    · simp only[PP,simprocAttr,gk,sk,dA,hv,hl,L,O];rw[aK _ _ (by simp[hl])];simpa only[Ay,Ak,Bq]using Q
    · simp only[PP,simprocAttr,gk,gk0,sk,dA,hv,hl,L,O];refine⟨by simp,?_⟩;rw[aK _ _ (by simp[hl])];simpa only[Ay,Ak,Bq]using Q
  · rintro k y E I ⟨B,g,ver,rfl,hl⟩ V;simp only[PP,simprocAttr,gk,sk];have ht:∀(o:cm) (X:Mem),List.take (A.length+(G.length+1)) (A++o::(G++X))=A++o::G:=fun o X=>by rw[show A++o::(G++X)=(A++o::G)++X by simp,Bb (by simp)]
    refine⟨slI Jp Jo .i64 (RS.list n r).1,A++(rdO y (RS.list n r).2::G),?_,?_,U y⟩
    · simp only[fP,cP];subst hl;rw[eT (ver:=ver) (by omega) (by rw[gk];simp only[PP,simprocAttr];rw[gk];rfl) (by simp) (aO _ _ _),aK _ _ (by simp)];rfl
    · rw[ht];refine g8 ?_;rw[Cc,hA,Co,BS,S];rfl
end
end Go.Am.Ar
--P14
namespace Go.Am.Ar
open Go.Am.PV renaming aa->Zj
open Go.Am renaming jj->P1,mj->P2,ls->P3,fe->P4,cm.under->P5,ig->P6,du->P7,ct->P8,pev->P9,ji->P10,bd->P11,ll->P12,dv->P13,cK->P14,AO.effect->P15
open List renaming replicate->L1
def bP{c:Prop} [Decidable c](a:Nat)(p:Nat->Bool):(if c then []else [a]).all p=(decide c||p a):=by by_cases h:c<;>simp[h]
section
variable {tab:Tb} (T:HasA tab){M:Mem}{K:Kp}
include T
set_option maxHeartbeats 4000000 in
def aGS{A G Z:Mem}{K:Kp}{v E g ver k:Nat}{r:RS}{I J L O:PV}{u:List Eg}(hr:OkR r)(hl:u.length=k)(Q:k<2147483647)
    (R:∀y o,K (.tuple []) (A++(rdO y (eM r).2::(G++(.cells 0 0 [.ptr A.length 0 0]:: .cells 0 (E+1) [I,J,L,O,.ref (A.length+(G.length+1+1+1)) (g+1) 4 0 (k+1)]:: .cells (g+1) 0 (egL (u++[(eM r).1]))::(Z++[o])))))):
    aj tab 119 [.ptr (A.length+(G.length+1)) 0 0,.ptr (A.length+(G.length+1+1)) 0 0] (A++(rdO v r::(G++(.cells 0 0 [.ptr A.length 0 0]:: .cells 0 E [I,J,L,O,.ref (A.length+(G.length+1+1+1)) g 4 0 k]:: .cells g ver (egL u)::Z)))) K:=by
  have hb:∀k,(A.length==A.length+(k+1))=Jp:=fun k=>by simp
  have S:(k+1)*24<=140737488355328:=by omega
  have U:k+1<=9223372036854775807:=by omega
  have V:k*4<=(egL u).length:=by rw[gA];omega
  have he:aY (egL u) 0 (k*4)=egL u:=nE hl;refine aT T.h119 ?_;simp only[af119,PP,simprocAttr,gk,gk0];refine gV T hr fun y=>?_;simp only[PP,simprocAttr,gk,gk0,dA,bP,hb];refine gV T hr.next.1 fun y=>?_;simp only[PP,simprocAttr,Ab,gk,gk0,sk,sk0,dA,bP];have B:=hr.next.1.next.1;refine sI (lim:=255) T B (by omega) fun y=>?_;simp only[PP,simprocAttr,gk,gk0,sk,sk0];refine sI (lim:=255) T (B.small 255) (by omega) fun y=>?_;simp only[PP,P14,simprocAttr,gk,gk0,sk,sk0,S,U,V,he];have:=R y (.cells 0 3 (egC (eM r).1));rw[<-TQ]at this;exact this
set_option maxHeartbeats 4000000 in
def aGC{A G:Mem}{K:Kp}{v:Nat}{r:RS}(hr:OkR r)(hA:A.all (aG (A.length+(G.length+1)))=Jo)(hG:G.all (aG (A.length+(G.length+1)))=Jo)
    (hk:∀u vn,K (.func (.func 121) [] [.ptr (A.length+(G.length+1+1)) 0 0]) (A++(rdO u r.nfa.2::(G++[.cells 0 0 [.ptr A.length 0 0],.cells 0 vn (nfC Jp Jo Jp Jo Jp Jo r.nfa.1),.gone])))):aj tab 71 [.ptr A.length 0 0] (A++(rdO v r::G)) K:=by
  have hb:∀k,(A.length==A.length+(k+1))=Jp:=fun k=>by simp
  refine dI (cA T.h71 ?_);simp only[af71];refine aA (aB ?_);simp only[PP,simprocAttr,Ab];refine aA (aB ?_);simp only[PP,simprocAttr,gk,gk0];refine SO T hr fun u=>?_;simp only[PP,simprocAttr,gk,gk0,dA,bP,hb];refine gV T hr.vars fun u=>?_;simp only[PP,simprocAttr,Ab,gk,sk,dA,bP];obtain⟨J,a3⟩:=hr.vars.next;obtain⟨B,R⟩:=J.next;have a4:∀(n v:Nat) (a b:Int) (x y:PV),aG n (.cells 0 0 [.ptr A.length 0 0])=decide (A.length<n):=fun n v a b x y=>by simp[aG,aD,PV.under]
  have L:A.all (aG (A.length+(G.length+1+1+1)))=Jo:=bE (by omega) hA;have O:∀(o:cm),aG (A.length+(G.length+1+1+1)) o=Jo->(G++[.cells 0 0 [.ptr A.length 0 0],o]).all (aG (A.length+(G.length+1+1+1)))=Jo:=fun o ho=>by
    rw[Cc,bE (by omega) hG];simp[ho];simp[aG,aD,PV.under]
  refine aA (aB ?_);simp only[PP,simprocAttr,gk,gk0];refine gV T J fun u=>?_;simp only[PP,simprocAttr,gk0,dA,bP,hb];refine xL T R B (by simpa using L) (by simpa using O _ (by simp[aG,aD,PV.under])) fun u=>?_;simp only[PP,simprocAttr,gk,sk,dA];obtain⟨E,S⟩:=(B.list (RS.next (RS.next r.vars.2).2).1).next;refine aA (aB ?_);simp only[PP,simprocAttr,gk,gk0];refine gV T (B.list _) fun u=>?_;simp only[PP,simprocAttr,gk0,dA,bP,hb];refine xL T S E (by simpa using L) (by simpa using O _ (by simp[aG,aD,PV.under,aO])) fun u=>?_;simp only[PP,simprocAttr,gk,sk,dA];obtain⟨U,V⟩:=(E.list (RS.next (RS.list (RS.next (RS.next r.vars.2).2).1 (RS.next (RS.next r.vars.2).2).2).2).1).next;refine aU (GStep.ew (A.length+(G.length+1+1)) 4 4 (by rw[gk];simp only[PP,simprocAttr];rw[gk];rfl) rfl (by simp only[PP,simprocAttr,Ab,sk];rfl)) ?_;refine aA (aB ?_);simp only[PP,simprocAttr,gk,gk0];refine gV T (E.list _) fun u=>?_;simp only[PP,simprocAttr,gk0,dA,bP,hb];refine rC T (f:=fun Y r=>(Y++[(eM r).1],(eM r).2)) (s:=([]:List Eg)) (fun k es G'=>∃I g ver Z,G'=G++(.cells 0 0 [.ptr A.length 0 0]:: .cells 0 I [p64 r.nfa.1.vs,p64 r.nfa.1.n,slI Jp Jo .i64 r.nfa.1.st,slI Jp Jo .i64 r.nfa.1.fi,.ref (A.length+(G.length+1+1+1)) g 4 0 k]:: .cells g ver (egL es)::Z)/\es.length=k) V ?_ (fun s r h=>((h.next.1.next.1).small 255).small 255) ⟨3,0,0,[],by simp only[simprocAttr,TP];rfl,rfl⟩ U ?_
  · rintro k es r' v G' a0 ⟨I,g,ver,Z,rfl,hl⟩ Q _ K' a1;refine aGS T Q hl (by omega) fun u o=>?_;exact a1 u _ ⟨I+1,g+1,0,Z++[o],rfl,by simp[hl]⟩
  · rintro k u G' a0 ⟨I,g,ver,Z,rfl,hl⟩ Q;simp only[PP,simprocAttr];refine aB ?_;simp only[PP,simprocAttr];have a2:r.nfa.1.es.length=k:=hl;refine Gh.step (GStep.fw (b:=[.func (.func 121) [] [.ptr (A.length+(G.length+1+1)) 0 0]]) (cj2:=nfC Jp Jo Jp Jo Jp Jo r.nfa.1) (A.length+(G.length+1+1+1)) (A.length+(G.length+1+1)) (by omega) (by rw[gk];simp only[PP,simprocAttr];rw[gk];rfl) (by rw[gk];simp only[PP,simprocAttr];rw[gk];rfl) (by omega) (by simp only[bI,cG]) ?_ rfl) ?_
    · simp only[nfC,bI];rw[f0 (by rw[gA,<-hl];omega) (by rw[nE hl,<-a2];rfl),cG];trivial
    simp only[PP,simprocAttr,sk];have ht:∀(o a b c:cm) (Z:Mem),A++o::(G++a::b::c::Z)=(A++o::(G++[a,b,c]))++Z:=fun o a b c Z=>by simp
    rw[ht];refine Gh.step (GStep.im (b:=[.func (.func 121) [] [.ptr (A.length+(G.length+1+1)) 0 0]]) (N:=A++(rdO u r.nfa.2::(G++[.cells 0 0 [.ptr A.length 0 0],.cells 0 I (nfC Jp Jo Jp Jo Jp Jo r.nfa.1),.gone]))) (A.length+(G.length+1+1+1+1)) (by omega) (by simp;omega) (by simp only[PW]) (by simp[aD,PV.under]) ?_ (Bb (by simp))) (Gh.same ⟨_,rfl,hk u I⟩);rw[Bb (by simp),Cc,bE (by omega) hA,Co,BS,Cc,bE (by omega) hG];simp[aG,aD,PV.under,aO,cF]
set_option maxHeartbeats 4000000 in
def aEZ{A G:Mem}{K:Kp}{v E g ver k:Nat}{r:RS}{y:PV}{u:Nat}{nx:List (List Int)}(hr:OkR r)(hl:nx.length=k)(I:k<2147483647)(hA:A.all (aG (A.length+(G.length+1)))=Jo)(J:G.all (aG (A.length+(G.length+1)))=Jo)(L:∀m,y.under m=Jo)
    (O:∀B,K (.tuple []) (A++(rdO B (RS.list (2^(min u 6)) r).2::(G++[.cells 0 0 [.ptr A.length 0 0],.cells 0 (E+1) [p64 (u:Int),y,.ref (A.length+(G.length+1+1+1)) (g+1) 1 0 (k+1),.ah],.cells (g+1) 0 ((nx++[(RS.list (2^(min u 6)) r).1]).map (slI Jp Jo .i64))])))):
    aj tab 122 [.ptr (A.length+(G.length+1+1)) 0 0,.ptr (A.length+(G.length+1)) 0 0] (A++(rdO v r::(G++[.cells 0 0 [.ptr A.length 0 0],.cells 0 E [p64 (u:Int),y,.ref (A.length+(G.length+1+1+1)) g 1 0 k,.ah],.cells g ver (nx.map (slI Jp Jo .i64))]))) K:=by
  have hb:∀k,(A.length==A.length+(k+1))=Jp:=fun k=>by simp
  have Q:(k+1)*24<=140737488355328:=by omega
  have R:k+1<=9223372036854775807:=by omega
  have hm:min (u:Int) 6=((min u 6:Nat):Int):=by omega
  have hs:cD .shl (.int .i64 1) (.int .i64 ((min u 6:Nat):Int))=Jm (.int .i64 ((2^(min u 6):Nat):Int)):=by rw[xI (by omega) (by omega)];simp
  have S:2^(min u 6)<=2^6:=Ji (by omega) (by omega);refine aT T.h122 ?_;simp only[af122,PP,simprocAttr,gk,gk0,EH,hm,hs];refine xL T (by omega) hr ?_ ?_ fun B=>?_
  · exact bE (by simp) hA
  · rw[Cc,bE (by simp) J];simp[aG,aD,PV.under,aW,L]
  simp only[PP,simprocAttr,gk,gk0,sk,dA,bP,hb,Q,R,hl];have:=O B;rw[aK _ _ (by simp[hl])];simp only[Ay,Ak,Bq]at this;exact this
set_option maxHeartbeats 4000000 in
def aEY{A G:Mem}{K:Kp}{v I g ver k J u L:Nat}{r:RS}{O Q:PV}{R:List PV}{y:List Bool}(hr:OkR r)(hl:y.length=k)(S:k<2147483647)
    (U:∀B,K (.tuple []) (A++(rdO B (r.small 1).2::(G++[.cells 0 0 [.ptr A.length 0 0],.cells 0 (I+1) [O,Q,.ref (A.length+(G.length+1+1+1)) u 1 0 J,.ref (A.length+(G.length+1+1+1+1)) (g+1) 1 0 (k+1)],.cells u L R,.cells (g+1) 0 ((y++[decide ((r.small 1).1=1)]).map .bool)])))):
    aj tab 123 [.ptr (A.length+(G.length+1+1)) 0 0,.ptr (A.length+(G.length+1)) 0 0] (A++(rdO v r::(G++[.cells 0 0 [.ptr A.length 0 0],.cells 0 I [O,Q,.ref (A.length+(G.length+1+1+1)) u 1 0 J,.ref (A.length+(G.length+1+1+1+1)) g 1 0 k],.cells u L R,.cells g ver (y.map .bool)]))) K:=by
  have hb:∀k,(A.length==A.length+(k+1))=Jp:=fun k=>by simp
  have V:(k+1)*1<=140737488355328:=by omega
  have E:k+1<=140737488355328:=by omega
  have Y:k+1<=9223372036854775807:=by omega
  have hd:decide (((r.small 1).1:Int)=1)=decide ((r.small 1).1=1):=by rw[decide_eq_decide];omega
  refine aT T.h123 ?_;simp only[af123,PP,simprocAttr,gk,gk0];refine sI (lim:=1) T hr (by omega) fun B=>?_;simp only[PP,simprocAttr,gk,gk0,sk,dA,bP,hb,E,Y,hl,hd];have:=U B;rw[aK _ _ (by simp[hl])];simp only[Ay,Ak,Bq]at this;exact this
set_option maxHeartbeats 4000000 in
def aGJ{A G:Mem}{K:Kp}{v:Nat}{r:RS}(hr:OkR r)(hA:A.all (aG (A.length+(G.length+1)))=Jo)(hG:G.all (aG (A.length+(G.length+1)))=Jo)
    (hk:∀y vn,K (.func (.func 124) [] [.ptr (A.length+(G.length+1+1)) 0 0]) (A++(rdO y r.dfa.2::(G++[.cells 0 0 [.ptr A.length 0 0],.cells 0 vn (dfC Jp Jo Jp Jo Jp Jo r.dfa.1),.gone,.gone])))):aj tab 72 [.ptr A.length 0 0] (A++(rdO v r::G)) K:=by
  have hb:∀k,(A.length==A.length+(k+1))=Jp:=fun k=>by simp
  refine dI (cA T.h72 ?_);simp only[af72];refine aA (aB ?_);simp only[PP,simprocAttr,Ab];refine aA (aB ?_);simp only[PP,simprocAttr,gk,gk0];refine SO T hr fun y=>?_;simp only[PP,simprocAttr,gk,gk0,dA,bP,hb];refine gV T hr.vars fun y=>?_;simp only[PP,simprocAttr,Ab,gk,sk,dA,bP];obtain⟨S,a4⟩:=hr.vars.next;obtain⟨Z,U⟩:=S.next;refine aA (aB ?_);simp only[PP,simprocAttr,gk,gk0];refine gV T S fun y=>?_;simp only[PP,simprocAttr];refine aU (GStep.ew (A.length+(G.length+1+1)) 2 1 (by rw[gk];simp only[PP,simprocAttr];rw[gk];rfl) rfl (by simp only[PP,simprocAttr,Ab,sk];rfl)) ?_;refine aA (aB ?_);simp only[PP,simprocAttr,gk,gk0];refine rC T (f:=fun I Y=>(I++[(RS.list (2^(min r.vars.1 6)) Y).1],(RS.list (2^(min r.vars.1 6)) Y).2)) (s:=([]:List (List Int))) (fun k nx J=>∃B g ver,J=G++[.cells 0 0 [.ptr A.length 0 0],.cells 0 B [p64 (r.vars.1:Int),p64 ((RS.next r.vars.2).1:Int),.ref (A.length+(G.length+1+1+1)) g 1 0 k,.ah],.cells g ver (nx.map (slI Jp Jo .i64))]/\nx.length=k) U ?_ (fun s r h=>h.list _) ⟨1,0,0,by simp only[PP,simprocAttr],rfl⟩ Z ?_
  · rintro k nx Y v J V ⟨B,g,ver,rfl,hl⟩ L _ K' O;refine aEZ T L hl (by omega) hA hG (fun m=>by simp[PV.under]) fun y=>?_;exact O y _ ⟨B+1,g+1,0,rfl,by simp[hl]⟩
  · rintro k y J V ⟨B,g,ver,rfl,hl⟩ a0;simp only[PP,simprocAttr];refine aU (GStep.ew (A.length+(G.length+1+1)) 3 1 (by rw[gk];simp only[PP,simprocAttr];rw[gk];rfl) rfl (by simp only[PP,simprocAttr,Ab,sk];rfl)) ?_;refine aA (aB ?_);simp only[PP,simprocAttr,gk,gk0];refine rC T (f:=fun I r=>(I++[decide ((RS.small 1 r).1=1)],(RS.small 1 r).2)) (s:=([]:List Bool)) (fun k2 fi J=>∃B Q E,J=G++[.cells 0 0 [.ptr A.length 0 0],.cells 0 B [p64 (r.vars.1:Int),p64 ((RS.next r.vars.2).1:Int),.ref (A.length+(G.length+1+1+1)) g 1 0 k,.ref (A.length+(G.length+1+1+1+1)) Q 1 0 k2],.cells g ver (r.dfa.1.nx.map (slI Jp Jo .i64)),.cells Q E (fi.map .bool)]/\fi.length=k2) U ?_ (fun s r h=>h.small 1) ⟨B,0,0,by simp only[PP,simprocAttr];rfl,rfl⟩ a0 ?_
    · rintro k2 fi Y v J V ⟨B,Q,E,rfl,u⟩ L _ K' O;refine aEY T L u (by omega) fun y=>?_;exact O y _ ⟨B+1,Q+1,0,rfl,by simp[u]⟩
    · rintro k2 y J a3 ⟨B,Q,E,rfl,u⟩ a5;simp only[PP,simprocAttr];have R:r.dfa.1.nx.length=k:=hl;have a1:r.dfa.1.fi.length=k2:=u;refine aB ?_;simp only[PP,simprocAttr];refine Gh.step (GStep.fw (b:=[.func (.func 124) [] [.ptr (A.length+(G.length+1+1)) 0 0]]) (cj2:=[p64 r.dfa.1.vs,p64 r.dfa.1.st,slR Jp Jo Jp Jo .i64 r.dfa.1.nx,.ref (A.length+(G.length+1+1+1+1)) Q 1 0 k2]) (A.length+(G.length+1+1+1)) (A.length+(G.length+1+1)) (by omega) (by rw[gk];simp only[PP,simprocAttr];rw[gk];rfl) (by rw[gk];simp only[PP,simprocAttr];rw[gk];rfl) (by omega) (by simp only[bI,cG]) ?_ rfl) ?_
      · show jx _ _ _ [p64 r.dfa.1.vs,p64 r.dfa.1.st,.ref (A.length+(G.length+1+1+1)) g 1 0 k,.ref (A.length+(G.length+1+1+1+1)) Q 1 0 k2] _;simp only[bI];rw[f0 (by simp[R]) (by rw[aK _ _ (by simp[R])];simp only[slR,R]),bI,cG];trivial
      simp only[PP,simprocAttr,sk];refine Gh.step (GStep.fw (b:=[.func (.func 124) [] [.ptr (A.length+(G.length+1+1)) 0 0]]) (cj2:=dfC Jp Jo Jp Jo Jp Jo r.dfa.1) (A.length+(G.length+1+1+1+1)) (A.length+(G.length+1+1)) (by omega) (by rw[gk];simp only[PP,simprocAttr];rw[gk];rfl) (by rw[gk];simp only[PP,simprocAttr];rw[gk];rfl) (by omega) (by simp only[bI,cG]) ?_ rfl) ?_
      · simp only[dfC,bI];rw[f0 (by simp[u]) (by rw[aK _ _ (by simp[u]),<-a1];rfl),cG];trivial
      simp only[PP,simprocAttr,sk];exact Gh.same ⟨_,rfl,hk y B⟩
end
end Go.Am.Ar

