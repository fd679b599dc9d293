/- Plain law: progress measures as numbers, and the least one, and what goes with it. -/
import Derived.Test.YtapbgleednkimaaGreatDoorBudgetMatchesG0
set_option linter.all false
set_option maxRecDepth 10000
set_option maxHeartbeats 40000000
open Nat renaming succ_pos->Jc,mul_le_mul_left->Jd,mul_add->Hg,mod_eq_of_lt->Fy,mul_assoc->Hi,zero_add->Bg,le_refl->Ab,le_of_lt->Je,min_le_left->Gd,mul_le_mul_right->Dt,add_mul->Dg,mul_comm->Cz,le_total->Jf,min_eq_left->Dk,min_eq_right->Jg,le_trans->As,zero_le->Au,add_comm->Dh,sub_self->Dr,add_zero->Dz,zero_mul->Ei,reduceAdd->Ax,mul_le_mul->Gn,min_comm->Jj,pow_le_pow_right->Ho,add_assoc->Cn
open List renaming replicate->Ae,drop_eq_getElem_cons->Ee,mem_cons_of_mem->Cy,mem_singleton->Ch,map_set->Jh,drop_of_length_le->Gm,flatMap_cons->Cc,length_append->Al,length_cons->Ak,all_append->Cl,take_append_drop->Cu,append_assoc->Ac,drop_left->Gj,take_left'->Bj,getElem?_append_right->Bv,getElem?_eq_getElem->Ad,replicate_succ->Fm,map_cons->Ah,getElem?_of_mem->Dl,count_le_length->Hj,set_append_right->Dn,set_cons_zero->Dc,mem_of_getElem?->Af,take_of_length_le->Bo,drop_zero->Fl,eq_of_mem_replicate->Ji,getD->Bc,getElem?_append_left->Bm,all_cons->Cv,all_nil->Fv,all_eq_true->Cb,mem_or_eq_of_mem_set->Hk,cons_append->Ai,getElem?_cons_succ->Bl,getElem?_cons_zero->Cg,getElem?_set_self->Ck,getElem?_set_ne->Bt,ext_getElem?->Em,getElem?_eq_none->Bu,range->Ba,nil_append->Aj,getElem?_map->Ap,getElem?_range->Eb,length_take->Ay,map_append->Bh,map_nil->Av,length_map->Ag,append_nil->Ao,take_length->Ct,mem_cons->Cr,not_mem_nil->En,length_nil->An,map_map->Cs,map_congr_left->Cq,take->Er,map_take->Ix,take_take->Gx,drop_left'->Hf,flatMap_append->Gp,flatMap_nil->Fw,flatMap->Jk,mem_append->Cf,mem_flatMap->Ey,mem_flatten->Jl,flatten_append->Jm,flatten_cons->Fi,append_cancel_left->Hp
open Bool renaming and_self->Bz,and_eq_true->Aw,false_eq_true->Aq,eq_iff_iff->Fg,true->Jr,false->Js
open And renaming intro->Aa
open Int renaming toNat_natCast->Bq,tmod_eq_emod_of_nonneg->Ft,tdiv_eq_ediv_of_nonneg->Fp,toNat->Db,le_refl->Dw,tmod_lt_of_pos->Ep,neg_tmod->Hm,toNat_of_nonneg->Cx
open Classical renaming byContradiction->Cd
open Option renaming getD_some->Di,map_some->Dd,some->Jp,none->Jq
open Function renaming comp_def->Gg
namespace Go.Am.Ar
open Go.Am.PV renaming aa->Zj
def mT:List Nat->Nat
  | []=>1
  | n::u=>(n+1)*mT u
def mr:List Nat->List Int->Nat
  | n::u,c::cs=>c.toNat+(n+1)*mr u cs
  | _,_=>0
def mOk:List Nat->List Int->Prop
  | n::u,c::cs=>0<=c/\c<=n/\mOk u cs
  | [],[]=>True
  | _,_=>False
def aB1:∀u:List Nat,0<mT u
  | []=>by decide
  | n::u=>Nat.mul_pos (Jc _) (aB1 u)
def VA:∀{u:List Nat} {cs:List Int},mOk u cs->cs.length=u.length
  | [],[],_=>rfl
  | n::u,c::cs,h=>by simp[VA h.2.2]
  | [],_::_,h=>h.elim
  | _::_,[],h=>h.elim
def GM:∀{u:List Nat} {cs:List Int},mOk u cs->mr u cs<mT u
  | [],[],_=>by decide
  | n::u,c::cs,⟨h0,h1,h2⟩=>by have:=GM h2;have h3:(n+1)*(mr u cs+1)<=(n+1)*mT u:=Jd _ this;rw[Hg]at h3;show c.toNat+(n+1)*mr u cs<(n+1)*mT u;omega
  | [],_::_,h=>h.elim
  | _::_,[],h=>h.elim
def aBU:∀{u:List Nat} {cs ds:List Int},mOk u cs->mOk u ds->mr u cs=mr u ds->cs=ds
  | [],[],[],_,_,_=>rfl
  | n::u,c::cs,d::ds,⟨h0,h1,h2⟩,⟨I,J,B⟩,e=>by
    have e:c.toNat+(n+1)*mr u cs=d.toNat+(n+1)*mr u ds:=e;have y:=congrArg (· % (n+1)) e;simp only[Nat.add_mul_mod_self_left]at y;rw[Fy (by omega),Fy (by omega)]at y;have E:(n+1)*mr u cs=(n+1)*mr u ds:=by omega
    have G:=Nat.eq_of_mul_eq_mul_left (Jc n) E;rw[aBU h2 B G,show c=d by omega]
  | [],_::_,_,h,_,_=>h.elim
  | _::_,[],_,h,_,_=>h.elim
  | [],[],_::_,_,h,_=>h.elim
  | _::_,_::_,[],_,h,_=>h.elim
def aB3:∀{y:List Nat} {cs:List Int},cs.length=y.length->(∀(u:Nat) (c:Int) (n:Nat),cs[u]? =Jp c->y[u]? =Jp n->0<=c/\c<=n)->mOk y cs
  | [],[],_,_=>trivial
  | n::y,c::cs,hl,h=>⟨(h 0 c n rfl rfl).1,(h 0 c n rfl rfl).2,aB3 (by simpa using hl) fun u c n h1 h2=>h (u+1) c n (by simpa using h1) (by simpa using h2)⟩
  | [],_::_,h,_=>by simp at h
  | _::_,[],h,_=>by simp at h
def VB:∀{E:List Nat} {cs:List Int},mOk E cs->∀{u:Nat} {c:Int} {n:Nat},cs[u]? =Jp c->E[u]? =Jp n->0<=c/\c<=n
  | n::E,c::cs,⟨h0,h1,h2⟩,0,x,y,B,G=>by simp at B G;subst B;subst G;exact⟨h0,h1⟩
  | n::E,c::cs,⟨h0,h1,h2⟩,u+1,x,y,B,G=>VB h2 (by simpa using B) (by simpa using G)
  | [],[],_,_,_,_,B,_=>by simp at B
  | [],_::_,h,_,_,_,_,_=>h.elim
  | _::_,[],h,_,_,_,_,_=>h.elim
def mB(u:List Nat)(q:Nat):Nat:=mT (u.take q)
def aB4(u:List Nat)(q:Nat):0<mB u q:=aB1 _
def sM:∀(u:List Nat) (q:Nat),mT u=mB u q*mT (u.drop q)
  | u,0=>by simp[mB,mT]
  | [],q+1=>by simp[mB,mT]
  | n::u,q+1=>by have h:=sM u q;show(n+1)*mT u=(n+1)*mT (u.take q)*mT (u.drop q);rw[h,Hi];rfl
def aE8{u:List Nat}{q n:Nat}(h:u[q]? =Jp n):mB u (q+1)=mB u q*(n+1):=by
  induction u generalizing q with
  | nil=>simp at h
  | cons a u y=>
    cases q with
    | zero=>simp at h;subst h;simp[mB,mT]
    | succ q=>have:=y (q:=q) (by simpa using h);show(a+1)*mB u (q+1)=(a+1)*mB u q*(n+1);rw[this,Hi]
def sN:∀{u:List Nat} {cs:List Int} (q:Nat),mOk u cs->mOk (u.drop q) (cs.drop q)
  | u,cs,0,h=>by simpa using h
  | [],[],q+1,h=>by simpa using h
  | n::u,c::cs,q+1,h=>by simpa using sN q h.2.2
  | [],_::_,_+1,h=>h.elim
  | _::_,[],_+1,h=>h.elim
def I8:∀{u:List Nat} {cs:List Int} (q:Nat),mOk u cs->mr u cs / mB u q=mr (u.drop q) (cs.drop q)
  | u,cs,0,h=>by simp[mB,mT]
  | [],[],q+1,h=>by simp[mB,mT,mr]
  | n::u,c::cs,q+1,⟨h0,h1,h2⟩=>by show(c.toNat+(n+1)*mr u cs) / ((n+1)*mB u q)=mr (u.drop q) (cs.drop q);rw[<-Nat.div_div_eq_div_mul,Nat.add_mul_div_left _ _ (Jc n),Nat.div_eq_of_lt (show c.toNat<n.succ by show c.toNat<n+1;omega),Bg,I8 q h2]
  | [],_::_,_+1,h=>h.elim
  | _::_,[],_+1,h=>h.elim
def C4:∀(q:Nat) {u:List Nat} {ds:List Int},ds.length+q=u.length->mr u (Ae q 0++ds)=mB u q*mr (u.drop q) ds
  | 0,u,ds,h=>by simp[mB,mT]
  | q+1,[],ds,h=>by simp at h
  | q+1,n::u,ds,h=>by show(0:Int).toNat+(n+1)*mr u (Ae q 0++ds)=(n+1)*mB u q*mr (u.drop q) ds;rw[C4 q (by simp at h;omega),Hi];simp
def yG:∀(q:Nat) {u:List Nat} {ds:List Int},q<=u.length->mOk (u.drop q) ds->mOk u (Ae q 0++ds)
  | 0,u,ds,_,h=>by simpa using h
  | q+1,[],ds,h,_=>by simp at h
  | q+1,n::u,ds,h,h2=>⟨by decide,by omega,yG q (by simpa using h) (by simpa using h2)⟩
structure Ms where
  top:Bool
  c:List Int
  h:c.length=8
def Ms.Ok(ns:List Nat)(x:Ms):Prop:=mOk ns x.c/\(x.top=Jr->x.c=Ae 8 0)
def Ms.num(u:List Nat)(x:Ms):Nat:=if x.top=Jr then mT u else mr u x.c
def mz:Ms:=⟨Js,Ae 8 0,by simp⟩
def qn:Ms:=⟨Jr,Ae 8 0,by simp⟩
def Ms.ext'{x y:Ms}(h1:x.top=y.top)(h2:x.c=y.c):x=y:=by cases x;cases y;cases h1;cases h2;rfl
def JC:∀(u:List Nat),mOk u (Ae u.length 0)
  | []=>trivial
  | n::u=>⟨by decide,by omega,JC u⟩
def aBT:∀(u:List Nat) (k:Nat),mr u (Ae k 0)=0
  | [],k=>by simp[mr]
  | n::u,0=>by simp[mr]
  | n::u,k+1=>by show(0:Int).toNat+(n+1)*mr u (Ae k 0)=0;rw[aBT u k];simp
section
variable {ns:List Nat}
def Ms.qu{x:Ms}(h:x.Ok ns):x.num ns<=mT ns:=by
  unfold Ms.num;split
  · exact Ab _
  · exact Je (GM h.1)
def Ms.ma{x:Ms}(h:x.Ok ns):x.num ns=mT ns↔x.top=Jr:=by
  unfold Ms.num;split
  · rename_i e;simp[e]
  · rename_i e;have:=GM h.1;simp[e];omega
def Ms.inj{x y:Ms}(E:x.Ok ns)(G:y.Ok ns)(e:x.num ns=y.num ns):x=y:=by
  have h1:=Ms.ma E;have h2:=Ms.ma G;rw[e]at h1;have h3:x.top=Jr↔y.top=Jr:=h1.symm.trans h2
  cases u:x.top with
  | true=>have B:=h3.1 u;exact Ms.ext' (by rw[u,B]) (by rw[E.2 u,G.2 B])
  | false=>
    have B:y.top=Js:=by
      cases q:y.top with
      | true=>rw[h3.2 q]at u;cases u
      | false=>rfl
    refine Ms.ext' (by rw[u,B]) (aBU E.1 G.1 ?_);simpa [Ms.num,u,B]using e
def aIN(h:ns.length=8):mz.Ok ns:=⟨by show mOk ns (Ae 8 0);rw[<-h];exact JC ns,fun h=>by cases h⟩
def I7(h:ns.length=8):qn.Ok ns:=⟨by show mOk ns (Ae 8 0);rw[<-h];exact JC ns,fun _=>rfl⟩
def aBO:mz.num ns=0:=by show(if Js=Jr then _ else mr ns (Ae 8 0))=0;rw[if_neg (by decide),aBT]
def M6:qn.num ns=mT ns:=if_pos rfl
end
def oO(a b:Int):Int:=if a<b then-1 else if b<a then 1 else 0
def oK:List Int->List Int->Int
  | c::cs,d::ds=>if oK cs ds=0 then oO c d else oK cs ds
  | _,_=>0
def AW(x y:Ms):Int:=if x.top=Jr then(if y.top=Jr then 0 else 1)else if y.top=Jr then-1 else oK x.c y.c
def rF{a b:Int}(h:a<b):oO a b= -1:=if_pos h
def rG{a b:Int}(h:b<a):oO a b=1:=by unfold oO;rw[if_neg (by omega),if_pos h]
def yQ(a:Int):oO a a=0:=by simp[oO]
def tR{a b:Int} :oO a b=0↔a=b:=by
  unfold oO;split
  · constructor<;>intro h<;>omega
  · split<;>constructor<;>intro h<;>omega
def tS:∀{cs ds:List Int} (k:Nat),oK (cs.drop k) (ds.drop k)≠0->oK cs ds=oK (cs.drop k) (ds.drop k)
  | cs,ds,0,_=>by simp
  | [],ds,k+1,h=>by simp[oK]at h
  | _::_,[],k+1,h=>by simp[oK]at h
  | c::cs,d::ds,k+1,h=>by have h:oK (cs.drop k) (ds.drop k)≠0:=h;have:=tS k h;show(if oK cs ds=0 then oO c d else oK cs ds)=oK (cs.drop k) (ds.drop k);rw[if_neg (by rw[this];exact h),this]
def VX{cs ds:List Int}{k:Nat}{c d:Int}(u:cs[k]? =Jp c)(hd:ds[k]? =Jp d)(h:oK (cs.drop (k+1)) (ds.drop (k+1))=0):oK (cs.drop k) (ds.drop k)=oO c d:=by obtain⟨h1,y⟩:=List.getElem?_eq_some_iff.1 u;obtain⟨h2,B⟩:=List.getElem?_eq_some_iff.1 hd;rw[Ee h1,Ee h2];show(if oK _ _=0 then _ else _)=_;rw[if_pos h,y,B]
def aCJ:∀{u:List Nat} {cs ds:List Int},mOk u cs->mOk u ds->oK cs ds=oO (mr u cs) (mr u ds)
  | [],[],[],_,_=>by simp[oK,oO,mr]
  | n::u,c::cs,d::ds,⟨h0,h1,h2⟩,⟨E,G,y⟩=>by
    have B:=aCJ h2 y;show(if oK cs ds=0 then oO c d else oK cs ds)=oO ((c.toNat+(n+1)*mr u cs:Nat):Int) ((d.toNat+(n+1)*mr u ds:Nat):Int);rw[B];split
    · rename_i e;rw[tR]at e;have e:mr u cs=mr u ds:=by omega
      rw[e];rcases Int.lt_trichotomy c d with q | q | q
      · rw[rF q,rF (by omega)]
      · rw[q,yQ,yQ]
      · rw[rG q,rG (by omega)]
    · rename_i e;rw[tR]at e;by_cases I:mr u cs<mr u ds
      · have:=Jd (n+1) (show mr u cs+1<=mr u ds by omega);rw[Hg]at this;rw[rF (by omega),rF (by omega)]
      · have:=Jd (n+1) (show mr u ds+1<=mr u cs by omega);rw[Hg]at this;rw[rG (by omega),rG (by omega)]
  | [],_::_,_,h,_=>h.elim
  | _::_,[],_,h,_=>h.elim
  | [],[],_::_,_,h=>h.elim
  | _::_,_::_,[],_,h=>h.elim
def tQ{u:List Nat}{x y:Ms}(B:x.Ok u)(E:y.Ok u):AW x y=oO (x.num u) (y.num u):=by
  have h1:=GM B.1;have h2:=GM E.1;unfold AW Ms.num;split
  · split
    · rw[yQ]
    · rw[rG (by omega)]
  · split
    · rw[rF (by omega)]
    · exact aCJ B.1 E.1
def mC{a b:Int} :0<oO a b↔b<a:=by
  unfold oO;split
  · constructor<;>intro h<;>omega
  · split<;>constructor<;>intro h<;>omega
def wU{a b:Int} :oO a b<0↔a<b:=by
  unfold oO;split
  · constructor<;>intro h<;>omega
  · split<;>constructor<;>intro h<;>omega
def vN(u:List Nat)(p x:Nat):Nat:=min (mT u) ((x / mB u (p / 2)+p % 2)*mB u (p / 2))
section
variable {ns:List Nat}
def aGs(p x:Nat):vN ns p x<=mT ns:=Gd _ _
def UO{p x y:Nat}(h:x<=y):vN ns p x<=vN ns p y:=by unfold vN;have h1:=Nat.div_le_div_right (c:=mB ns (p / 2)) h;have h2:=Dt (mB ns (p / 2)) (Nat.add_le_add_right h1 (p % 2));omega
def aAv(p:Nat):vN ns p (mT ns)=mT ns:=by
  unfold vN;have h:=sM ns (p / 2);have e:mT ns / mB ns (p / 2)=mT (ns.drop (p / 2)):=by rw[h,Nat.mul_div_cancel_left _ (aB4 _ _)]
  rw[e,Dg,Cz (mT (ns.drop (p / 2)))];omega
def OW{q x:Nat}(h:x<mT ns):x / mB ns q<mT (ns.drop q):=by rw[Nat.div_lt_iff_lt_mul (aB4 _ _),Cz,<-sM];exact h
def FG{p x:Nat}(h:x<mT ns):vN ns p x=(x / mB ns (p / 2)+p % 2)*mB ns (p / 2):=by unfold vN;have h1:=OW (q:=p / 2) h;have h2:(x / mB ns (p / 2)+p % 2)*mB ns (p / 2)<=mT (ns.drop (p / 2))*mB ns (p / 2):=Dt _ (by have:=Nat.mod_lt p (show 0<2 by decide);omega);rw[Cz (mT _),<-sM]at h2;omega
def kF{α:Type}{l:List α}{q:Nat}{x:α}(h:l[q]? =Jp x):l.drop q=x::l.drop (q+1):=by obtain⟨h1,e⟩:=List.getElem?_eq_some_iff.1 h;rw[Ee h1,e]
end
def KQ(f:Nat->Nat):List Nat->Nat
  | []=>0
  | [a]=>f a
  | a::b::l=>min (f a) (KQ f (b::l))
def HS(f:Nat->Nat):List Nat->Nat
  | []=>0
  | a::l=>max (f a) (HS f l)
def vI{f:Nat->Nat} :∀{l:List Nat},l≠[]->∃u∈l,KQ f l=f u
  | [],h=>absurd rfl h
  | [a],_=>⟨a,by simp,rfl⟩
  | a::b::l,_=>by
    obtain⟨u,h1,h2⟩:=vI (f:=f) (l:=b::l) (by simp);show ∃u∈a::b::l,min (f a) (KQ f (b::l))=f u;rcases Jf (f a) (KQ f (b::l))with h | h
    · exact⟨a,by simp,Dk h⟩
    · exact⟨u,Cy _ h1,by rw[Jg h,h2]⟩
def HP{f:Nat->Nat} :∀{l:List Nat} {u:Nat},u∈l->KQ f l<=f u
  | [a],u,h=>by rw[Ch]at h;subst h;exact Ab _
  | a::b::l,u,h=>by
    show min (f a) (KQ f (b::l))<=f u;rcases List.mem_cons.1 h with e | h
    · subst e;exact Gd _ _
    · exact As (Nat.min_le_right _ _) (HP h)
def vJ{f:Nat->Nat} :∀{l:List Nat},l≠[]->∃u∈l,HS f l=f u
  | [],h=>absurd rfl h
  | [a],_=>⟨a,by simp,by simp[HS]⟩
  | a::b::l,_=>by
    obtain⟨u,h1,h2⟩:=vJ (f:=f) (l:=b::l) (by simp);show ∃u∈a::b::l,max (f a) (HS f (b::l))=f u;rcases Jf (f a) (HS f (b::l))with h | h
    · exact⟨u,Cy _ h1,by rw[Nat.max_eq_right h,h2]⟩
    · exact⟨a,by simp,Nat.max_eq_left h⟩
def HQ{f:Nat->Nat} :∀{l:List Nat} {u:Nat},u∈l->f u<=HS f l
  | a::l,u,h=>by
    show f u<=max (f a) (HS f l);rcases List.mem_cons.1 h with e | h
    · subst e;exact Nat.le_max_left _ _
    · exact As (HQ h) (Nat.le_max_right _ _)
def UP{f:Nat->Nat}{l:List Nat}{y:Nat}(h1:∃u∈l,y=f u)(h2:∀u∈l,y<=f u):y=KQ f l:=by obtain⟨u,B,e⟩:=h1;obtain⟨w,hw,E⟩:=vI (f:=f) (l:=l) (fun q=>by rw[q]at B;cases B);have:=HP (f:=f) B;have:=h2 w hw;omega
def UQ{f:Nat->Nat}{l:List Nat}{y:Nat}(h1:∃u∈l,y=f u)(h2:∀u∈l,f u<=y):y=HS f l:=by obtain⟨u,B,e⟩:=h1;obtain⟨w,hw,E⟩:=vJ (f:=f) (l:=l) (fun q=>by rw[q]at B;cases B);have:=HQ (f:=f) B;have:=h2 w hw;omega
def lN(y:List Nat)(O:Nat->Int)(S:Nat->List Nat)(R:Nat->Int)(m:Nat->Nat)(v:Nat):Nat:=
  if O v=0 then KQ (fun u=>vN y (R v).toNat (m u)) (S v)else HS (fun u=>vN y (R v).toNat (m u)) (S v)
def oY(m:Nat->Nat)(v x:Nat):Nat->Nat:=fun u=>if u=v then x else m u
structure Lft (n T:Nat) (L:(Nat->Nat)->Nat->Nat):Prop where
  bnd:∀m v,v<n->L m v<=T
  mono:∀m m' v,v<n->(∀u,u<n->m u<=m' u)->L m v<=L m' v
def rS(n:Nat)(L:(Nat->Nat)->Nat->Nat)(m:Nat->Nat):Prop:=∀v,v<n->L m v<=m v
structure LI (n T:Nat) (L:(Nat->Nat)->Nat->Nat) (m:Nat->Nat):Prop where
  bnd:∀v,v<n->m v<=T
  up:∀v,v<n->m v<=L m v
  low:∀m',rS n L m'->∀v,v<n->m v<=m' v
def aHB{n:Nat}{ns:List Nat}{O:Nat->Int}{S:Nat->List Nat}{R:Nat->Int}(hS:∀v,v<n->S v≠[]/\∀u∈S v,u<n):Lft n (mT ns) (lN ns O S R) where
  bnd:=fun m v hv=>by
    unfold lN;split
    · obtain⟨u,_,e⟩:=vI (f:=fun u=>vN ns (R v).toNat (m u)) (hS v hv).1;rw[e];exact aGs _ _
    · obtain⟨u,_,e⟩:=vJ (f:=fun u=>vN ns (R v).toNat (m u)) (hS v hv).1;rw[e];exact aGs _ _
  mono:=fun m m' v hv h=>by
    unfold lN;split
    · obtain⟨u,hu,e⟩:=vI (f:=fun u=>vN ns (R v).toNat (m' u)) (hS v hv).1;rw[e];exact As (HP hu) (UO (h u ((hS v hv).2 u hu)))
    · obtain⟨u,hu,e⟩:=vJ (f:=fun u=>vN ns (R v).toNat (m u)) (hS v hv).1;rw[e];exact As (UO (h u ((hS v hv).2 u hu))) (HQ (f:=fun u=>vN ns (R v).toNat (m' u)) hu)
section
variable {n T:Nat} {L:(Nat->Nat)->Nat->Nat} {m:Nat->Nat}
def LI.zero(hL:Lft n T L):LI n T L fun _=>0:=⟨fun _ _=>Au _,fun _ _=>Au _,fun _ _ _ _=>Au _⟩
def LI.step(hL:Lft n T L)(h:LI n T L m){v:Nat}(hv:v<n):LI n T L (oY m v (L m v)):=by
  have le:∀u,u<n->m u<=oY m v (L m v) u:=fun u y=>by
    unfold oY;split
    · rename_i e;subst e;exact h.up u y
    · exact Ab _
  refine⟨fun u y=>?_,fun u y=>?_,fun m' hm u y=>?_⟩
  · unfold oY;split
    · exact hL.bnd _ _ hv
    · exact h.bnd u y
  · have:=hL.mono m _ u y le;show(if u=v then L m v else m u)<=_;split
    · rename_i e;subst e;exact this
    · exact As (h.up u y) this
  · unfold oY;split
    · rename_i e;subst e;exact As (hL.mono m m' u y (h.low m' hm)) (hm u y)
    · exact h.low m' hm u y
def rP:Nat->(Nat->Nat)->Nat
  | 0,_=>0
  | n+1,m=>rP n m+m n
def BB:∀{n:Nat} {m:Nat->Nat},(∀v,v<n->m v<=T)->rP n m<=n*T
  | 0,_,_=>by simp[rP]
  | n+1,m,h=>by have:=BB (n:=n) (m:=m) (fun v hv=>h v (by omega));have:=h n (by omega);show rP n m+m n<=(n+1)*T;rw[Dg];omega
def CD:∀{n:Nat} {m m':Nat->Nat},(∀v,v<n->m v=m' v)->rP n m=rP n m'
  | 0,_,_,_=>rfl
  | n+1,m,m',h=>by show rP n m+m n=rP n m'+m' n;rw[CD (fun v hv=>h v (by omega)),h n (by omega)]
def vR:∀{n:Nat} {m:Nat->Nat} {v x:Nat},v<n->m v<x->rP n m<rP n (oY m v x)
  | 0,_,_,_,h,_=>by omega
  | n+1,m,v,x,h,y=>by
    show rP n m+m n<rP n (oY m v x)+oY m v x n;by_cases e:v=n
    · subst e;rw[CD (n:=v) (m:=oY m v x) (m':=m) (fun u E=>by unfold oY;rw[if_neg (by omega)])];unfold oY;rw[if_pos rfl];omega
    · have:=vR (n:=n) (m:=m) (v:=v) (x:=x) (by omega) y;have G:oY m v x n=m n:=by unfold oY;rw[if_neg (by omega)]
      omega
def nj(n:Nat)(L:(Nat->Nat)->Nat->Nat)(m:Nat->Nat)(v:Nat):Prop:=v<n/\m v<L m v/\∀u,u<v->L m u<=m u
def nj.eq{v u:Nat}(h:nj n L m v)(k:nj n L m u):v=u:=by
  rcases Nat.lt_trichotomy v u with q | q | q
  · have:=k.2.2 v q;have:=h.2.1;omega
  · exact q
  · have:=h.2.2 u q;have:=k.2.1;omega
open Classical in
noncomputable def uF(n:Nat)(L:(Nat->Nat)->Nat->Nat)(m:Nat->Nat):Nat->Nat:=
  if h:∃v,nj n L m v then oY m (Classical.choose h) (L m (Classical.choose h))else m
def qK{v:Nat}(h:nj n L m v):uF n L m=oY m v (L m v):=by unfold uF;have q:∃v,nj n L m v:=⟨v,h⟩;rw[dif_pos q,(Classical.choose_spec q).eq h]
def aAC(h:rS n L m):uF n L m=m:=by unfold uF;rw[dif_neg];rintro⟨v,h1,h2,_⟩;have:=h v h1;omega
noncomputable def itN(n:Nat)(L:(Nat->Nat)->Nat->Nat):Nat->Nat->Nat
  | 0=>fun _=>0
  | k+1=>uF n L (itN n L k)
def JF(hL:Lft n T L):∀k,LI n T L (itN n L k)
  | 0=>LI.zero hL
  | k+1=>by
    have u:=JF hL k;by_cases h:∃v,nj n L (itN n L k) v
    · obtain⟨v,hv⟩:=h;show LI n T L (uF n L (itN n L k));rw[qK hv];exact u.step hL hv.1
    · show LI n T L (uF n L (itN n L k));unfold uF;rw[dif_neg h];exact u
def JG{k:Nat}(h:rS n L (itN n L k)):∀d,itN n L (k+d)=itN n L k
  | 0=>rfl
  | d+1=>by show uF n L (itN n L (k+d))=_;rw[JG h d,aAC h]
end
def msC(x:Ms):List PV:=PV.bool x.top::x.c.map (PV.int .i64)
def msL(l:List Ms):List PV:=l.flatMap msC
def aY(pr:List Int):List Nat:=fX 8 fun k=>pr.count ((2*k+1:Nat):Int)
def lJ(l:List Nat):List PV:=l.map fun(n:Nat)=>p64 n
def nM(u y B E f3 G I J:Bool)(ow pr:List Int)(su:List (List Int)):List PV:=slI u y .u8 ow::slI B E .i64 pr::slR f3 G I J .i64 su::lJ (aY pr)
abbrev slM(f o:Bool)(l:List Ms):PV:= .sl f o 9 l.length (msL l)
def Ms.put(x:Ms)(k:Nat)(c:Int):Ms:=⟨x.top,x.c.set k c,by simp[x.h]⟩
def nP(x:Ms):(msC x).length=9:=by simp[msC,x.h]
def lZ(pr:List Int):(aY pr).length=8:=fB _ _
def wK(pr:List Int):(lJ (aY pr)).length=8:=by simp[lJ,lZ]
def U9(x:Ms):(msC x).all PV.one=Jr:=by simp[msC,PV.one]
def aB9(l:List Nat):(lJ l).all PV.one=Jr:=by simp[lJ,PV.one]
def BI(m:Nat)(x:Ms):aD m (msC x)=Jr:=by unfold msC;rw[jG,b9];simp[PV.under]
def DB(m:Nat)(l:List Nat):aD m (lJ l)=Jr:=by unfold lJ;exact iT _ _ (fun _=>by simp[PV.under]) _
def aIO(x:Ms):(msC x)[0]? =Jp (.bool x.top):=rfl
def yD{x:Ms}{k:Nat}{c:Int}(h:x.c[k]? =Jp c):(msC x)[1+k]? =Jp (p64 c):=by rw[Dh];unfold msC;simp[h]
def tK(x:Ms)(k:Nat)(c:Int):(msC x).set (1+k) (p64 c)=msC (x.put k c):=by rw[Dh];unfold msC Ms.put;simp[Jh]
def aA4(x:Ms):dQ (msC x) 0 9=msC x:=cN _ _ (nP x).symm
def XO(pr:List Int):dQ (lJ (aY pr)) 0 8=lJ (aY pr):=cN _ _ (wK pr).symm
def MB{a b:List PV}(h:a.length=b.length)(h2:2<=b.length):oR a 0 b=b:=by
  match b,h2 with
  | x::y::l,_=>show a.take 0++(x::y::l)++a.drop (0+(x::y::l).length)=x::y::l;rw[Gm (by rw[h];simp)];simp
def XW(x y:Ms):oR (msC y) 0 (msC x)=msC x:=MB (by rw[nP,nP]) (by rw[nP];decide)
def aCa:List Nat:=Ae 8 0
def z8:[p64 0,p64 0,p64 0,p64 0,p64 0,p64 0,p64 0,p64 0]=lJ aCa:=rfl
def z9:PV.bool Js::lJ aCa=msC mz:=rfl
def z9t:(msC mz).set 0 (.bool Jr)=msC qn:=rfl
def RJ(pr:List Int):oR (lJ aCa) 0 (lJ (aY pr))=lJ (aY pr):=MB (by rw[wK];rfl) (by rw[wK];decide)
def BK{l:List Nat}{k n:Nat}(h:l[k]? =Jp n):(lJ l)[k]? =Jp (p64 n):=by unfold lJ;simp[h]
def NK(l:List Nat)(k n:Nat):(lJ l).set k (p64 n)=lJ (l.set k n):=by unfold lJ;simp[Jh]
section
variable {f1 o1 f2 o2 f3 o3 f4 o4:Bool} {ow pr:List Int} {su:List (List Int)}
def aG1:(nM f1 o1 f2 o2 f3 o3 f4 o4 ow pr su)[0]? =Jp (slI f1 o1 .u8 ow):=rfl
def aG0:(nM f1 o1 f2 o2 f3 o3 f4 o4 ow pr su)[1]? =Jp (slI f2 o2 .i64 pr):=rfl
def aGZ:(nM f1 o1 f2 o2 f3 o3 f4 o4 ow pr su)[2]? =Jp (slR f3 o3 f4 o4 .i64 su):=rfl
def UV{k n:Nat}(h:(aY pr)[k]? =Jp n):(nM f1 o1 f2 o2 f3 o3 f4 o4 ow pr su)[3+k]? =Jp (p64 n):=by rw[Dh];exact BK h
def vU(m:Nat):aD m (nM f1 o1 f2 o2 f3 o3 f4 o4 ow pr su)=Jr:=by unfold nM;simp only[jG,jW,pE,DB,Bz]
end
def YB(cs:List PV)(o:Nat):fO (.cp cs o)=[.cp cs o]:=(rfl)
def aHq(cs:List PV)(o:Nat):PV.one (.cp cs o)=Jr:=(rfl)
def YQ:(lJ aCa).length=8:=rfl
def X4(n:Nat)(M:Mem)(x:Ms):jI n M (msC x)=Jp (msC x):=nA (BI _ _)
def RM(n:Nat)(M:Mem)(l:List Nat):jI n M (lJ l)=Jp (lJ l):=nA (DB _ _)
def mV(l:List Ms):(msL l).length=l.length*9:=by
  unfold msL
  induction l with
  | nil=>rfl
  | cons x l u=>rw[Cc,Al,u,nP,Ak,Dg];omega
def aE0(l:List Ms):(msL l).all PV.one=Jr:=by
  unfold msL
  induction l with
  | nil=>rfl
  | cons x l u=>rw[Cc,Cl,u,U9];rfl
def gZ(m:Nat)(l:List Ms):aD m (msL l)=Jr:=by
  unfold msL
  induction l with
  | nil=>exact lG _
  | cons x l u=>rw[Cc,oZ,u,BI];rfl
def WU(m:Nat)(f o:Bool)(sz n:Nat)(l:List Ms):PV.under m (.sl f o sz n (msL l))=Jr:=by simp only[PV.under];exact gZ m l
def aE2(l:List Ms)(x:Ms):msL l++msC x=msL (l++[x]):=by simp[msL]
def yC{l:List Ms}{k:Nat}{x:Ms}(h:l[k]? =Jp x):∃a b,msL l=a++msC x++b/\a.length=k*9/\(∀y,msL (l.set k y)=a++msC y++b):=by
  obtain⟨u,e⟩:=List.getElem?_eq_some_iff.1 h;refine⟨msL (l.take k),msL (l.drop (k+1)),?_,?_,fun y=>?_⟩
  · conv=>lhs;rw[<-Cu k l,Ee u,e]
    simp[msL]
  · rw[mV];simp;omega
  · rw[List.set_eq_take_append_cons_drop,if_pos u];simp[msL]
def jT{l:List Ms}{k:Nat}{x:Ms}(h:l[k]? =Jp x):dQ (msL l) (k*9) 9=msC x:=by obtain⟨a,b,h1,h2,_⟩:=yC h;unfold dQ;rw[h1,<-h2,Ac,Gj,Bj (nP x)]
def aE1{l:List Ms}{k:Nat}{x:Ms}(h:l[k]? =Jp x):(msL l)[k*9]? =Jp (.bool x.top):=by obtain⟨a,b,h1,h2,_⟩:=yC h;rw[h1,<-h2,Ac,Bv (Ab _),Dr];rfl
def xX{l:List Ms}{k:Nat}(y:Ms)(h:k<l.length):oR (msL l) (k*9) (msC y)=msL (l.set k y):=by
  obtain⟨a,b,h1,h2,h3⟩:=yC (Ad h);rw[h3,h1,<-h2];have e:msC y=PV.bool y.top::y.c.map (PV.int .i64):=rfl;have hl:(msC y).length=9:=nP y;have u:∃c cs,y.c.map (PV.int .i64)=c::cs:=by
    cases q:y.c.map (PV.int .i64)with
    | nil=>rw[e,q]at hl;simp at hl
    | cons c cs=>exact⟨c,cs,rfl⟩
  obtain⟨c,cs,q⟩:=u;have:oR (a++msC (l[k])++b) a.length (msC y)=(a++msC l[k]++b).take a.length++msC y++(a++msC l[k]++b).drop (a.length+(msC y).length):=by rw[e,q];rfl
  rw[this,hl,<-nP l[k],<-Al,Gj,Ac a,Bj rfl]
def aA5(n:Nat):fY n (msC mz)=msL (Ae n mz):=by
  induction n with
  | zero=>rfl
  | succ n u=>show msC mz++fY n (msC mz)=_;rw[u,Fm];rfl
def t7{l:List Ms}{k:Nat}{x:Ms}(h:l[k]? =Jp x):k*9+9<=l.length*9:=by have:=aF h;omega
instance:DecidableEq Ms:=fun x y=>if h:x.top=y.top/\x.c=y.c then isTrue (Ms.ext' h.1 h.2)else isFalse fun e=>h (by subst e;exact⟨rfl,rfl⟩)
def Ms.fit(x:Ms):Prop:=∀c∈x.c,-9223372036854775808<=c/\c<=9223372036854775807
def B9:∀l:List Int,kA (l.map (PV.int .i64))=Jp (l.map (AV.int .i64))
  | []=>rfl
  | x::l=>by show(match eZ (PV.int .i64 x),kA (l.map (PV.int .i64))with | some x,Jp u=>Jp (x::u) | _,_=>Jq)=_;rw[B9 l];rfl
def NS{c:Int}(h: -9223372036854775808<=c/\c<=9223372036854775807):YS .i64 c=Jr:=by unfold YS;simp;exact h
def OP:∀{a b:List Int},a.length=b.length->(∀c∈a,-9223372036854775808<=c/\c<=9223372036854775807)->(∀c∈b,-9223372036854775808<=c/\c<=9223372036854775807)->jE (Ae a.length (Jp .i64)) (a.map (AV.int .i64)) (b.map (AV.int .i64))=Jp (decide (a=b))
  | [],[],_,_,_=>rfl
  | x::a,y::b,hl,u,hb=>by have B:=OP (a:=a) (b:=b) (by simpa using hl) (fun c h=>u c (Cy _ h)) fun c h=>hb c (Cy _ h);rw[Ak,Fm,Ah,Ah];unfold jE;rw[if_pos ⟨rfl,rfl,NS (u x (by simp)),NS (hb y (by simp))⟩,B];simp only[Option.some.injEq,List.cons.injEq];by_cases e:x=y<;>by_cases E:a=b<;>simp[e,E]
  | [],_::_,h,_,_=>by simp at h
  | _::_,[],h,_,_=>by simp at h
def U3{x y:Ms}(B:x.fit)(E:y.fit):sE [Jq,Jp .i64,Jp .i64,Jp .i64,Jp .i64,Jp .i64,Jp .i64,Jp .i64,Jp .i64] (msC x) (msC y)=Jp (decide (x=y)):=by
  have h:=OP (a:=x.c) (b:=y.c) (by rw[x.h,y.h]) B E;rw[x.h]at h;unfold sE msC;have u:∀z:Ms,kA (PV.bool z.top::z.c.map (PV.int .i64))=Jp (AV.bool z.top::z.c.map (AV.int .i64)):=fun z=>by
    show(match eZ (PV.bool z.top),kA (z.c.map (PV.int .i64))with | some x,Jp G=>Jp (x::G) | _,_=>Jq)=_;rw[B9];rfl
  rw[u x,u y];show jE (Jq::Ae 8 (Jp .i64)) (AV.bool x.top::x.c.map (AV.int .i64)) (AV.bool y.top::y.c.map (AV.int .i64))=_;unfold jE;rw[h];simp only[Option.some.injEq];by_cases e:x=y
  · subst e;simp
  · rw[decide_eq_false e];by_cases u:x.top=y.top
    · have:x.c≠y.c:=fun q=>e (Ms.ext' u q);simp[this]
    · have:(x.top==y.top)=Js:=by simpa using u
      rw[this];rfl
def Ms.Ok.fit{ns:List Nat}{x:Ms}(h:x.Ok ns)(J:∀n∈ns,n<1000000000000):x.fit:=fun c K=>by
  obtain⟨k,I⟩:=Dl K;have hl:=VA h.1;have y:k<ns.length:=by have:=aF I;omega
  have G:∀{ns:List Nat} {cs:List Int},mOk ns cs->∀{u:Nat} {c:Int} {n:Nat},cs[u]? =Jp c->ns[u]? =Jp n->0<=c/\c<=n:=by
    intro ns
    induction ns with
    | nil=>intro cs h u c n E B;simp at B
    | cons n ns L=>
      intro cs h u c m E B
      cases cs with
      | nil=>exact h.elim
      | cons a cs=>
        cases u with
        | zero=>simp at E B;subst E;subst B;exact⟨h.1,h.2.1⟩
        | succ u=>exact L h.2.2 (by simpa using E) (by simpa using B)
  have h1:=G h.1 I (Ad y);have h2:=J _ (List.getElem_mem y);omega
def BJ{pr:List Int}(hb:pr.length<1000000000000):∀n∈aY pr,n<1000000000000:=fun n u=>by obtain⟨v,_,rfl⟩:=CA u;have:pr.count ((2*v+1:Nat):Int)<=pr.length:=Hj;omega
def PN:=(Aa (Aa (Aa (Aa @nP (Aa @U9 @BI)) (Aa (Aa @WU @aIO) (Aa @aA4 @XW))) (Aa (Aa @z9 (Aa @z9t @mV)) (Aa (Aa @gZ @aE0) (Aa @aA5 @wK)))) (Aa (Aa (Aa @aB9 (Aa @DB @YQ)) (Aa (Aa @X4 @RM) (Aa @XO @RJ))) (Aa (Aa @z8 (Aa @YB @aHq)) (Aa (Aa @vU @aG1) (Aa @aG0 @aGZ)))))
open Go.Am renaming jc->P1,lg->P2,kq->P3,ep->P4,bl.under->P5,fy->P6,dr->P7,bf->P8,pev->P9,iw->P10,bd->P11,jl->P12,dw->P13,fY->P14,AO.effect->P15
open List renaming replicate->L1
def Ms.get{x:Ms}{k:Nat}(h:k<8):∃c,x.c[k]? =Jp c:=aK (by rw[x.h];exact h)
def zN{j:Nat}(h:j<1000000000000):IntKind.i64.wrap ((j:Int)-1)=(j:Int)-1:=wrap64 (by omega) (by omega)
section
variable {tab:FuncId->Option AF} (T:HasA tab){M:Mem}{K:PV->Mem->Prop}
include T
def VL{a:Int}(u:K (.bool Js) M):au tab 133 [p64 a] M K:=by refine aB T.h133 (by simp only[PP,simprocAttr]) ?_;simp only[af133,PP,simprocAttr];exact u
def aI5{a b:Int}(u:K (p64 (oO a b)) M):au tab 78 [p64 a,p64 b] M K:=by
  refine aB T.h78 (by simp only[PP,simprocAttr]) ?_;simp only[af78,PP,simprocAttr];refine VL T ?_;simp only[PP,simprocAttr];refine VL T ?_;simp only[PP,simprocAttr];refine QIf.intro (fun c=>?_) fun c=>?_
  · simp only[PP,simprocAttr,c];rw[rF c]at u;exact u
  · simp only[PP,simprocAttr,c];refine QIf.intro (fun d=>?_) fun d=>?_
    · simp only[PP,simprocAttr,d];rw[rG d]at u;exact u
    · simp only[PP,simprocAttr,d];rw[show oO a b=0 from by rw[tR];omega]at u;exact u
def pW{x y:Ms}(u:K (p64 (AW x y)) M):au tab 30 [.agg (msC x),.agg (msC y)] M K:=by
  refine aB T.h30 (by simp only[PP,simprocAttr,PN]) ?_;simp only[af30,PP,simprocAttr,PN];unfold AW at u
  cases E:x.top with
  | true=>
    rw[E,if_pos rfl]at u
    cases B:y.top with
    | true=>rw[B,if_pos rfl]at u;simp only[PP,simprocAttr,PN,E,B];exact u
    | false=>rw[B,if_neg (by decide)]at u;simp only[PP,simprocAttr,PN,E,B];exact u
  | false=>
    rw[E,if_neg (by decide)]at u
    cases B:y.top with
    | true=>rw[B,if_pos rfl]at u;simp only[PP,simprocAttr,PN,E,B];exact u
    | false=>
      rw[B,if_neg (by decide)]at u;simp only[PP,simprocAttr,PN,E,B];refine fT (fun(k:Int)=> -1<=k/\k<=7/\oK (x.c.drop (k+1).toNat) (y.c.drop (k+1).toNat)=0) (fun k=>(.aa:: .aa:: .ptr 0 0 0:: .ptr 1 0 0:: .aa::p64 k::zj 30))
        (fun k=>[.cells 0 0 (msC x),.cells 0 0 (msC y)]) (fun k=>(k+1).toNat) 7 ⟨by decide,by decide,by
          rw[Gm (by rw[x.h];decide)];rfl⟩ ?_
      intro k ⟨h1,h2,h3⟩ O;refine aH (by kernel_rfl) ?_;simp only[PP,simprocAttr];refine QIf.intro (fun c=>?_) fun c=>?_
      · obtain⟨j,rfl⟩:∃j:Nat,k=j:=⟨k.toNat,by omega⟩;have Q:(j:Int)<8:=by omega
        obtain⟨a,J⟩:=Ms.get (x:=x) (k:=j) (by omega);obtain⟨b,L⟩:=Ms.get (x:=y) (k:=j) (by omega);have R:=yD J;have S:=yD L;have G:=zN (j:=j) (by omega);have U:((j:Int)+1).toNat=j+1:=by omega
        rw[U]at h3;have I:=VX J L h3;simp only[PP,simprocAttr,c,Q,R,S];refine aI5 T ?_;simp only[PP,simprocAttr];by_cases e:oO a b=0
        · simp only[PP,simprocAttr,e,G];refine aG (O ((j:Int)-1) ⟨by omega,by omega,?_⟩ (by omega));rw[show((j:Int)-1+1).toNat=j by omega,I];exact e
        · simp only[PP,simprocAttr,e];rw[tS j (by rw[I];exact e),I]at u;exact u
      · have:k= -1:=by omega
        subst this;have h3:oK x.c y.c=0:=by simpa using h3
        rw[h3]at u;simp only[PP,simprocAttr];exact u
def CS{x y:Ms}(u:K (p64 (AW x y)) M):au tab 162 [.agg (msC x),.agg (msC y)] M K:=by
  refine aB T.h162 (by simp only[PP,simprocAttr,PN]) ?_;simp only[af162,PP,simprocAttr,PN];unfold AW at u
  cases G:x.top with
  | true=>
    rw[G,if_pos rfl]at u
    cases B:y.top with
    | true=>rw[B,if_pos rfl]at u;simp only[PP,simprocAttr,PN,G,B];exact u
    | false=>rw[B,if_neg (by decide)]at u;simp only[PP,simprocAttr,PN,G,B,show(Jr==Js)=Js from rfl];exact u
  | false=>
    rw[G,if_neg (by decide)]at u
    cases B:y.top with
    | true=>rw[B,if_pos rfl]at u;simp only[PP,simprocAttr,PN,G,B,show(Js==Jr)=Js from rfl];exact u
    | false=>
      rw[B,if_neg (by decide)]at u;simp only[PP,simprocAttr,PN,G,B];refine fT (fun(k:Int)=> -1<=k/\k<=7/\oK (x.c.drop (k+1).toNat) (y.c.drop (k+1).toNat)=0) (fun k=>(.aa:: .aa:: .ptr 0 0 0:: .ptr 1 0 0:: .aa::p64 k::zj 35))
        (fun k=>[.cells 0 0 (msC x),.cells 0 0 (msC y)]) (fun k=>(k+1).toNat) 7 ⟨by decide,by decide,by
          rw[Gm (by rw[x.h];decide)];rfl⟩ ?_
      intro k ⟨h1,h2,h3⟩ S;refine aH (by kernel_rfl) ?_;simp only[PP,simprocAttr];refine QIf.intro (fun c=>?_) fun c=>?_
      · obtain⟨j,rfl⟩:∃j:Nat,k=j:=⟨k.toNat,by omega⟩;have J:(j:Int)<8:=by omega
        obtain⟨a,L⟩:=Ms.get (x:=x) (k:=j) (by omega);obtain⟨b,O⟩:=Ms.get (x:=y) (k:=j) (by omega);have Q:=yD L;have R:=yD O;have I:=zN (j:=j) (by omega);have U:((j:Int)+1).toNat=j+1:=by omega
        rw[U]at h3;have E:=VX L O h3;simp only[PP,simprocAttr,c,J,Q,R];refine QIf.intro (fun d=>?_) fun d=>?_
        · rw[rF d]at E;simp only[PP,simprocAttr,d];rw[tS j (by rw[E];decide),E]at u;exact u
        · simp only[PP,simprocAttr,d,J,c,Q,R];refine QIf.intro (fun e=>?_) fun e=>?_
          · rw[rG e]at E;simp only[PP,simprocAttr,e];rw[tS j (by rw[E];decide),E]at u;exact u
          · simp only[PP,simprocAttr,e,I];refine aG (S ((j:Int)-1) ⟨by omega,by omega,?_⟩ (by omega));rw[show((j:Int)-1+1).toNat=j by omega,E,tR];omega
      · have:k= -1:=by omega
        subst this;have h3:oK x.c y.c=0:=by simpa using h3
        rw[h3]at u;simp only[PP,simprocAttr];exact u
end
def aAl{l:List Int}{k:Nat} :(Ae k (0:Int)++l.drop k)[k]? =l[k]? :=by rw[Bv (by simp),List.length_replicate,Dr,List.getElem?_drop,Dz]
def QJ{l:List Int}{k:Nat}(y:Int)(h:k<l.length):(Ae k (0:Int)++l.drop k).set k y=Ae k 0++y::l.drop (k+1):=by rw[Dn _ _ (by simp),List.length_replicate,Dr,Ee h,Dc]
def AZ{l:List Int}{k:Nat}(h:k<l.length):(Ae k (0:Int)++l.drop k).set k 0=Ae (k+1) 0++l.drop (k+1):=by rw[QJ 0 h,List.replicate_succ',Ac];rfl
section
variable {ns:List Nat} {x y:Ms} {q k:Nat}
def x8(ht:x.top=Js):x.num ns=mr ns x.c:=by unfold Ms.num;rw[ht,if_neg (by decide)]
def KK(h:x.Ok ns)(ht:x.top=Js)(hl:ns.length=8)(E:q<=8)(u:y.top=Js)(B:y.c=Ae q 0++x.c.drop q):y.Ok ns/\y.num ns=(x.num ns / mB ns q)*mB ns q:=by have h1:=sN q h.1;refine⟨⟨by rw[B];exact yG q (by omega) h1,fun e=>by rw[u]at e;cases e⟩,?_⟩;rw[x8 u,x8 ht,B,C4 q (by simp[x.h];omega),I8 q h.1,Cz]
def EM(ns:List Nat)(x:Ms)(q k:Nat):Prop:=∀(i:Nat) (c:Int) (n:Nat),q<=i->i<k->x.c[i]? =Jp c->ns[i]? =Jp n->c=n
def aAw(h:x.Ok ns)(hl:ns.length=8):∀{k:Nat},q<=k->k<=8->EM ns x q k->(mr (ns.drop k) (x.c.drop k)+1)*mB ns k=(mr (ns.drop q) (x.c.drop q)+1)*mB ns q
  | 0,h1,h2,hf=>by
    have:q=0:=by omega
    subst this;rfl
  | k+1,h1,h2,hf=>by
    by_cases e:q=k+1
    · subst e;rfl
    · rw[<-aAw h hl (k:=k) (by omega) (by omega) (fun i c n a b=>hf i c n a (by omega))];obtain⟨n,u⟩:∃n,ns[k]? =Jp n:=⟨_,Ad (by omega)⟩;obtain⟨c,B⟩:=Ms.get (x:=x) (k:=k) (by omega);have E:=hf k c n (by omega) (by omega) B u;rw[aE8 u,kF u,kF B];show _=(c.toNat+(n+1)*mr (ns.drop (k+1)) (x.c.drop (k+1))+1)*mB ns k;rw[E,Bq,show n+(n+1)*mr (ns.drop (k+1)) (x.c.drop (k+1))+1=(n+1)*(mr (ns.drop (k+1)) (x.c.drop (k+1))+1) by rw[Hg];omega];rw[Cz (mB ns k),<-Hi,Cz (n+1)]
def UM(h:x.Ok ns)(ht:x.top=Js)(hl:ns.length=8)(I:q<=k)(J:k<8)(hf:EM ns x q k){c:Int}{n:Nat}(B:x.c[k]? =Jp c)(u:ns[k]? =Jp n)(hlt:c<n)(E:y.top=Js)
    (G:y.c=Ae k 0++(c+1)::x.c.drop (k+1)):y.Ok ns/\y.num ns=(x.num ns / mB ns q+1)*mB ns q:=by
  have h1:=sN k h.1;rw[kF u,kF B]at h1;have hd:mOk (ns.drop k) ((c+1)::x.c.drop (k+1)):=by rw[kF u];exact⟨by have:=h1.1;omega,by omega,h1.2.2⟩
  refine⟨⟨by rw[G];exact yG k (by omega) hd,fun e=>by rw[E]at e;cases e⟩,?_⟩;rw[x8 E,x8 ht,G,C4 k (by simp[x.h];omega),I8 q h.1,<-aAw h hl I (by omega) hf,Cz,kF u,kF B];congr 1;show(c+1).toNat+(n+1)*_=c.toNat+(n+1)*_+1;have:=h1.1;omega
def KL(h:x.Ok ns)(ht:x.top=Js)(hl:ns.length=8)(u:q<=8)(hf:EM ns x q 8):mT ns=(x.num ns / mB ns q+1)*mB ns q:=by rw[x8 ht,I8 q h.1,<-aAw h hl u (Ab _) hf,Gm (by omega),sM ns 8,Gm (by omega)];simp[mr,mT]
def Ms.pj(h:x.Ok ns)(ht:x.top=Js):x.num ns<mT ns:=by rw[x8 ht];exact GM h.1
end
def aGa(pr:List Int):Prop:=pr.length<1000000000000/\∀x∈pr,0<=x/\x<=16
def qW(pr:List Int){q:Nat}(h:q<8):(aY pr)[q]? =Jp (pr.count ((2*q+1:Nat):Int)):=jR h
def GP{pr:List Int}{k:Nat}{x:Int}(g:pr[k]? =Jp x)(h:x % 2=0):aY (pr.take (k+1))=aY (pr.take k):=kB fun v hv=>by
  rw[fK g,List.count_append,List.count_singleton];have:¬(x==((2*v+1:Nat):Int))=Jr:=by simp;omega
  rw[if_neg this];rfl
def NJ{pr:List Int}{k q:Nat}{x:Int}(g:pr[k]? =Jp x)(h:x=((2*q+1:Nat):Int))(u:q<8):(aY (pr.take k)).set q ((pr.take k).count ((2*q+1:Nat):Int)+1)=aY (pr.take (k+1)):=by
  unfold aY;rw[vM _ u];refine kB fun v hv=>?_;rw[fK g,List.count_append,List.count_singleton];by_cases e:v=q
  · subst e;rw[if_pos rfl,if_pos (by simp[h])]
  · rw[if_neg e,if_neg (by simp[h];omega)];rfl
section
variable {tab:FuncId->Option AF} (T:HasA tab){M:Mem}{K:PV->Mem->Prop}
include T
def zP{E G u B f3 I J L:Bool}{ow pr:List Int}{su:List (List Int)}(P:aGa pr)(hk:K (.cp (nM E G u B f3 I J L ow pr su) 0) M):
    au tab 89 [gmP E G u B f3 I J L ow pr su] M K:=by
  obtain⟨hn,hp⟩:=P;refine aDH (by simp only[PP,simprocAttr]) ?_;refine aV T.h89 ?_;simp only[af89,PP,simprocAttr,PN];refine iN (fun(k ver:Nat)=>k<=pr.length) (fun k ver=>(zj 3++ .ptr 1 0 0::zj 6++slI u B .i64 pr::p64 pr.length::p64 k::zj 19))
    (fun k ver=>[.cells 0 0 [slI E G .u8 ow,slI u B .i64 pr,slR f3 I J L .i64 su],.cells 0 ver (slI E G .u8 ow::slI u B .i64 pr::slR f3 I J L .i64 su::lJ (aY (pr.take k)))])
    (fun k _=>pr.length-k) 0 0 (by omega) ?_
  intro k ver a1 Z;refine aH (by kernel_rfl) ?_;simp only[PP,simprocAttr];refine QIf.intro (fun c=>?_) fun c=>?_
  · have V:k<pr.length:=by omega
    have k0:(0:Int)<=k:=by omega
    have kn:(k:Int)<pr.length:=by omega
    have O:=aA (k:=k) (by show _<1000000000000;omega);obtain⟨x,U⟩:=aK (xs:=pr) (k:=k) V;obtain⟨x0,x1⟩:=hp x (Af U);have Q:x.tmod 2=x % 2:=Ft x0;simp only[PP,simprocAttr,c,k0,kn,U,aA6 (show(2:Int)≠0 by decide),Q];refine QIf.intro (fun d=>?_) fun d=>?_
    · obtain⟨q,hq,R⟩:∃q:Nat,x=((2*q+1:Nat):Int)/\q<8:=⟨(x / 2).toNat,by omega,by omega⟩;have S:IntKind.i64.wrap (x.tdiv 2)=(q:Int):=by
        rw[Fp x0,wrap64 (by omega) (by omega)];omega
      have a2:(pr.take k).count ((2*q+1:Nat):Int)<=(pr.take k).length:=Hj;have a0:(pr.take k).length<=pr.length:=by simp;omega
      have gl:=BK (qW (pr.take k) R);have Y:=aA (k:=(pr.take k).count ((2*q+1:Nat):Int)) (by show _<1000000000000;omega);have g3:(slI E G .u8 ow::slI u B .i64 pr::slR f3 I J L .i64 su::lJ (aY (pr.take k)))[3+q]? =Jp (p64 ((pr.take k).count ((2*q+1:Nat):Int))):=by rw[Dh];exact gl
      have g4:∀y:PV,(slI E G .u8 ow::slI u B .i64 pr::slR f3 I J L .i64 su::lJ (aY (pr.take k))).set (3+q) y=slI E G .u8 ow::slI u B .i64 pr::slR f3 I J L .i64 su::(lJ (aY (pr.take k))).set q y:=fun y=>by rw[Dh];rfl
      have q0:(0:Int)<=q:=by omega
      have q8:(q:Int)<8:=by omega
      have q3:3+q+1<=11:=by omega
      simp only[PP,simprocAttr,PN,d,k0,kn,sF _ _ _ (show(2:Int)≠0 by decide),S,q0,q8,q3,g3,g4,Y,O];refine bZ (Z (k+1) (ver+1) (by omega) (by omega)) (by simp only[PW]) ?_;rw[NK,NJ U hq R]
    · simp only[PP,simprocAttr,d,O];refine bZ (Z (k+1) ver (by omega) (by omega)) (by simp only[PW]) ?_;rw[GP U (by omega)]
  · have:k=pr.length:=by omega
    subst this;simp only[PP,simprocAttr,c];refine⟨1,0,ver,nM E G u B f3 I J L ow pr su,rfl,?_,vU _,hk⟩;rw[Bo (Ab _)];rfl
def aB7{L O Q R f3 S U V:Bool}{ow pr:List Int}{su:List (List Int)}(P:aGa pr)(hk:K (.agg (lJ (aY pr))) M):
    au tab 192 [gmP L O Q R f3 S U V ow pr su] M K:=by
  obtain⟨hn,hp⟩:=P;refine aB T.h192 (by simp only[PP,simprocAttr]) ?_;simp only[af192,PP,simprocAttr,PN];refine iN (fun(k ver:Nat)=>k<=pr.length) (fun k ver=>(.aa:: .ptr 0 0 0:: .ptr 1 0 0:: .ptr 2 0 0::p64 k::zj 25))
    (fun k ver=>[.cells 0 0 [slI L O .u8 ow,slI Q R .i64 pr,slR f3 S U V .i64 su],.cells 0 0 (lJ aCa),.cells 0 ver (lJ (aY (pr.take k)))])
    (fun k _=>pr.length-k) 0 0 (by omega) ?_
  intro k ver a1 Y;refine aH (by kernel_rfl) ?_;simp only[PP,simprocAttr];refine QIf.intro (fun c=>?_) fun c=>?_
  · have I:k<pr.length:=by omega
    have Z:(0:Int)<=k:=by omega
    have kn:(k:Int)<pr.length:=by omega
    have u:=aA (k:=k) (by show _<1000000000000;omega);obtain⟨x,y⟩:=aK (xs:=pr) (k:=k) I;obtain⟨x0,x1⟩:=hp x (Af y);have B:x.tmod 2=x % 2:=Ft x0;simp only[PP,simprocAttr,c,Z,kn,y,aA6 (show(2:Int)≠0 by decide),B];refine QIf.intro (fun d=>?_) fun d=>?_
    · obtain⟨q,hq,E⟩:∃q:Nat,x=((2*q+1:Nat):Int)/\q<8:=⟨(x / 2).toNat,by omega,by omega⟩;have G:IntKind.i64.wrap (x.tdiv 2)=(q:Int):=by
        rw[Fp x0,wrap64 (by omega) (by omega)];omega
      have a2:(pr.take k).count ((2*q+1:Nat):Int)<=(pr.take k).length:=Hj;have a0:(pr.take k).length<=pr.length:=by simp;omega
      have gl:=BK (qW (pr.take k) E);have J:=aA (k:=(pr.take k).count ((2*q+1:Nat):Int)) (by show _<1000000000000;omega);have q0:(0:Int)<=q:=by omega
      have q8:(q:Int)<8:=by omega
      have q3:q+1<=8:=by omega
      simp only[PP,simprocAttr,PN,d,Z,kn,y,sF _ _ _ (show(2:Int)≠0 by decide),G,q0,q8,q3,gl,J,u];refine bZ (Y (k+1) (ver+1) (by omega) (by omega)) (by simp only[PW]) ?_;rw[NK,NJ y hq E]
    · simp only[PP,simprocAttr,d,u];refine bZ (Y (k+1) ver (by omega) (by omega)) (by simp only[PW]) ?_;rw[GP y (by omega)]
  · have:k=pr.length:=by omega
    subst this;rw[Bo (Ab _)];simp only[PP,simprocAttr,PN,c];exact hk
omit T in
def aGz(p:Nat):((p:Int)).tmod 2=((p % 2:Nat):Int):=by rw[Ft (by omega)];omega
omit T in
def aA7{p:Nat}(h:p<=16):IntKind.i64.wrap ((p:Int).tdiv 2)=((p / 2:Nat):Int):=by rw[Fp (by omega),wrap64 (by omega) (by omega)];omega
def aIv{U V Y Z f3 o3 f4 o4:Bool}{ow pr:List Int}{su:List (List Int)}{p:Nat}{x:Ms}(hb:pr.length<1000000000000)(hp:p<=16)(B:x.Ok (aY pr))
    (hk:∀y:Ms,y.Ok (aY pr)->y.num (aY pr)=vN (aY pr) p (x.num (aY pr))->K (.agg (msC y)) M):
    au tab 219 [.cp (nM U V Y Z f3 o3 f4 o4 ow pr su) 0,p64 p,.agg (msC x)] M K:=by
  have h8:=lZ pr;have hlt:=BJ hb;refine aB T.h219 (by simp only[PP,simprocAttr,PN,PV.under]) ?_;simp only[af219,PP,simprocAttr,PN]
  cases ht:x.top with
  | true=>simp only[PP,simprocAttr,PN,ht];refine hk x B ?_;rw[(Ms.ma B).2 ht,aAv]
  | false=>
    have E:=Ms.pj B ht;simp only[PP,simprocAttr,PN,ht,sF _ _ _ (show(2:Int)≠0 by decide),aA7 hp];refine nL (fun(k ver:Nat) (y:Ms)=>k<=p / 2/\y.top=Js/\y.c=Ae k 0++x.c.drop k)
      (fun k ver y=>(.cp (nM U V Y Z f3 o3 f4 o4 ow pr su) 0::p64 p::zj 3++ .ptr 0 0 0:: .ptr 1 0 0::zj 6++p64 ((p / 2:Nat):Int)::p64 k::zj 41))
      (fun k ver y=>[.cells 0 ver (msC y),.cells 0 0 (msC mz)]) (fun k _ _=>p / 2-k) 0 0 x ⟨by omega,ht,by simp⟩ ?_
    intro k ver y ⟨a6,J,G⟩ ih;refine aH (by kernel_rfl) ?_;simp only[PP,simprocAttr];refine QIf.intro (fun c=>?_) fun c=>?_
    · have u:k<8:=by omega
      have O:(0:Int)<=k:=by omega
      have Q:(k:Int)<8:=by omega
      have R:1+k+1<=9:=by omega
      have I:=aA (k:=k) (by show _<1000000000000;omega);simp only[PP,simprocAttr,PN,c,O,Q,R,tK,I];refine bZ (ih (k+1) (ver+1) (y.put k 0) ⟨by omega,J,?_⟩ (by omega)) (by simp only[PW]) rfl;show y.c.set k 0=_;rw[G];exact AZ (by rw[x.h];exact u)
    · have a0:k=p / 2:=by omega
      subst a0;simp only[PP,simprocAttr,PN,c,aA6 (show(2:Int)≠0 by decide),aGz];obtain⟨z1,z2⟩:=KK B ht h8 (show p / 2<=8 by omega) J G;refine QIf.intro (fun d=>?_) fun d=>?_
      · have e0:p % 2=0:=by omega
        simp only[PP,simprocAttr,PN,d];exact hk y z1 (by rw[z2,FG E,e0,Dz])
      · have e1:p % 2=1:=by omega
        simp only[PP,simprocAttr,PN,d,sF _ _ _ (show(2:Int)≠0 by decide),aA7 hp];refine nL (fun(k ver:Nat) (y:Ms)=>p / 2<=k/\k<=8/\y.top=Js/\y.c=Ae k 0++x.c.drop k/\EM (aY pr) x (p / 2) k)
          (fun k ver y=>(.cp (nM U V Y Z f3 o3 f4 o4 ow pr su) 0::zj 4++ .ptr 0 0 0:: .ptr 1 0 0:: .aa::p64 k::zj 47))
          (fun k ver y=>[.cells 0 ver (msC y),.cells 0 0 (msC mz)]) (fun k _ _=>8-k) (p / 2) ver y ⟨Ab _,by omega,J,G,fun i c n a b=>by omega⟩ ?_
        clear ih c;intro k ver y ⟨S,a5,J,G,hf⟩ ih;refine aH (by kernel_rfl) ?_;simp only[PP,simprocAttr];refine QIf.intro (fun c=>?_) fun c=>?_
        · have u:k<8:=by omega
          have O:(0:Int)<=k:=by omega
          have Q:(k:Int)<8:=by omega
          have R:1+k+1<=9:=by omega
          have a3:¬(k:Int)=8:=by omega
          have I:=aA (k:=k) (by show _<1000000000000;omega);obtain⟨a,ga⟩:=Ms.get (x:=x) u;have gy:y.c[k]? =Jp a:=by rw[G,aAl,ga]
          have L:=qW pr u;generalize pr.count ((2*k+1:Nat):Int)=n at L;have hn:=hlt n (Af L);have g1:=yD gy;have g2:(nM U V Y Z f3 o3 f4 o4 ow pr su)[3+k]? =Jp (p64 n):=UV L;have a7:0<=a/\a<=n:=by have:=sN k B.1;rw[kF L,kF ga]at this;exact⟨this.1,this.2.1⟩
          have a4:IntKind.i64.wrap (a+1)=a+1:=wrap64 (by omega) (by omega);simp only[PP,simprocAttr,PN,c,O,Q,R,g1,g2];refine QIf.intro (fun e=>?_) fun e=>?_
          · simp only[PP,simprocAttr,PN,e,c,O,Q,R,g1,a4,tK,a3];obtain⟨w1,w2⟩:=UM (y:=y.put k (a+1)) B ht h8 S u hf ga L e J (by show y.c.set k (a+1)=_;rw[G];exact QJ _ (by rw[x.h];exact u));exact hk _ w1 (by rw[w2,FG E,e1])
          · simp only[PP,simprocAttr,PN,e,O,Q,R,tK,I];refine bZ (ih (k+1) (ver+1) (y.put k 0) ⟨by omega,by omega,J,?_,fun i c m a1 a2 g5 g6=>?_⟩ (by omega)) (by simp only[PW]) rfl
            · show y.c.set k 0=_;rw[G];exact AZ (by rw[x.h];exact u)
            · by_cases ei:i=k
              · subst ei;rw[ga]at g5;rw[L]at g6;cases g5;cases g6;omega
              · exact hf i c m a1 (by omega) g5 g6
        · have u:k=8:=by omega
          subst u;simp only[PP,simprocAttr,PN];refine hk qn (I7 h8) ?_;rw[M6,FG E,e1];exact KL B ht h8 (by omega) hf
def aHa{f1 o1 f2 o2 f3 o3 f4 o4:Bool}{ow pr:List Int}{su:List (List Int)}{p:Nat}{x:Ms}(P:aGa pr)(hp:p<=16)(B:x.Ok (aY pr))
    (V:∀y:Ms,y.Ok (aY pr)->y.num (aY pr)=vN (aY pr) p (x.num (aY pr))->K (.agg (msC y)) M):
    au tab 163 [gmP f1 o1 f2 o2 f3 o3 f4 o4 ow pr su,p64 p,.agg (msC x)] M K:=by
  have Y:=lZ pr;have hlt:=BJ P.1;refine aB T.h163 (by simp only[PP,simprocAttr,PN,PV.under]) ?_;simp only[af163,PP,simprocAttr,PN]
  cases ht:x.top with
  | true=>simp only[PP,simprocAttr,PN,ht];refine V x B ?_;rw[(Ms.ma B).2 ht,aAv]
  | false=>
    have E:=Ms.pj B ht;simp only[PP,simprocAttr,PN,ht];refine aB7 T P ?_;simp only[PP,simprocAttr,PN];refine nL (fun(k ver:Nat) (y:Ms)=>k<=p / 2/\y.top=Js/\y.c=Ae k 0++x.c.drop k)
      (fun k ver y=>(.aa::p64 p::zj 3++ .ptr 1 0 0:: .ptr 2 0 0:: .ptr 3 0 0::p64 k::zj 50))
      (fun k ver y=>[.cells 0 0 [slI f1 o1 .u8 ow,slI f2 o2 .i64 pr,slR f3 o3 f4 o4 .i64 su],.cells 0 ver (msC y),.cells 0 0 (msC mz),.cells 0 1 (lJ (aY pr))]) (fun k _ _=>p / 2-k) 0 0 x ⟨by omega,ht,by simp⟩ ?_
    intro k ver y ⟨a5,J,G⟩ Z;have O:IntKind.i64.wrap (IntKind.i64.wrap (2*(k:Int))+1)=2*(k:Int)+1:=by rw[wrap64 (x:=2*(k:Int)) (by omega) (by omega),wrap64 (x:=2*(k:Int)+1) (by omega) (by omega)]
    refine aH (by kernel_rfl) ?_;simp only[PP,simprocAttr,O];refine QIf.intro (fun c=>?_) fun c=>?_
    · have u:k<8:=by omega
      have Q:(0:Int)<=k:=by omega
      have R:(k:Int)<8:=by omega
      have S:1+k+1<=9:=by omega
      have I:=aA (k:=k) (by show _<1000000000000;omega);simp only[PP,simprocAttr,PN,c,Q,R,S,tK,I];refine bZ (Z (k+1) (ver+1) (y.put k 0) ⟨by omega,J,?_⟩ (by omega)) (by simp only[PW]) rfl;show y.c.set k 0=_;rw[G];exact AZ (by rw[x.h];exact u)
    · have a0:k=p / 2:=by omega
      subst a0;simp only[PP,simprocAttr,PN,c,aA6 (show(2:Int)≠0 by decide),aGz];obtain⟨z1,z2⟩:=KK B ht Y (show p / 2<=8 by omega) J G;refine QIf.intro (fun d=>?_) fun d=>?_
      · have e0:p % 2=0:=by omega
        simp only[PP,simprocAttr,PN,d];exact V y z1 (by rw[z2,FG E,e0,Dz])
      · have e1:p % 2=1:=by omega
        simp only[PP,simprocAttr,PN,d,sF _ _ _ (show(2:Int)≠0 by decide),aA7 hp];refine nL (fun(k ver:Nat) (y:Ms)=>p / 2<=k/\k<=8/\y.top=Js/\y.c=Ae k 0++x.c.drop k/\EM (aY pr) x (p / 2) k)
          (fun k ver y=>(zj 5++ .ptr 1 0 0:: .ptr 2 0 0:: .ptr 3 0 0:: .aa::p64 k::zj 49))
          (fun k ver y=>[.cells 0 0 [slI f1 o1 .u8 ow,slI f2 o2 .i64 pr,slR f3 o3 f4 o4 .i64 su],.cells 0 ver (msC y),.cells 0 0 (msC mz),.cells 0 1 (lJ (aY pr))]) (fun k _ _=>8-k) (p / 2) ver y ⟨Ab _,by omega,J,G,fun i c n a b=>by omega⟩ ?_
        clear Z c O;intro k ver y ⟨U,a4,J,G,hf⟩ Z;refine aH (by kernel_rfl) ?_;simp only[PP,simprocAttr];refine QIf.intro (fun c=>?_) fun c=>?_
        · have u:k<8:=by omega
          have Q:(0:Int)<=k:=by omega
          have R:(k:Int)<8:=by omega
          have S:1+k+1<=9:=by omega
          have I:=aA (k:=k) (by show _<1000000000000;omega);obtain⟨a,ga⟩:=Ms.get (x:=x) u;have gy:y.c[k]? =Jp a:=by rw[G,aAl,ga]
          have L:=qW pr u;generalize pr.count ((2*k+1:Nat):Int)=n at L;have hn:=hlt n (Af L);have g1:=yD gy;have g2:=BK L;have a6:0<=a/\a<=n:=by have:=sN k B.1;rw[kF L,kF ga]at this;exact⟨this.1,this.2.1⟩
          have a3:IntKind.i64.wrap (a+1)=a+1:=wrap64 (by omega) (by omega);simp only[PP,simprocAttr,PN,c,Q,R,S,g1,g2];refine QIf.intro (fun e=>?_) fun e=>?_
          · simp only[PP,simprocAttr,PN,e,c,Q,R,S,g1,a3,tK];obtain⟨w1,w2⟩:=UM (y:=y.put k (a+1)) B ht Y U u hf ga L e J (by show y.c.set k (a+1)=_;rw[G];exact QJ _ (by rw[x.h];exact u));exact V _ w1 (by rw[w2,FG E,e1])
          · simp only[PP,simprocAttr,PN,e,Q,R,S,tK,I];refine bZ (Z (k+1) (ver+1) (y.put k 0) ⟨by omega,by omega,J,?_,fun i c m a1 a2 g5 g6=>?_⟩ (by omega)) (by simp only[PW]) rfl
            · show y.c.set k 0=_;rw[G];exact AZ (by rw[x.h];exact u)
            · by_cases ei:i=k
              · subst ei;rw[ga]at g5;rw[L]at g6;cases g5;cases g6;omega
              · exact hf i c m a1 (by omega) g5 g6
        · have u:k=8:=by omega
          subst u;simp only[PP,simprocAttr,PN];refine V qn (I7 Y) ?_;rw[M6,FG E,e1];exact KL B ht Y (by omega) hf
omit T in
def XN(x:Ms):dQ (msC x) 1 8=x.c.map (PV.int .i64):=by unfold dQ msC;rw[List.drop_succ_cons,Fl,Bo (by simp[x.h])]
omit T in
def aIJ{pr:List Int}{x:Ms}(h:∀(k:Nat) (c:Int),k<8->x.c[k]? =Jp c->0<=c/\c<=(pr.count ((2*k+1:Nat):Int):Nat)):mOk (aY pr) x.c:=
  aB3 (by rw[x.h,lZ]) fun u c n h1 h2=>by
    have y:u<8:=by have:=aF h1;rwa [x.h]at this
    rw[qW pr y]at h2;cases h2;exact h u c y h1
omit T in
def aBD{pr:List Int}{x:Ms}(h:x.Ok (aY pr)){k:Nat}{c:Int}(u:k<8)(g:x.c[k]? =Jp c):0<=c/\c<=(pr.count ((2*k+1:Nat):Int):Nat):=VB h.1 g (qW pr u)
omit T in
def aBP:qn.fit:=fun c u=>by have:=Ji (show c∈Ae 8 (0:Int)from u);omega
def aEc{G I J L f3 O Q R:Bool}{ow pr:List Int}{su:List (List Int)}{x:Ms}(hb:pr.length<1000000000000)
    (S:∀b:Bool,(b=Jr↔x.Ok (aY pr))->K (.bool b) M):
    au tab 269 [.cp (nM G I J L f3 O Q R ow pr su) 0,.agg (msC x)] M K:=by
  have h8:=lZ pr;have hlt:=BJ hb;have U:x.Ok (aY pr)->K (.bool Jr) M:=fun h=>S Jr ⟨fun _=>h,fun _=>rfl⟩;have Y:¬x.Ok (aY pr)->K (.bool Js) M:=fun h=>S Js ⟨fun q=>(by cases q),fun q=>absurd q h⟩;refine aB T.h269 (by simp only[PP,simprocAttr,PN,PV.under]) ?_;simp only[af269,PP,simprocAttr,PN,XN];refine fT (fun(k:Nat)=>k<=8/\∀(i:Nat) (c:Int),i<k->x.c[i]? =Jp c->0<=c/\c<=(pr.count ((2*i+1:Nat):Int):Nat))
    (fun k=>(.cp (nM G I J L f3 O Q R ow pr su) 0:: .aa:: .aa:: .ptr 0 0 0::zj 4++ .agg (x.c.map (PV.int .i64))::p64 k::zj 24))
    (fun k=>[.cells 0 0 (msC x)]) (fun k=>8-k) 0 ⟨by omega,fun i c h=>by omega⟩ ?_
  intro k ⟨a0,Z⟩ ih;refine aH (by kernel_rfl) ?_;simp only[PP,simprocAttr];refine QIf.intro (fun c=>?_) fun c=>?_
  · have u:k<8:=by omega
    have k0:(0:Int)<=k:=by omega
    have k8:(k:Int)<8:=by omega
    have V:=aA (k:=k) (by show _<1000000000000;omega);obtain⟨a,y⟩:=Ms.get (x:=x) u;have gn:=qW pr u;have g2:=UV (f1:=G) (o1:=I) (f2:=J) (o2:=L) (f3:=f3) (o3:=O) (f4:=Q) (o4:=R) (ow:=ow) (su:=su) gn;simp only[PP,simprocAttr,PN,c,k0,k8,y];refine QIf.intro (fun d=>?_) fun d=>?_
    · simp only[PP,simprocAttr,d];exact Y fun h=>by have:=aBD h u y;omega
    · simp only[PP,simprocAttr,PN,c,d,k0,k8,y,g2];refine QIf.intro (fun e=>?_) fun e=>?_
      · simp only[PP,simprocAttr,e];exact Y fun h=>by have:=aBD h u y;omega
      · simp only[PP,simprocAttr,e,V];refine aG (ih (k+1) ⟨by omega,fun i c' h1 h2=>?_⟩ (by omega));by_cases ei:i=k
        · subst ei;rw[y]at h2;cases h2;omega
        · exact Z i c' (by omega) h2
  · have u:k=8:=by omega
    subst u;have B:=aIJ Z
    cases ht:x.top with
    | false=>simp only[PP,simprocAttr,PN,ht];exact U ⟨B,fun h=>by rw[ht]at h;cases h⟩
    | true=>
      have E:x.fit:=Ms.Ok.fit (x:=⟨Js,x.c,x.h⟩) (ns:=aY pr) ⟨B,fun h=>by cases h⟩ hlt;simp only[PP,simprocAttr,PN,ht,U3 E aBP];refine S _ ?_;rw[decide_eq_true_eq];constructor
      · intro h;rw[h];exact I7 h8
      · intro h;exact Ms.ext' ht (h.2 ht)
end
def nx(p:Bool):Int->Int->List Int->Int
  | u,most,[]=>if p=Jr then(if u<0 then-1 else u+1)else most+1
  | u,most,r::y=>if r<0 then(if p=Jr then nx p u most y else-1)else nx p (if u<0 then r else if r<u then r else u) (max most r) y
section
variable {n:Nat} {P:Nat->Bool} {S:Nat->List Nat} {Z:Nat->Bool}
end
def Sf(su:List (List Int))(v:Nat):List Nat:=(su.getD v []).map Db
def aHc{ow pr:List Int}{su:List (List Int)}(V:Valid ow pr su){v:Nat}(hv:v<ow.length):su.getD v []≠[]/\(su.getD v []).Pairwise (· < ·)/\∀u∈su.getD v [],0<=u/\u<ow.length:=by
  have hs:=V.s;have y:v<su.length:=by omega
  obtain⟨_,_,_,h1,q⟩:=V.row v y;have e:su.getD v []=su[v]:=by simp[Bc,y]
  obtain⟨B,E⟩:=mM q;rw[e];exact⟨fun h=>by rw[h]at h1;simp at h1,B,fun u G=>by have:=E u G;omega⟩
def WC{ow pr:List Int}{su:List (List Int)}(V:Valid ow pr su){v:Nat}(hv:v<ow.length):Sf su v≠[]/\(∀u∈Sf su v,u<ow.length)/\(Sf su v).Nodup:=by
  obtain⟨h1,h2,h3⟩:=aHc V hv;refine⟨fun h=>h1 (List.map_eq_nil_iff.1 h),fun u y=>?_,?_⟩
  · obtain⟨w,hw,rfl⟩:=List.mem_map.1 y;have:=h3 w hw;omega
  · unfold Sf;refine List.pairwise_map.2 (List.Pairwise.imp_of_mem ?_ h2);intro a b B hb E e;have:=h3 a B;have:=h3 b hb;omega
end Go.Am.Ar
--P14
namespace Go.Am.Ar
open Go.Am.PV renaming aa->Zj
open Go.Am renaming jc->P1,lg->P2,kq->P3,ep->P4,bl.under->P5,fy->P6,dr->P7,bf->P8,pev->P9,iw->P10,bd->P11,jl->P12,dw->P13,fY->P14,AO.effect->P15
open List renaming replicate->L1
abbrev gO(ow:List Int):Nat->Int:=fun v=>ow.getD v 0
abbrev gL(ow pr:List Int)(su:List (List Int)):(Nat->Nat)->Nat->Nat:=lN (aY pr) (gO ow) (Sf su) (gO pr)
def Nf(u:List Nat)(y:List Ms)(v:Nat):Nat:=(y.getD v mz).num u
structure im (ns:List Nat) (n:Nat) (ms:List Ms):Prop where
  l:ms.length=n
  ok:∀x∈ms,x.Ok ns
def s9{u:List Nat}{y:List Ms}{v:Nat}{x:Ms}(h:y[v]? =Jp x):Nf u y v=x.num u:=by unfold Nf;simp[Bc,h]
def rU{ow pr:List Int}{su:List (List Int)}(V:Valid ow pr su):aGa pr:=⟨by rw[V.p];have:=V.n1;omega,fun x y=>by
  obtain⟨i,u⟩:=Dl y;have hl:=aF u;have:=V.row i (by rw[V.s,<-V.p];exact hl);rw[getD_some u]at this;exact⟨this.1,this.2.1⟩⟩
def sJ(x:Ms):(msC x).all PV.ni=Jr:=by simp[msC,PV.ni]
def kJ(l:List Ms):dQ (msL l) 0 (l.length*9)=msL l:=cN _ _ (mV l).symm
section
variable {tab:FuncId->Option AF} (T:HasA tab){M:Mem}{K:PV->Mem->Prop}
include T
def YK{f o:Bool}{u:List Ms}{G:List Nat}(h0:0<u.length)(hb:u.length<1000000000000)(I:∀x∈u,x.Ok G)
    (hk:∀y,y∈u->(∀z∈u,y.num G<=z.num G)->K (.agg (msC y)) M):
    au tab 220 [slM f o u,.func (.func 30) [] []] M K:=by
  refine aB T.h220 (by simp only[PP,P14,simprocAttr,PN,PV.under]) ?_;have n1:¬(u.length:Int)<1:=by omega
  have n2:(0:Int)<u.length:=by omega
  obtain⟨x0,R⟩:=aK (xs:=u) (k:=0) h0;have V:=jT R;have S:=t7 R;rw[Ei]at V S;rw[Bg]at S;simp only[af220,PP,P14,simprocAttr,PN,n1,n2,V,S];refine nL (fun(k ver:Nat) (y:Ms)=>1<=k/\k<=u.length/\y∈u/\∀(j:Nat) (z:Ms),j<k->u[j]? =Jp z->y.num G<=z.num G)
    (fun k ver y=>(slM f o u:: .func (.func 30) [] []:: .aa:: .aa:: .ptr 0 0 0:: .ptr 1 0 0::p64 k::zj 26))
    (fun k ver y=>[.cells 0 0 (msC mz),.cells 0 ver (msC y)]) (fun k _ _=>u.length-k) 1 1 x0 ⟨by omega,h0,Af R,fun j z J hz=>by
      have:j=0:=by omega
      subst this;rw[R]at hz;cases hz;exact Ab _⟩ ?_
  intro k ver y ⟨Y,a0,U,B⟩ Z;refine aH (by kernel_rfl) ?_;simp only[PP,P14,simprocAttr];refine QIf.intro (fun c=>?_) fun c=>?_
  · have E:k<u.length:=by omega
    have k0:(0:Int)<=k:=by omega
    have kn:(k:Int)<u.length:=by omega
    have L:=aA (k:=k) (by show _<1000000000000;omega);obtain⟨x,O⟩:=aK (xs:=u) (k:=k) E;have Q:=Af O;have p1:=jT O;have l1:=t7 O;simp only[PP,P14,simprocAttr,PN,c,k0,p1,l1];refine pW T ?_;rw[tQ (I x Q) (I y U)];simp only[PP,P14,simprocAttr,PN];refine QIf.intro (fun d=>?_) fun d=>?_
    · rw[wU]at d;simp only[PP,P14,simprocAttr,PN,c,k0,p1,l1,L];refine bZ (Z (k+1) (ver+1) x ⟨by omega,E,Q,fun j z J hz=>?_⟩ (by omega)) (by simp only[PW]) rfl;by_cases e:j=k
      · subst e;rw[O]at hz;cases hz;exact Ab _
      · have:=B j z (by omega) hz;omega
    · rw[wU]at d;simp only[PP,P14,simprocAttr,PN,L];refine aG (Z (k+1) ver y ⟨by omega,E,U,fun j z J hz=>?_⟩ (by omega));by_cases e:j=k
      · subst e;rw[O]at hz;cases hz;omega
      · exact B j z (by omega) hz
  · simp only[PP,P14,simprocAttr,PN,c];refine hk y U fun z hz=>?_;obtain⟨j,J⟩:=Dl hz;exact B j z (by have:=aF J;omega) J
def YN{f o:Bool}{u:List Ms}{G:List Nat}(h0:0<u.length)(hb:u.length<1000000000000)(I:∀x∈u,x.Ok G)
    (hk:∀y,y∈u->(∀z∈u,z.num G<=y.num G)->K (.agg (msC y)) M):
    au tab 221 [slM f o u,.func (.func 30) [] []] M K:=by
  refine aB T.h221 (by simp only[PP,P14,simprocAttr,PN,PV.under]) ?_;have n1:¬(u.length:Int)<1:=by omega
  have n2:(0:Int)<u.length:=by omega
  obtain⟨x0,R⟩:=aK (xs:=u) (k:=0) h0;have V:=jT R;have S:=t7 R;rw[Ei]at V S;rw[Bg]at S;simp only[af221,PP,P14,simprocAttr,PN,n1,n2,V,S];refine nL (fun(k ver:Nat) (y:Ms)=>1<=k/\k<=u.length/\y∈u/\∀(j:Nat) (z:Ms),j<k->u[j]? =Jp z->z.num G<=y.num G)
    (fun k ver y=>(slM f o u:: .func (.func 30) [] []:: .aa:: .aa:: .ptr 0 0 0:: .ptr 1 0 0::p64 k::zj 26))
    (fun k ver y=>[.cells 0 0 (msC mz),.cells 0 ver (msC y)]) (fun k _ _=>u.length-k) 1 1 x0 ⟨by omega,h0,Af R,fun j z J hz=>by
      have:j=0:=by omega
      subst this;rw[R]at hz;cases hz;exact Ab _⟩ ?_
  intro k ver y ⟨Y,a0,U,B⟩ Z;refine aH (by kernel_rfl) ?_;simp only[PP,P14,simprocAttr];refine QIf.intro (fun c=>?_) fun c=>?_
  · have E:k<u.length:=by omega
    have k0:(0:Int)<=k:=by omega
    have kn:(k:Int)<u.length:=by omega
    have L:=aA (k:=k) (by show _<1000000000000;omega);obtain⟨x,O⟩:=aK (xs:=u) (k:=k) E;have Q:=Af O;have p1:=jT O;have l1:=t7 O;simp only[PP,P14,simprocAttr,PN,c,k0,p1,l1];refine pW T ?_;rw[tQ (I x Q) (I y U)];simp only[PP,P14,simprocAttr,PN];refine QIf.intro (fun d=>?_) fun d=>?_
    · rw[mC]at d;simp only[PP,P14,simprocAttr,PN,c,k0,p1,l1,L];refine bZ (Z (k+1) (ver+1) x ⟨by omega,E,Q,fun j z J hz=>?_⟩ (by omega)) (by simp only[PW]) rfl;by_cases e:j=k
      · subst e;rw[O]at hz;cases hz;exact Ab _
      · have:=B j z (by omega) hz;omega
    · rw[mC]at d;simp only[PP,P14,simprocAttr,PN,L];refine aG (Z (k+1) ver y ⟨by omega,E,U,fun j z J hz=>?_⟩ (by omega));by_cases e:j=k
      · subst e;rw[O]at hz;cases hz;omega
      · exact B j z (by omega) hz
  · simp only[PP,P14,simprocAttr,PN,c];refine hk y U fun z hz=>?_;obtain⟨j,J⟩:=Dl hz;exact B j z (by have:=aF J;omega) J
def aCb{f1 o1 f2 o2 f3 o3 f4 o4 f o:Bool}{ow pr:List Int}{su:List (List Int)}{L:List Ms}{v:Nat}(V:Valid ow pr su)(B:Bnd ow pr su)(hm:im (aY pr) ow.length L)(hv:v<ow.length)
    (hk:∀y:Ms,y.Ok (aY pr)->y.num (aY pr)=gL ow pr su (Nf (aY pr) L) v->K (.agg (msC y)) M):
    au tab 190 [.cp (nM f1 o1 f2 o2 f3 o3 f4 o4 ow pr su) 0,slM f o L,p64 v] M K:=by
  have P:=rU V;have hp:=V.p;have hs:=V.s;have U:=hm.l;obtain⟨o',g1⟩:=aK (xs:=ow) (k:=v) hv;obtain⟨pv,g2⟩:=aK (xs:=pr) (k:=v) (by omega);obtain⟨row,g3⟩:=aK (xs:=su) (k:=v) (by omega);obtain⟨p0,p1⟩:=P.2 pv (Af g2);obtain⟨p,rfl⟩:∃p:Nat,pv=p:=⟨pv.toNat,by omega⟩;have Y:p<=16:=by omega
  have v0:(0:Int)<=v:=by omega
  have vn:(v:Int)<ow.length:=by omega
  have eO:gO ow v=o':=getD_some g1;have eR:gO pr v=p:=getD_some g2;have eS:Sf su v=row.map Db:=by unfold Sf;simp[Bc,g3]
  have Z:∀u∈row,0<=u/\u<ow.length:=fun u G=>K4 V hv (by simp[Bc,g3];exact G);have b0:row.length<1000000000000:=B.r row (Af g3);have b1:0<row.length:=by
    have:=(WC V hv).1;rw[eS]at this
    cases row with
    | nil=>exact absurd rfl this
    | cons x l=>simp
  refine aB T.h190 (by simp only[PP,P14,simprocAttr,PN,PV.under]) ?_;simp only[af190,PP,P14,simprocAttr,PN,v0,vn,hs,g3];refine cK (GStep.nil 7 9 rfl rfl rfl) ?_;refine C8 (fun(k g ver:Nat) (l:List Ms)=>k<=row.length/\l.length=k/\(∀x∈l,x.Ok (aY pr))/\∀(j:Nat) (u:Int) (x:Ms),row[j]? =Jp u->l[j]? =Jp x->x.num (aY pr)=vN (aY pr) p (Nf (aY pr) L u.toNat))
    (fun k g ver l=>(.cp (nM f1 o1 f2 o2 f3 o3 f4 o4 ow pr su) 0::slM f o L::p64 v::zj 3++ .ptr 0 0 0:: .ref 1 g 9 0 k::zj 9++slI f4 o4 .i64 row::p64 row.length::p64 k::zj 34))
    (fun k g ver l=>[.cells 0 0 (msC mz),.cells g ver (msL l)]) (fun k _ _ _=>row.length-k) 0 0 0 [] ⟨by omega,rfl,fun x hx=>(by cases hx),fun j u x _ h=>by simp at h⟩ ?_ (by simp only[PP,P14,simprocAttr,PW,Int.cast_ofNat_Int]) (by simp only[PP,P14,simprocAttr];rfl)
  intro k g ver l ⟨b2,hl,E,Q⟩ ih;refine aH (by kernel_rfl) ?_;simp only[PP,P14,simprocAttr];refine QIf.intro (fun c=>?_) fun c=>?_
  · have a4:k<row.length:=by omega
    have k0:(0:Int)<=k:=by omega
    have a5:=aA (k:=k) (by show _<1000000000000;omega);obtain⟨u,g4⟩:=aK (xs:=row) (k:=k) a4;obtain⟨u0,u1⟩:=Z u (Af g4);obtain⟨x,g5⟩:=aK (xs:=L) (k:=u.toNat) (by omega);have eN:Nf (aY pr) L u.toNat=x.num (aY pr):=s9 g5;have q1:=jT g5;have q2:=t7 g5;rw[U]at q2;simp only[PP,P14,simprocAttr,PN,c,k0,v0,vn,hp,g2,g4,u0,u1,U,q1,q2];refine aIv T P.1 Y (hm.ok x (Af g5)) fun y y1 y2=>?_;have a6:dQ (msL l) 0 (k*9)=msL l:=by rw[<-hl];exact kJ l
    have a7:(k+1)*72<=140737488355328:=by omega
    have c1:k+1<=9223372036854775807:=by omega
    have c9:k*9<=l.length*9:=by omega
    simp only[PP,P14,simprocAttr,PN,a6,a7,c1,c9,a5];refine bZ (ih (k+1) (g+1) 0 (l++[y]) ⟨by omega,by simp[hl],fun z hz=>?_,fun j w z h1 h2=>?_⟩ (by omega)) (by simp only[PW]) (by rw[aE2])
    · rcases List.mem_append.1 hz with h | h
      · exact E z h
      · rw[Ch]at h;subst h;exact y1
    · by_cases e:j=k
      · subst e;rw[g4]at h1;cases h1;rw[Bv (by omega),hl,Dr]at h2;cases h2;rw[y2,eN]
      · have R:j<l.length:=by have:=aF h2;simp at this;omega
        rw[Bm R]at h2;exact Q j w z h1 h2
  · have a9:k=row.length:=by omega
    subst a9;have a0:0<l.length:=by omega
    have a1:l.length<1000000000000:=by omega
    have a2:∀y∈l,∃u∈Sf su v,y.num (aY pr)=vN (aY pr) (gO pr v).toNat (Nf (aY pr) L u):=fun y J=>by obtain⟨j,R⟩:=Dl J;obtain⟨u,G⟩:=aK (xs:=row) (k:=j) (by have:=aF R;omega);refine⟨u.toNat,by rw[eS];exact List.mem_map.2 ⟨u,Af G,rfl⟩,?_⟩;rw[eR,Bq];exact Q j u y G R
    have O:∀u∈Sf su v,∃y∈l,y.num (aY pr)=vN (aY pr) (gO pr v).toNat (Nf (aY pr) L u):=fun u G=>by rw[eS]at G;obtain⟨w,hw,rfl⟩:=List.mem_map.1 G;obtain⟨j,R⟩:=Dl hw;obtain⟨y,J⟩:=aK (xs:=l) (k:=j) (by have:=aF R;omega);refine⟨y,Af J,?_⟩;rw[eR,Bq];exact Q j w y R J
    have a3:jf [.cells 0 0 (msC mz),.cells g ver (msL l)] [.ref 1 g 9 0 row.length,.func (.func 30) [] []] [slM Jr Js l,.func (.func 30) [] []]:=by rw[<-hl];exact .ref rfl (by rw[mV];omega) (gZ _ _) (kJ l) (.same rfl .nil)
    simp only[PP,P14,simprocAttr,PN,c,v0,vn,g1];refine QIf.intro (fun d=>?_) fun d=>?_
    · simp only[PP,P14,simprocAttr,PN,d];refine mE a3 (YK T a0 a1 E fun y J I=>⟨by simp only[PV.flat,PV.mw,sJ],?_⟩);simp only[PP,P14,simprocAttr,PN];refine hk y (E y J) ?_;unfold gL lN;rw[eO,if_pos d];refine UP (a2 y J) fun u G=>?_;obtain⟨z,hz,e⟩:=O u G;rw[<-e];exact I z hz
    · simp only[PP,P14,simprocAttr,PN,d];refine mE a3 (YN T a0 a1 E fun y J I=>⟨by simp only[PV.flat,PV.mw,sJ],?_⟩);simp only[PP,P14,simprocAttr,PN];refine hk y (E y J) ?_;unfold gL lN;rw[eO,if_neg d];refine UQ (a2 y J) fun u G=>?_;obtain⟨z,hz,e⟩:=O u G;rw[<-e];exact I z hz
omit T in
def Valid.O01{ow pr:List Int}{su:List (List Int)}(V:Valid ow pr su)(u:∀x∈ow,0<=x){v:Nat}{x:Int}(h:ow[v]? =Jp x):x=0\/x=1:=by have hv:=aF h;have h2:=(V.row v (by rw[V.s];exact hv)).2.2.1;rw[getD_some h]at h2;have:=u x (Af h);omega
def F5{f1 o1 f2 o2 f3 o3 f4 o4 f o:Bool}{ow pr:List Int}{su:List (List Int)}{G:List Ms}{v:Nat}(V:Valid ow pr su)(B:Bnd ow pr su)(ho:∀x∈ow,0<=x)(hm:im (aY pr) ow.length G)(hv:v<ow.length)
    (hk:∀y:Ms,y.Ok (aY pr)->y.num (aY pr)=gL ow pr su (Nf (aY pr) G) v->K (.agg (msC y)) M):
    au tab 105 [gmP f1 o1 f2 o2 f3 o3 f4 o4 ow pr su,slM f o G,p64 v] M K:=by
  have P:=rU V;have hp:=V.p;have hs:=V.s;have Q:=hm.l;obtain⟨R,S⟩:=aK (xs:=ow) (k:=v) hv;obtain⟨pv,g2⟩:=aK (xs:=pr) (k:=v) (by omega);obtain⟨row,U⟩:=aK (xs:=su) (k:=v) (by omega);obtain⟨p0,p1⟩:=P.2 pv (Af g2);obtain⟨p,rfl⟩:∃p:Nat,pv=p:=⟨pv.toNat,by omega⟩;have Y:p<=16:=by omega
  have Z:(0:Int)<=v:=by omega
  have vn:(v:Int)<ow.length:=by omega
  have eO:gO ow v=R:=getD_some S;have eR:gO pr v=p:=getD_some g2;have eS:Sf su v=row.map Db:=by unfold Sf;simp[Bc,U]
  have a1:=V.O01 ho S;have a0:∀u∈row,0<=u/\u<ow.length:=fun u hu=>K4 V hv (by simp[Bc,U];exact hu);have a5:row.length<1000000000000:=B.r row (Af U);have a2:0<row.length:=by
    have:=(WC V hv).1;rw[eS]at this
    cases row with
    | nil=>exact absurd rfl this
    | cons x l=>simp
  refine aB T.h105 (by simp only[PP,simprocAttr,PN,PV.under]) ?_;simp only[af105,PP,simprocAttr,PN];refine nL (fun(k ver:Nat) (y:Ms)=>k<=row.length/\(0<k->y.Ok (aY pr)/\(∃(j:Nat) (u:Int),row[j]? =Jp u/\y.num (aY pr)=vN (aY pr) p (Nf (aY pr) G u.toNat))/\∀(j:Nat) (u:Int),j<k->row[j]? =Jp u->if R=0 then y.num (aY pr)<=vN (aY pr) p (Nf (aY pr) G u.toNat)else vN (aY pr) p (Nf (aY pr) G u.toNat)<=y.num (aY pr)))
    (fun k ver y=>(.aa::slM f o G::p64 v:: .ptr 0 0 0:: .aa:: .aa:: .ptr 1 0 0:: .ptr 2 0 0::p64 k::zj 61))
    (fun k ver y=>[.cells 0 0 [slI f1 o1 .u8 ow,slI f2 o2 .i64 pr,slR f3 o3 f4 o4 .i64 su],.cells 0 0 (msC mz),.cells 0 ver (msC y)]) (fun k _ _=>row.length-k) 0 0 mz ⟨by omega,fun h=>by omega⟩ ?_
  intro k ver y ⟨a6,O⟩ ih;refine aH (by kernel_rfl) ?_;simp only[PP,simprocAttr,Z,vn,hs,U];refine QIf.intro (fun c=>?_) fun c=>?_
  · have a3:k<row.length:=by omega
    have k0:(0:Int)<=k:=by omega
    have I:=aA (k:=k) (by show _<1000000000000;omega);obtain⟨u,g4⟩:=aK (xs:=row) (k:=k) a3;obtain⟨u0,u1⟩:=a0 u (Af g4);obtain⟨x,g5⟩:=aK (xs:=G) (k:=u.toNat) (by omega);have eN:Nf (aY pr) G u.toNat=x.num (aY pr):=s9 g5;have q1:=jT g5;have q2:=t7 g5;rw[Q]at q2;simp only[PP,simprocAttr,PN,c,k0,Z,vn,hp,hs,g2,U,g4,u0,u1,Q,q1,q2];refine aHa T P Y (hm.ok x (Af g5)) fun z z1 z2=>?_;simp only[PP,simprocAttr,PN];refine CS T ?_;rw[<-eN]at z2;have take:(0<k->if R=0 then z.num (aY pr)<=y.num (aY pr)else y.num (aY pr)<=z.num (aY pr))->fL tab 0 _ _ _ _ _ _:=fun ht=>
      ih (k+1) (ver+1) z ⟨by omega,fun _=>⟨z1,⟨k,u,g4,z2⟩,fun j w hj hw=>by
        by_cases e:j=k
        · subst e;rw[g4]at hw;cases hw;rw[z2];split<;>exact Ab _
        · have h1:=(O (by omega)).2.2 j w (by omega) hw;have h2:=ht (by omega);split
          · rename_i J;rw[if_pos J]at h1 h2;omega
          · rename_i J;rw[if_neg J]at h1 h2;omega⟩⟩ (by omega)
    have fc:0<k->(if R=0 then y.num (aY pr)<=z.num (aY pr)else z.num (aY pr)<=y.num (aY pr))->fL tab 0 _ _ _ _ _ _:=fun E ht=>
      ih (k+1) ver y ⟨by omega,fun _=>⟨(O E).1,(O E).2.1,fun j w hj hw=>by
        by_cases e:j=k
        · subst e;rw[g4]at hw;cases hw;rw[<-z2];exact ht
        · exact(O E).2.2 j w (by omega) hw⟩⟩ (by omega)
    by_cases kz:(k:Int)=0
    · simp only[PP,simprocAttr,PN,eq_true kz,I];refine cK (GStep.drop (b:=(.aa::slM f o G::p64 v:: .ptr 0 0 0:: .aa:: .aa:: .ptr 1 0 0:: .ptr 2 0 0::p64 ((k+1:Nat):Int)::zj 61)) 3 (Au _) (by simp) (by simp only[PW]) (by simp only[PP,simprocAttr,PN]) (by simp only[PP,simprocAttr,PN]) rfl) ?_;exact bZ (take fun h=>by omega) (by simp only[PW]) rfl
    · have E:0<k:=by omega
      rw[tQ z1 (O E).1];rcases a1 with J | J
      · subst J;simp only[PP,simprocAttr,PN,kz,Z,vn,S];refine QIf.intro (fun d=>?_) fun d=>?_
        · have L:=d;rw[wU]at L;simp only[PP,simprocAttr,PN,d,I];refine cK (GStep.drop (b:=(.aa::slM f o G::p64 v:: .ptr 0 0 0:: .aa:: .aa:: .ptr 1 0 0:: .ptr 2 0 0::p64 ((k+1:Nat):Int)::zj 61)) 3 (Au _) (by simp) (by simp only[PW]) (by simp only[PP,simprocAttr,PN]) (by simp only[PP,simprocAttr,PN]) rfl) ?_;exact bZ (take fun h=>by rw[if_pos rfl];omega) (by simp only[PW]) rfl
        · have L:=d;rw[wU]at L;simp only[PP,simprocAttr,PN,d,Z,vn,S,show ¬(0:Int)=1 by decide,I];refine cK (GStep.drop (b:=(.aa::slM f o G::p64 v:: .ptr 0 0 0:: .aa:: .aa:: .ptr 1 0 0:: .ptr 2 0 0::p64 ((k+1:Nat):Int)::zj 61)) 3 (Au _) (by simp) (by simp only[PW]) (by simp only[PP,simprocAttr,PN]) (by simp only[PP,simprocAttr,PN]) rfl) ?_;exact bZ (fc E (by rw[if_pos rfl];omega)) (by simp only[PW]) rfl
      · subst J;simp only[PP,simprocAttr,PN,kz,Z,vn,S,show ¬(1:Int)=0 by decide];refine QIf.intro (fun d=>?_) fun d=>?_
        · have L:=d;rw[mC]at L;simp only[PP,simprocAttr,PN,d,I];refine cK (GStep.drop (b:=(.aa::slM f o G::p64 v:: .ptr 0 0 0:: .aa:: .aa:: .ptr 1 0 0:: .ptr 2 0 0::p64 ((k+1:Nat):Int)::zj 61)) 3 (Au _) (by simp) (by simp only[PW]) (by simp only[PP,simprocAttr,PN]) (by simp only[PP,simprocAttr,PN]) rfl) ?_;exact bZ (take fun h=>by rw[if_neg (by decide)];omega) (by simp only[PW]) rfl
        · have L:=d;rw[mC]at L;simp only[PP,simprocAttr,PN,d,I];refine cK (GStep.drop (b:=(.aa::slM f o G::p64 v:: .ptr 0 0 0:: .aa:: .aa:: .ptr 1 0 0:: .ptr 2 0 0::p64 ((k+1:Nat):Int)::zj 61)) 3 (Au _) (by simp) (by simp only[PW]) (by simp only[PP,simprocAttr,PN]) (by simp only[PP,simprocAttr,PN]) rfl) ?_;exact bZ (fc E (by rw[if_neg (by decide)];omega)) (by simp only[PW]) rfl
  · have a4:k=row.length:=by omega
    subst a4;obtain⟨y1,⟨j,u,hj,y2⟩,y3⟩:=O a2;simp only[PP,simprocAttr,PN,c];refine hk y y1 ?_;unfold gL lN;rw[eO,eR,eS,Bq];by_cases e:R=0
    · rw[if_pos e];refine UP ⟨u.toNat,List.mem_map.2 ⟨u,Af hj,rfl⟩,y2⟩ fun w hw=>?_;obtain⟨a,ha,rfl⟩:=List.mem_map.1 hw;obtain⟨i,hi⟩:=Dl ha;have:=y3 i a (aF hi) hi;rwa [if_pos e]at this
    · rw[if_neg e];refine UQ ⟨u.toNat,List.mem_map.2 ⟨u,Af hj,rfl⟩,y2⟩ fun w hw=>?_;obtain⟨a,ha,rfl⟩:=List.mem_map.1 hw;obtain⟨i,hi⟩:=Dl ha;have:=y3 i a (aF hi) hi;rwa [if_neg e]at this
def zH{R S U Y f3 Z f4 o4 f o:Bool}{ow pr:List Int}{su:List (List Int)}{u:List Ms}(V:Valid ow pr su)(B:Bnd ow pr su)(ho:∀x∈ow,0<=x)(hm:im (aY pr) ow.length u)
    (I:∀v:Nat,nj ow.length (gL ow pr su) (Nf (aY pr) u) v->K (p64 v) M) (J:rS ow.length (gL ow pr su) (Nf (aY pr) u)->K (p64 (-1)) M):
    au tab 104 [gmP R S U Y f3 Z f4 o4 ow pr su,slM f o u] M K:=by
  have y:=hm.l;have n1:=V.n1;refine aB T.h104 (by simp only[PP,simprocAttr,PN,PV.under]) ?_;simp only[af104,PP,simprocAttr,PN];refine fT (fun(k:Nat)=>k<=ow.length/\∀v,v<k->gL ow pr su (Nf (aY pr) u) v<=Nf (aY pr) u v)
    (fun k=>(.aa::slM f o u:: .ptr 0 0 0:: .aa:: .aa::p64 k::zj 17))
    (fun k=>[.cells 0 0 [slI R S .u8 ow,slI U Y .i64 pr,slR f3 Z f4 o4 .i64 su]]) (fun k=>ow.length-k) 0 ⟨by omega,fun v h=>by omega⟩ ?_
  intro k ⟨a0,L⟩ ih;refine aH (by kernel_rfl) ?_;simp only[PP,simprocAttr,y];refine QIf.intro (fun c=>?_) fun c=>?_
  · have E:k<ow.length:=by omega
    have k0:(0:Int)<=k:=by omega
    have kn:(k:Int)<ow.length:=by omega
    have O:=aA (k:=k) (by show _<1000000000000;omega);obtain⟨x,G⟩:=aK (xs:=u) (k:=k) (by omega);have eN:Nf (aY pr) u k=x.num (aY pr):=s9 G;have q1:=jT G;have q2:=t7 G;rw[y]at q2;simp only[PP,simprocAttr,PN,c];refine F5 T V B ho hm E fun z z1 z2=>?_;simp only[PP,simprocAttr,PN,k0,kn,y,q1,q2];refine CS T ?_;rw[tQ z1 (hm.ok x (Af G))];simp only[PP,simprocAttr,PN];refine QIf.intro (fun d=>?_) fun d=>?_
    · rw[mC]at d;simp only[PP,simprocAttr,PN];exact I k ⟨E,by rw[eN,<-z2];omega,L⟩
    · rw[mC]at d;simp only[PP,simprocAttr,PN,O];refine aG (ih (k+1) ⟨E,fun v hv=>?_⟩ (by omega));by_cases e:v=k
      · subst e;rw[eN,<-z2];omega
      · exact L v (by omega)
  · have Q:k=ow.length:=by omega
    subst Q;simp only[PP,simprocAttr,c];exact J L
end
def pf(ow pr:List Int)(su:List (List Int))(u:List Ms)(v:Int)(y:Ms)(e:Int):Prop:=
  (¬eF ow pr su=0/\y=mz/\e=eF ow pr su)\/(eF ow pr su=0/\¬u.length=ow.length/\y=mz/\e=2)\/(eF ow pr su=0/\u.length=ow.length/\¬(∀x∈u,x.Ok (aY pr))/\y=mz/\e=1)\/
  (eF ow pr su=0/\im (aY pr) ow.length u/\(v<0\/ow.length<=v)/\y=mz/\e=8)\/(eF ow pr su=0/\im (aY pr) ow.length u/\0<=v/\v<ow.length/\y.Ok (aY pr)/\y.num (aY pr)=gL ow pr su (Nf (aY pr) u) v.toNat/\e=0)
def pf.eq{ow pr:List Int}{su:List (List Int)}{Q:List Ms}{v:Int}{y R:Ms}{e S:Int}(h:pf ow pr su Q v y e)(T:pf ow pr su Q v R S):y=R/\e=S:=by
  rcases h with⟨I,u,E⟩ | ⟨I,u,E,K⟩ | ⟨I,u,E,K,M⟩ | ⟨I,u,E,K,M⟩ | ⟨I,u,E,K,M,U,V⟩<;>
  rcases T with⟨J,B,G⟩ | ⟨J,B,G,L⟩ | ⟨J,B,G,L,O⟩ | ⟨J,B,G,L,O⟩ | ⟨J,B,G,L,O,Y,Z⟩<;>
  first
    | (exact absurd I J)
    | (exact absurd J I)
    | (subst u;subst B;subst E;subst G;exact⟨rfl,rfl⟩)
    | (subst E;subst G;subst K;subst L;exact⟨rfl,rfl⟩)
    | (subst K;subst L;subst M;subst O;exact⟨rfl,rfl⟩)
    | (exact absurd B u)
    | (exact absurd u B)
    | (exact absurd B.l u)
    | (exact absurd u.l B)
    | (exact absurd B.ok E)
    | (exact absurd u.ok G)
    | (exfalso;omega)
    | exact⟨Ms.inj M O (U.trans Y.symm),V.trans Z.symm⟩
section
variable {tab:FuncId->Option AF} (T:HasA tab){M:Mem}{K:PV->Mem->Prop}
include T
def SH{f o:Bool}{u:List Ms}{fn:FuncId}{B:List PV}(p:Ms->Bool)(hb:u.length<1000000000000)
    (hf:∀x∈u,∀L:PV->Mem->Prop,L (.bool (p x)) M->au tab fn (.agg (msC x)::B) M L) (O:∀i:Int,(0<=i↔∃x∈u,p x=Jr)->K (p64 i) M):
    au tab 270 [slM f o u,.func (.func fn) [] B] M K:=by
  refine aV T.h270 ?_;simp only[af270,PP,simprocAttr];refine fT (fun(k:Nat)=>k<=u.length/\∀(j:Nat) (x:Ms),j<k->u[j]? =Jp x->p x=Js) (fun k=>(slM f o u:: .func (.func fn) [] B::zj 5++p64 u.length::p64 k::zj 10)) (fun k=>M) (fun k=>u.length-k) 0 ⟨by omega,fun j x h=>by omega⟩ ?_;intro k ⟨S,Q⟩ U;refine aH (by kernel_rfl) ?_;simp only[PP,simprocAttr];refine QIf.intro (fun c=>?_) fun c=>?_
  · have E:k<u.length:=by omega
    have h0:(0:Int)<=k:=by omega
    have hw:=aA (k:=k) (by show _<1000000000000;omega);obtain⟨x,e⟩:=aK E;have V:=jT e;have Y:=t7 e;simp only[PP,simprocAttr,PN,c,h0,V,Y];refine hf x (Af e) _ ?_
    cases R:p x with
    | true=>simp only[PP,simprocAttr];exact O k ⟨fun _=>⟨x,Af e,R⟩,fun _=>h0⟩
    | false=>
      simp only[PP,simprocAttr,hw];refine aG (U (k+1) ⟨by omega,fun j y G I=>?_⟩ (by omega));by_cases Z:j=k
      · subst Z;rw[e]at I;cases I;exact R
      · exact Q j y (by omega) I
  · have J:k=u.length:=by omega
    subst J;simp only[PP,simprocAttr,c];refine O (-1) ⟨fun h=>absurd h (by decide),fun⟨x,hx,h⟩=>?_⟩;obtain⟨j,G⟩:=Dl hx;rw[Q j x (aF G) G]at h;cases h
open Classical in
def aIq{Y Z f2 o2 f3 o3 f4 o4 f o:Bool}{ow pr:List Int}{su:List (List Int)}{E:List Ms}{v:Int}(B:Bnd ow pr su)(hb:E.length<1000000000000)
    (G:∀y e,pf ow pr su E v y e->K (.tuple [.agg (msC y),p64 e]) M):
    au tab 266 [gmP Y Z f2 o2 f3 o3 f4 o4 ow pr su,slM f o E,p64 v] M K:=by
  refine aB T.h266 (by simp only[PP,simprocAttr,PN,PV.under]) ?_;simp only[af266,PP,simprocAttr,PN];refine JU T B ?_;simp only[PP,simprocAttr];refine QIf.intro (fun u=>?_) fun u=>?_;rotate_left
  · simp only[PP,simprocAttr,PN,u];exact G mz _ (.inl ⟨u,rfl,rfl⟩)
  have V:=jB u;have P:=rU V;simp only[PP,simprocAttr,PN,u];refine zP T P ?_;simp only[PP,simprocAttr,PN];refine QIf.intro (fun L=>?_) fun L=>?_;rotate_left
  · simp only[PP,simprocAttr,PN,L];exact G mz 2 (.inr (.inl ⟨u,fun h=>L (by omega),rfl,rfl⟩))
  have hl:E.length=ow.length:=by omega
  simp only[PP,simprocAttr,PN,L];refine aV T.h267 ?_;simp only[af267,PP,simprocAttr,PN];refine SH T (fun x=>decide ¬x.Ok (aY pr)) hb (fun x O K' U=>?_) fun i hi=>?_
  · refine PJ ?_;refine aV T.h268 ?_;simp only[af268,PP,simprocAttr,PN];refine aEc T P.1 fun b hb=>?_;simp only[PP,simprocAttr,PN];refine⟨_,_,rfl,tH (by simp only[List.take_succ_cons,List.take_zero,Cv,Fv,aI,b9,cM,jG,lG,jW,pE,BI,PV.under,vU,Bz]),?_⟩;have e:(!b)=decide (¬x.Ok (aY pr)):=by
      cases b with
      | true=>have h:=hb.1 rfl;simp[h]
      | false => have h : ¬ x.Ok (aY pr) := fun q => (by have := hb.2 q; cases this)
                 simp [h]
    rw[e];exact U
  · simp only[PP,simprocAttr,PN];have I:0<=i↔¬∀x∈E,x.Ok (aY pr):=by
      rw[hi];constructor
      · rintro⟨x,O,h⟩ q;exact(of_decide_eq_true h) (q x O)
      · intro q;apply Cd;intro h;exact q fun x O=>Cd fun h2=>h ⟨x,O,decide_eq_true h2⟩
    refine QIf.intro (fun J=>?_) fun J=>?_
    · simp only[PP,simprocAttr,PN,J];exact G mz 1 (.inr (.inr (.inl ⟨u,hl,I.1 J,rfl,rfl⟩)))
    have S:im (aY pr) ow.length E:=⟨hl,Cd fun h=>J (I.2 h)⟩;simp only[PP,simprocAttr,PN,J];refine QIf.intro (fun Q=>?_) fun Q=>?_
    · simp only[PP,simprocAttr,PN,Q];exact G mz 8 (.inr (.inr (.inr (.inl ⟨u,S,.inl Q,rfl,rfl⟩))))
    simp only[PP,simprocAttr,PN,Q,hl];refine QIf.intro (fun R=>?_) fun R=>?_
    · simp only[PP,simprocAttr,PN,R];exact G mz 8 (.inr (.inr (.inr (.inl ⟨u,S,.inr R,rfl,rfl⟩))))
    obtain⟨w,rfl⟩:∃w:Nat,v=w:=⟨v.toNat,by omega⟩;simp only[PP,simprocAttr,PN,R];refine aCb T V B S (by omega) fun y y1 y2=>?_;simp only[PP,simprocAttr,PN];exact G y 0 (.inr (.inr (.inr (.inr ⟨u,S,by omega,by omega,y1,y2,rfl⟩))))
end
def TQ{u:FuncId->Option AF}(id:Nat)(first args:List PV)(M:Mem)(K:PV->Mem->Prop):EJ u (.yld id first) args M K=((∃ver r,M[id]? =Jp (.loop ver r))/\TJ u id (first++args) M K):=rfl
def aCt{α:Type}(M:List α)(x:α):(M++[x])[M.length]? =Jp x:=by simp
def aG5{α:Type}(M:List α)(x y:α):(M++[x]).set M.length y=M++[y]:=by simp
def fM{α:Type}{M:List α}{i:Nat}{a:α}(h:M[i]? =Jp a)(l:List α):(M++l)[i]? =Jp a:=by rw[Bm (aF h)];exact h
section
variable {tab:FuncId->Option AF} (T:HasA tab){M:Mem}{K:PV->Mem->Prop}
include T
def aFz{f1 o1 f2 o2 f3 o3 f4 o4:Bool}{ow pr:List Int}{su:List (List Int)}{L U Y i:Nat}(V:Valid ow pr su)(B:Bnd ow pr su)(J:Nat->List Ms->Mem->Prop)(D:Mem->Prop){ms0:List Ms}(h0:J 0 ms0 M)
    (hid:∀k u N,J k u N->im (aY pr) ow.length u/\N[Y]? =Jp (.cells 0 0 [.ref i 0 9 0 ow.length])/\N[U]? =Jp (.cells 0 0 [.cp (nM f1 o1 f2 o2 f3 o3 f4 o4 ow pr su) 0])/\(∃ver,N[i]? =Jp (.cells 0 ver (msL u)))/\∃ver r,N[L]? =Jp (.loop ver r))
    (G:∀k u N o,J k u N->k<ow.length->gL ow pr su (Nf (aY pr) u) k<=Nf (aY pr) u k->J (k+1) u (N++[o]))
    (hy:∀k u N y,J k u N->k<ow.length->y.Ok (aY pr)->y.num (aY pr)=gL ow pr su (Nf (aY pr) u) k->Nf (aY pr) u k<gL ow pr su (Nf (aY pr) u) k->∀Z:PV->Mem->Prop,(∀I E,J (k+1) I E->Z (.bool Jr) E)->(∀E,D E->Z (.bool Js) E)->TJ tab L [p64 k,.agg (msC y)] (N++[.cells 0 1 (msC y)]) Z)
    (a0:∀u N,J ow.length u N->K (.tuple []) N) (a1:∀N,D N->K (.tuple []) N):
    au tab 189 [.yld L [],.ptr Y 0 0,.ptr U 0 0] M K:=by
  have n1:=V.n1;refine aV T.h189 ?_;obtain⟨_,p1,_,⟨_,p3⟩,_⟩:=hid 0 ms0 M h0;simp only[af189,PP,simprocAttr,PN,p1,p3];refine nL (fun(k:Nat) (u:List Ms) (N:Mem)=>k<=ow.length/\J k u N) (fun k u N=>(.yld L []:: .ptr Y 0 0:: .ptr U 0 0::zj 4++p64 ow.length::p64 k::zj 21)) (fun k u N=>N) (fun k _ _=>ow.length-k) 0 ms0 M ⟨by omega,h0⟩ ?_;intro k u N ⟨a6,R⟩ ih;obtain⟨hm,q1,q2,⟨ver,q3⟩,q4⟩:=hid k u N R;have a2:=hm.l;refine aH (by kernel_rfl) ?_;simp only[PP,simprocAttr];refine QIf.intro (fun c=>?_) fun c=>?_
  · have O:k<ow.length:=by omega
    have k0:(0:Int)<=k:=by omega
    have kn:(k:Int)<ow.length:=by omega
    have Q:=aA (k:=k) (by show _<1000000000000;omega);obtain⟨x,S⟩:=aK (xs:=u) (k:=k) (by omega);have eN:Nf (aY pr) u k=x.num (aY pr):=s9 S;have hx:=hm.ok x (Af S);have r1:=jT S;have r2:=t7 S;have a3:jf N [.cp (nM f1 o1 f2 o2 f3 o3 f4 o4 ow pr su) 0,.ref i 0 9 0 ow.length,p64 k] [.cp (nM f1 o1 f2 o2 f3 o3 f4 o4 ow pr su) 0,slM Jr Js u,p64 k]:=by
      refine .same (by simp only[PV.under];exact vU _) ?_;rw[<-a2];exact .ref q3 (by rw[mV];omega) (gZ _ _) (by rw[kJ]) (.same rfl .nil)
    simp only[PP,simprocAttr,PN,c,q1,q2];refine mE a3 (aCb T V B hm O fun y y1 y2=>⟨by simp only[PV.flat,PV.mw,sJ],?_⟩);simp only[PP,simprocAttr,PN,aCt,aG5,fM q1,fM q3,k0,kn,r1,r2];refine pW T ?_;rw[tQ y1 hx];simp only[PP,simprocAttr,PN];refine QIf.intro (fun d=>?_) fun d=>?_
    · have d':=d;rw[mC]at d';simp only[PP,simprocAttr,PN,d,aCt,TQ];refine⟨⟨_,_,fM q4.choose_spec.choose_spec _⟩,hy k u N y R O y1 y2 (by rw[eN];have:=y2;omega) _ (fun I E a4=>?_) fun E hD=>?_⟩
      · simp only[PP,simprocAttr,Q];exact aG (ih (k+1) I E ⟨by omega,a4⟩ (by omega))
      · simp only[PP,simprocAttr];exact a1 E hD
    · have d':=d;rw[mC]at d';simp only[PP,simprocAttr,PN,d,Q];exact aG (ih (k+1) u _ ⟨by omega,G k u N _ R O (by rw[eN];have:=y2;omega)⟩ (by omega))
  · have a5:k=ow.length:=by omega
    subst a5;simp only[PP,simprocAttr,c];exact a0 u N R
end
section
variable {α:Type} (M:List α) (x y:α) (l:List α) (i j:Nat)
def E0:(M++l)[M.length+j]? =l[j]? :=by rw[Bv (by omega)];congr 1;omega
def OC:(M++l)[M.length]? =l[0]? :=by rw[Bv (by omega)];congr 1;omega
def pg:(M++l).set (M.length+j) y=M++l.set j y:=by rw[Dn _ _ (by omega)];congr 2;omega
def aAQ:(M++l).set M.length y=M++l.set 0 y:=by rw[Dn _ _ (by omega)];congr 2;omega
def aFf:(M.set i x++l)[M.length+j]? =l[j]? :=by rw[Bv (by simp)];congr 1;simp
def aGC:(M.set i x++l)[M.length]? =l[0]? :=by rw[Bv (by simp)];congr 1;simp
def aG3:(M.set i x++l).set (M.length+j) y=M.set i x++l.set j y:=by rw[Dn _ _ (by simp)];congr 2;simp
def aGv:(M.set i x++l).set M.length y=M.set i x++l.set 0 y:=by rw[Dn _ _ (by simp)];congr 2;simp
def aEo{M:List α}{i:Nat}{a:α}(h:M[i]? =Jp a)(l:List α)(x:α):(M++l).set i x=M.set i x++l:=by rw[List.set_append_left _ _ (aF h)]
end
def aFn{n i:Nat}{M:Mem}{x:bl}(h:M.all (aI n)=Jr)(u:aI n x=Jr):(M.set i x).all (aI n)=Jr:=by
  rw[Cb]at h ⊢;intro y B;rcases Hk B with q | q
  · exact h y q
  · subst q;exact u
section
variable {tab:FuncId->Option AF} (T:HasA tab){M:Mem}{K:PV->Mem->Prop}
include T
def aAD{O Q R S f3 U Y Z:Bool}{ow pr:List Int}{su:List (List Int)}{I:List Ms}{i ver:Nat}(V:Valid ow pr su)(B:Bnd ow pr su)(hm:im (aY pr) ow.length I)
    (hi:M[i]? =Jp (.cells 0 ver (msL I))) (hc:M.all (aI M.length)=Jr)
    (a2:∀v y,nj ow.length (gL ow pr su) (Nf (aY pr) I) v->y.Ok (aY pr)->y.num (aY pr)=gL ow pr su (Nf (aY pr) I) v->K (.bool Jr) (M.set i (.cells 0 (ver+1) (msL (I.set v y)))))
    (a3:rS ow.length (gL ow pr su) (Nf (aY pr) I)->K (.bool Js) M):
    au tab 191 [.cp (nM O Q R S f3 U Y Z ow pr su) 0,.ref i 0 9 0 ow.length] M K:=by
  have a4:=hm.l;have a7:=aF hi;have J:=fun l=>fM hi l;have a0:=fun l x=>aEo hi l x;refine PJ ?_;refine aV T.h191 ?_;simp only[af191,PP,simprocAttr,PN,Ac,E0,OC];refine aV T.h152 ?_;simp only[af152,PP,simprocAttr,PN,Ac,E0,OC];refine sW rfl fun L h1 h2 h3 h4 h5 h6=>?_;simp only[PP,simprocAttr,PN,Ac];refine aFz T (f1:=O) (o1:=Q) (f2:=R) (o2:=S) (f3:=f3) (o3:=U) (f4:=Y) (o4:=Z) V B (fun k E N=>E=I/\(∀u,u<k->gL ow pr su (Nf (aY pr) I) u<=Nf (aY pr) I u)/\∃G,N=M++(.cells 0 0 [.ref i 0 9 0 ow.length]:: .cells 0 0 [.bool Js]:: .cells 0 0 [.cp (nM O Q R S f3 U Y Z ow pr su) 0]:: .cells 0 0 [.ref i 0 9 0 ow.length]:: .loop 0 L::G))
    (fun N=>∃v y G vb vl,nj ow.length (gL ow pr su) (Nf (aY pr) I) v/\y.Ok (aY pr)/\y.num (aY pr)=gL ow pr su (Nf (aY pr) I) v/\N=M.set i (.cells 0 (ver+1) (msL (I.set v y)))++(.cells 0 0 [.ref i 0 9 0 ow.length]:: .cells 0 vb [.bool Jr]:: .cells 0 0 [.cp (nM O Q R S f3 U Y Z ow pr su) 0]:: .cells 0 0 [.ref i 0 9 0 ow.length]:: .loop vl {L with state:= .done,pending:=Jp .ret} ::G))
    (i:=i) (ms0:=I) ⟨rfl,fun u h=>by omega,[],rfl⟩ ?_ ?_ ?_ ?_ ?_
  · rintro k E N ⟨rfl,_,G,rfl⟩;exact⟨hm,by rw[E0];rfl,by rw[E0];rfl,⟨ver,J _⟩,⟨0,L,by rw[E0];rfl⟩⟩
  · rintro k E N o ⟨rfl,q,G,rfl⟩ hk a5;refine⟨rfl,fun u hu=>?_,G++[o],by simp only[Ac,Ai]⟩;by_cases e:u=k
    · subst e;exact a5
    · exact q u (by omega)
  · rintro k E N y ⟨rfl,q,G,rfl⟩ hk y1 y2 y3 K' b0 a6;have k0:(0:Int)<=k:=by omega
    have kn:(k:Int)<ow.length:=by omega
    have kl:k<E.length:=by omega
    have k9:k*9+9<=ow.length*9:=by omega
    have a1:=xX (l:=E) y kl;simp only[Ac,Ai];refine EE (ver:=0) (r:=L) (by rw[E0];rfl) (by rw[h4];rfl) ?_;rw[h3,h4,h5];refine aC ?_;simp only[oQ,PP,simprocAttr,PN,Ac,E0,OC,pg,aAQ];refine⟨0,L,rfl,h1,?_⟩;rw[h6];refine aC ?_;simp only[PP,simprocAttr,PN,Ac,E0,OC,pg,aAQ,aFf,aGC,aG3,aGv,J,a0,k0,kn,k9,a4,a1];refine⟨1,{L with state:= .busy},by rw[aFf];simp only[Bl,Cg,h6],?_⟩;rw[if_neg (by intro h;cases h)];refine a6 _ ⟨k,y,G++[.cells 0 1 (msC y),.cells 0 1 (msC y)],1,2,⟨hk,y3,q⟩,y1,y2,?_⟩;simp only[aG3,List.set_cons_succ,Dc,h6]
  · rintro E N ⟨rfl,q,G,rfl⟩;refine⟨0,L,by rw[E0];rfl,by rw[h1];exact(by intro h;cases h),?_⟩;rw[h2];simp only[PP,simprocAttr,PN,Ac,E0,OC,pg,aAQ];refine⟨_,M,rfl,?_,a3 q⟩;rw[Bj rfl];exact tH hc
  · rintro N ⟨v,y,G,vb,vl,q1,q2,q3,rfl⟩;refine⟨vl,{L with state:= .done,pending:=Jp .ret},by rw[aFf];rfl,(by intro h;cases h),?_⟩;simp only[PP,simprocAttr,PN,Ac,aFf,aGC,aG3,aGv];refine⟨_,M.set i (.cells 0 (ver+1) (msL (I.set v y))),rfl,?_,a2 v y q1 q2 q3⟩;rw[Bj (by simp)];exact tH (aFn hc (gZ _ _))
end
def T5{u:List Nat}{B:List Ms}{k:Nat}{y:Ms}(E:k<B.length):Nf u (B.set k y)=oY (Nf u B) k (y.num u):=by
  funext v;unfold Nf oY;simp only[Bc];by_cases e:v=k
  · subst e;rw[Ck E,if_pos rfl];rfl
  · rw[Bt (by omega),if_neg e]
def WI(u:List Nat)(n:Nat):Nf u (Ae n mz)=fun _=>0:=by
  funext v;unfold Nf;rw[Bc,List.getElem?_replicate];split
  · exact aBO
  · exact aBO
def im.set{ns:List Nat}{n k:Nat}{ms:List Ms}{y:Ms}(h:im ns n ms)(u:y.Ok ns):im ns n (ms.set k y):=
  ⟨by rw[List.length_set];exact h.l,fun x B=>by
    rcases Hk B with q | q
    · exact h.ok x q
    · subst q;exact u⟩
def im.zero{ns:List Nat}(u:ns.length=8)(n:Nat):im ns n (Ae n mz):=⟨by simp,fun x y=>by rw[Ji y];exact aIN u⟩
def im.bnd{ns:List Nat}{n:Nat}{ms:List Ms}(h:im ns n ms):∀v,v<n->Nf ns ms v<=mT ns:=fun v hv=>by obtain⟨x,g⟩:=aK (xs:=ms) (k:=v) (by rw[h.l];exact hv);rw[s9 g];exact Ms.qu (h.ok x (Af g))
def im.eq{ns:List Nat}{n:Nat}{a b:List Ms}(u:im ns n a)(hb:im ns n b)(h:∀v,v<n->Nf ns a v=Nf ns b v):a=b:=by
  apply Em;intro v;by_cases hv:v<n
  · obtain⟨x,B⟩:=aK (xs:=a) (k:=v) (by rw[u.l];exact hv);obtain⟨y,E⟩:=aK (xs:=b) (k:=v) (by rw[hb.l];exact hv);have:=h v hv;rw[s9 B,s9 E]at this;rw[B,E,Ms.inj (u.ok x (Af B)) (hb.ok y (Af E)) this]
  · rw[Bu (by rw[u.l];omega),Bu (by rw[hb.l];omega)]
def tC{ow pr:List Int}{su:List (List Int)}(V:Valid ow pr su):Lft ow.length (mT (aY pr)) (gL ow pr su):=aHB fun v hv=>⟨(WC V hv).1,(WC V hv).2.1⟩
section
variable {tab:FuncId->Option AF} (T:HasA tab){M:Mem}{K:PV->Mem->Prop}
include T
end
end Go.Am.Ar
--P14
namespace Go.Am.Ar
open Go.Am.PV renaming aa->Zj
open Go.Am renaming jc->P1,lg->P2,kq->P3,ep->P4,bl.under->P5,fy->P6,dr->P7,bf->P8,pev->P9,iw->P10,bd->P11,jl->P12,dw->P13,fY->P14,AO.effect->P15
open List renaming replicate->L1
def vD(ow pr:List Int)(su:List (List Int))(k:Int)(u:List Ms)(b:Bool)(e:Int):Prop:=
  (¬eF ow pr su=0/\u=[]/\b=Js/\e=eF ow pr su)\/(eF ow pr su=0/\k<0/\u=[]/\b=Js/\e=1)\/
  (eF ow pr su=0/\0<=k/\im (aY pr) ow.length u/\Nf (aY pr) u=itN ow.length (gL ow pr su) k.toNat/\(b=Jr↔rS ow.length (gL ow pr su) (Nf (aY pr) u))/\e=0)
def OD{g v n:Nat}{u:List Ms}(h:u.length=n):uO (Jp (.cells g v (msL u))) g 9 0 n=Jp (slM Js Jr u):=by subst h;rw[gT (by rw[mV];omega) (gZ _ _),kJ]
section
variable {tab:FuncId->Option AF} (T:HasA tab){M:Mem}{K:PV->Mem->Prop}
include T
end
end Go.Am.Ar
--P14
namespace Go.Am.Ar
open Go.Am.PV renaming aa->Zj
open Go.Am renaming jc->P1,lg->P2,kq->P3,ep->P4,bl.under->P5,fy->P6,dr->P7,bf->P8,pev->P9,iw->P10,bd->P11,jl->P12,dw->P13,fY->P14,AO.effect->P15
open List renaming replicate->L1
section
variable {tab:FuncId->Option AF} (T:HasA tab){M:Mem}{K:PV->Mem->Prop}
include T
def aC7{K:PV->Mem->Prop}{I J L O f3 Q R S:Bool}{ow pr:List Int}{su:List (List Int)}{n:Int}(B:Bnd ow pr su)(hn:n<=9223372036854775807)
    (Y:eF ow pr su=0) (c2:¬n<0)
    (hk:∀u b v X,vD ow pr su n u b 0->K (.tuple [.ref 1 0 9 0 ow.length,.bool b,p64 0]) [X,.cells 0 v (msL u)]):
    au tab 159 [gmP I J L O f3 Q R S ow pr su,p64 n] [] K:=by
  refine iG (jV T.h159 ?_);simp only[af159];refine aE (aC ?_);simp only[PP,P14,simprocAttr];refine aE (aC ?_);simp only[PP,P14,simprocAttr];refine JU T B ?_;simp only[PP,P14,simprocAttr];refine QIf.intro (fun Z=>?_) fun Z=>?_;rotate_left
  · exact absurd Y Z
  have V:=jB Y;have n0:=V.n0;have n1:=V.n1;have hL:=tC V;have b0:(0:Int)<=ow.length:=by omega
  have a1:(ow.length:Int)*72<=140737488355328:=by omega
  have b2:(ow.length:Int)<=9223372036854775807:=by omega
  simp only[PP,P14,simprocAttr,PN,Y];refine aE (aC ?_);simp only[PP,P14,simprocAttr,PN];refine QIf.intro (fun G=>?_) fun G=>?_
  · exact absurd G c2
  simp only[PP,P14,simprocAttr,PN,c2];refine aE (aC ?_);simp only[PP,P14,simprocAttr,PN];refine zP T (rU V) ?_;simp only[PP,P14,simprocAttr,PN];refine aE (aC ?_);simp only[PP,P14,simprocAttr,PN,b0,a1,b2,Dw];refine aE (qB (Qn:=fun b N=>∃ver u,im (aY pr) ow.length u/\Nf (aY pr) u=itN ow.length (gL ow pr su) n.toNat/\db b (zj 4++ .ref 1 0 9 0 ow.length::zj 3++ .cp (nM I J L O f3 Q R S ow pr su) 0::zj 27)/\N=[.cells 0 0 [slI I J .u8 ow,slI L O .i64 pr,slR f3 Q R S .i64 su],.cells 0 ver (msL u)]) ?_ ?_ (fun _ _ h=>h) fun _ _ _ h=>h)
  · refine aE (aC ?_);simp only[PP,P14,simprocAttr,PN];refine sX ?_;have k0:0<=n:=by omega
    refine nL (fun(j ver:Nat) (u:List Ms)=>(j:Int)<=n/\im (aY pr) ow.length u/\Nf (aY pr) u=itN ow.length (gL ow pr su) j)
      (fun j ver u=>(zj 4++ .ref 1 0 9 0 ow.length::zj 3++ .cp (nM I J L O f3 Q R S ow pr su) 0::zj 13++p64 n::p64 j::zj 12))
      (fun j ver u=>[.cells 0 0 [slI I J .u8 ow,slI L O .i64 pr,slR f3 Q R S .i64 su],.cells 0 ver (msL u)]) (fun j _ _=>n.toNat-j) 0 0 (Ae ow.length mz) ⟨k0,im.zero (lZ pr) _,WI _ _⟩ ?_
    intro j ver u ⟨a7,E,U⟩ ih;refine aH (by kernel_rfl) ?_;simp only[PP,P14,simprocAttr];refine QIf.intro (fun c=>?_) fun c=>?_
    · have a2:IntKind.i64.wrap ((j:Int)+1)=((j+1:Nat):Int):=by rw[wrap64 (x:=(j:Int)+1) (by omega) (by omega)];omega
      simp only[PP,P14,simprocAttr,c];refine aAD T V B E rfl (by simp only[Cv,Fv,aI,b9,cM,jG,lG,jW,pE,gZ,Bz]) (fun v y q1 q2 q3=>?_) fun q=>?_
      · have hv:v<u.length:=by rw[E.l];exact q1.1
        simp only[PP,P14,simprocAttr,PN,a2];refine aG (ih (j+1) (ver+1) (u.set v y) ⟨by omega,E.set q2,?_⟩ (by omega));show _=uF ow.length (gL ow pr su) (itN ow.length (gL ow pr su) j);rw[T5 hv,q3,U,qK (by rw[<-U];exact q1)]
      · simp only[PP,P14,simprocAttr,PN];refine⟨ver,u,E,?_,(by simp only[PW]),rfl⟩;rw[U]at q ⊢;obtain⟨d,hd⟩:∃d,n.toNat=j+d:=⟨n.toNat-j,by omega⟩;rw[hd,JG q]
    · have a3:n=(j:Int):=by omega
      subst a3;simp only[PP,P14,simprocAttr,c];exact⟨ver,u,E,U,(by simp only[PW]),rfl⟩
  · rintro b N ⟨ver,u,E,U,hw,rfl⟩;refine aG ?_ hw;refine aC ?_;simp only[PP,P14,simprocAttr,PN];refine aV T.h60 ?_;have a4:¬ow.length=0:=by omega
    have a5:ow.length*72<=140737488355328:=by omega
    have G:ow.length<=9223372036854775807:=by omega
    have a6:dQ (msL u) 0 (ow.length*9)=msL u:=by rw[<-E.l];exact kJ u
    have a0:ow.length*9<=u.length*9:=by rw[E.l];omega
    simp only[af60,PP,P14,simprocAttr,PN,a4,a5,G,a6,a0];refine aAD T V B E rfl (by simp only[Cv,Fv,aI,b9,cM,jG,lG,jW,pE,gZ,Bz]) (fun v y q1 q2 q3=>?_) fun q=>?_
    · simp only[PP,P14,simprocAttr,PN,OD E.l];refine Gh.step (GStep.ia (b:=[.tuple [.ref 1 0 9 0 ow.length,.bool Js,p64 0]]) (N:=[.cells 0 0 [slI I J .u8 ow,slI L O .i64 pr,slR f3 Q R S .i64 su],.cells 0 ver (msL u)]) 2 (Au _) (by simp) (by simp only[PW]) (by simp[aD,PV.under]) ?_ rfl) (Gh.same ⟨_,rfl,hk u Js ver _ (.inr (.inr ⟨Y,by omega,E,U,⟨fun h=>(by cases h),fun h=>?_⟩,rfl⟩))⟩)
      · simp[aI,aD,PV.under,b9,cM,gZ]
      · have:=h v q1.1;have:=q1.2.1;omega
    · simp only[PP,P14,simprocAttr,PN,OD E.l];refine Gh.step (GStep.ia (b:=[.tuple [.ref 1 0 9 0 ow.length,.bool Jr,p64 0]]) (N:=[.cells 0 0 [slI I J .u8 ow,slI L O .i64 pr,slR f3 Q R S .i64 su],.cells 0 ver (msL u)]) 2 (Au _) (by simp) (by simp only[PW]) (by simp[aD,PV.under]) ?_ rfl) (Gh.same ⟨_,rfl,hk u Jr ver _ (.inr (.inr ⟨Y,by omega,E,U,⟨fun _=>q,fun _=>rfl⟩,rfl⟩))⟩)
      · simp[aI,aD,PV.under,b9,cM,gZ]
end
def dgT(n:Nat):List UInt8:=(pS n).data.toList
def VU:((Ba 100).all fun a=>(dgT a).all (fun b=> !(b==32))&&decide ((dgT a).length<=2))=Jr:=by decide+kernel
def JP{n:Nat}(h:n<100):∀b∈dgT n,b≠32:=fun b hb=>by have:=(List.all_eq_true.1 VU) n (List.mem_range.2 h);simp only[Aw]at this;have:=(List.all_eq_true.1 this.1) b hb;simpa using this
def BS{n:Nat}(h:n<100):(dgT n).length<=2:=by have:=(List.all_eq_true.1 VU) n (List.mem_range.2 h);simp only[Aw,decide_eq_true_eq]at this;exact this.2
def VT{a b:Nat}(u:a<100)(hb:b<100)(h:dgT a=dgT b):a=b:=by refine aCn u hb ?_;apply ByteArray.ext;apply Array.ext';exact h
def jC(r:List Int):List UInt8:=r.flatMap fun x=>32::dgT x.toNat
def EZ:List Int->List UInt8
  | []=>[]
  | c::r=>dgT c.toNat++jC r
def QS(r:List Int)(x:Int):jC (r++[x])=jC r++32::dgT x.toNat:=by simp[jC]
def W4{r:List Int}(h:∀x∈r,0<=x/\x<100):(jC r).length<=3*r.length:=by
  induction r with
  | nil=>simp[jC]
  | cons x r u=>have h1:=BS (n:=x.toNat) (by have:=h x (by simp);omega);have h2:=u fun y B=>h y (by simp[B]);unfold jC at h2 ⊢;simp only[Cc,Al,Ak];omega
def H7:∀{u v:List UInt8} {r s:List Int},(∀b∈u,b≠32)->(∀b∈v,b≠32)->u++jC r=v++jC s->u=v/\jC r=jC s
  | [],[],r,s,_,_,h=>⟨rfl,h⟩
  | [],b::v,r,s,_,hv,h=>by
    cases r with
    | nil=>simp[jC]at h
    | cons x r=>simp only[jC,Cc,Aj,Ai,List.cons.injEq]at h;exact absurd h.1.symm (hv b (by simp))
  | b::u,[],r,s,y,_,h=>by
    cases s with
    | nil=>simp[jC]at h
    | cons x s=>simp only[jC,Cc,Aj,Ai,List.cons.injEq]at h;exact absurd h.1 (y b (by simp))
  | b::u,c::v,r,s,y,hv,h=>by simp only[Ai,List.cons.injEq]at h;obtain⟨h1,h2⟩:=H7 (fun x B=>y x (by simp[B])) (fun x B=>hv x (by simp[B])) h.2;exact⟨by rw[h.1,h1],h2⟩
def FO:∀{r s:List Int},(∀x∈r,0<=x/\x<100)->(∀x∈s,0<=x/\x<100)->jC r=jC s->r=s
  | [],[],_,_,_=>rfl
  | [],x::s,_,_,h=>by simp[jC]at h
  | x::r,[],_,_,h=>by simp[jC]at h
  | x::r,y::s,hr,hs,h=>by have u:=hr x (by simp);have B:=hs y (by simp);have h:(32::dgT x.toNat)++jC r=(32::dgT y.toNat)++jC s:=h;simp only[Ai,List.cons.injEq,true_and]at h;obtain⟨h1,h2⟩:=H7 (JP (by omega)) (JP (by omega)) h;have e:=VT (by omega) (by omega) h1;rw[show x=y by omega,FO (fun z hz=>hr z (by simp[hz])) (fun z hz=>hs z (by simp[hz])) h2]
def WJ(l:List Int):Prop:=l≠[]/\∀x∈l,0<=x/\x<100
def NR(l:List Int):ByteArray:=⟨(EZ l).toArray⟩
def aCe:∀{a b:List Int},WJ a->WJ b->NR a=NR b->a=b
  | [],_,h,_,_=>absurd rfl h.1
  | _::_,[],_,h,_=>absurd rfl h.1
  | x::r,y::s,u,hb,h=>by
    have h:dgT x.toNat++jC r=dgT y.toNat++jC s:=by have:=congrArg (fun q:ByteArray=>q.data.toList) h;simpa [NR,EZ]using this
    have B:=u.2 x (by simp);have E:=hb.2 y (by simp);obtain⟨h1,h2⟩:=H7 (JP (by omega)) (JP (by omega)) h;have e:=VT (by omega) (by omega) h1;rw[show x=y by omega,FO (fun z hz=>u.2 z (by simp[hz])) (fun z hz=>hb.2 z (by simp[hz])) h2]
def fG(nx:List (List Int))(c:List Int)(s:Nat):List Int:=c.getD s 0::((nx[s]?).getD []).map fun t=>c.getD t.toNat 0
def rfN(nx:List (List Int))(c:List Int):List Int:=n7 (fun _ y=>fG nx c y) ([]:List Int) [] nx.length
def nG(D:DF):List Int:=(Ba D.nx.length).map fun s=>if(D.fi.getD s Js)=(D.fi.getD 0 Js)then 0 else 1
def bF(D:DF):Nat->List Int
  | 0=>nG D
  | k+1=>rfN D.nx (bF D k)
def wA(nx:List (List Int))(c:List Int):(rfN nx c).length=nx.length:=kX ..
def fF(D:DF):∀k,(bF D k).length=D.nx.length
  | 0=>by simp[bF,nG]
  | k+1=>wA ..
def aEt{α:Type} [DecidableEq α](δ:α->Nat->α)(a:α)(n:Nat):∀x∈n7 δ a [] n,0<=x/\x<n:=fun x B=>by unfold n7 at B;obtain⟨y,u,rfl⟩:=List.mem_map.1 B;have u:=List.mem_range.1 u;have hm:δ a y∈gB δ a n []:=(oE _ _ _ _ _).2 (.inr ⟨y,u,rfl⟩);have h1:=List.idxOf_lt_length_of_mem hm;have h2:=uP δ a [] n;have h3:=oH δ a [] n;rw[Aj]at h3;rw[h3]at h1 ⊢;omega
def aHd(nx:List (List Int))(c:List Int):∀x∈rfN nx c,0<=x/\x<nx.length:=fun x u=>aEt _ _ _ x u
def aEv{D:DF}(h:D.nx.length<=99):∀k,∀x∈bF D k,0<=x/\x<100
  | 0,x,u=>by unfold bF nG at u;obtain⟨y,B,rfl⟩:=List.mem_map.1 u;split<;>omega
  | k+1,x,u=>by have:=aHd _ _ x u;omega
def tF{D:DF}{k:Nat}(h:bF D (k+1)=bF D k):∀j,bF D (k+j)=bF D k
  | 0=>rfl
  | j+1=>by show rfN D.nx (bF D (k+j))=_;rw[tF h j];exact h
def JJ{c:List Int}{b:Int}(hb:0<b)(h:∀x∈c,0<=x/\x<b)(k:Nat):0<=c.getD k 0/\c.getD k 0<b:=by
  rw[Bc]
  cases u:c[k]? with
  | none=>simp;exact hb
  | some x=>simpa using h x (Af u)
def NO(nx:List (List Int)){c:List Int}(h:∀x∈c,0<=x/\x<100)(s:Nat):WJ (fG nx c s):=by
  refine⟨by simp[fG],fun x u=>?_⟩;unfold fG at u;rcases List.mem_cons.1 u with rfl | u
  · exact JJ (by omega) h s
  · obtain⟨t,_,rfl⟩:=List.mem_map.1 u;exact JJ (by omega) h _
def O5(l:List UInt8):(lA l).all PV.one=Jr:=by rw[Cb];intro x u;obtain⟨c,_,rfl⟩:=List.mem_map.1 u;rfl
def aCV(n:Nat):(pS n).data.toList.map (fun b:UInt8=>PV.int .u8 ((b.toNat:Nat):Int))=lA (dgT n):=rfl
section
variable {tab:FuncId->Option AF} (T:HasA tab){M:Mem}{K:PV->Mem->Prop}
include T
def aFF{c:Int}(h0:0<=c)(h1:c<100)(y:K (.ref M.length 0 1 0 (dgT c.toNat).length) (M++[.cells 0 0 (lA (dgT c.toNat))])):
    au tab 188 [.ai,p64 c,p64 10] M K:=by
  have B:IntKind.u64.wrap c=c:=by unfold IntKind.wrap;simp[IntKind.bits,IntKind.signed];omega
  have E:IntKind.i64.wrap c=((c.toNat:Nat):Int):=by rw[wrap64]<;>omega
  have G:¬c<0:=by omega
  have hl:=BS (n:=c.toNat) (by omega);have u:(pS c.toNat).size=(dgT c.toNat).length:=rfl;have I:(dgT c.toNat).length<=140737488355328:=by omega
  have J:(dgT c.toNat).length<=9223372036854775807:=by omega
  refine aV T.h188 ?_;simp only[af188,PP,simprocAttr];refine aV T.h218 ?_;simp only[af218,PP,simprocAttr,B,G];refine aV T.h177 ?_;simp only[af177,PP,simprocAttr,E,h1];refine UW T (by omega) ?_;simp only[PP,simprocAttr,u,I,J];exact⟨O5 _,y⟩
def aFE{c:Int}{id g v:Nat}{l:List UInt8}(B:M[id]? =Jp (.cells g v (lA l)))(E:l.length<1000000000)(h0:0<=c)(h1:c<100)(y:K (.ref id (g+1) 1 0 (l++dgT c.toNat).length) (M.set id (.cells (g+1) 0 (lA (l++dgT c.toNat))))):
    au tab 188 [.ref id g 1 0 l.length,p64 c,p64 10] M K:=by
  have G:IntKind.u64.wrap c=c:=by unfold IntKind.wrap;simp[IntKind.bits,IntKind.signed];omega
  have I:IntKind.i64.wrap c=((c.toNat:Nat):Int):=by rw[wrap64]<;>omega
  have J:¬c<0:=by omega
  have hl:=BS (n:=c.toNat) (by omega);have u:(pS c.toNat).size=(dgT c.toNat).length:=rfl;have L:l.length+(dgT c.toNat).length<=140737488355328:=by omega
  have O:l.length+(dgT c.toNat).length<=9223372036854775807:=by omega
  have Q:l.length<=(lA l).length:=by simp
  have R:0<(dgT c.toNat).length\/l.length=(lA l).length:= .inr (by simp);refine aV T.h188 ?_;simp only[af188,PP,simprocAttr];refine aV T.h218 ?_;simp only[af218,PP,simprocAttr,G,J];refine aV T.h177 ?_;simp only[af177,PP,simprocAttr,I,h1];refine UW T (by omega) ?_;simp only[PP,simprocAttr,B,u,L,O,Q,R];rw[aCV];refine⟨O5 _,?_⟩;rw[Al]at y;have e:lA l++lA (dgT c.toNat)=lA (l++dgT c.toNat):=by simp[lA]
  rw[e];exact y
def aFD{Q R S U f3 V:Bool}{D:DF}(B:BnD D)(hf:D.fi.length=D.nx.length)(h0:0<D.nx.length)(hk:K (slI Js Jr .i64 (nG D)) M):
    au tab 148 [.agg (dfC Q R S U f3 V D)] M K:=by
  have hb:D.nx.length<1000000000000:=B.n;have b1:(D.nx.length:Int)*8<=140737488355328:=by omega
  have b2:(D.nx.length:Int)<=9223372036854775807:=by omega
  have nn:(0:Int)<=(D.nx.length:Int):=by omega
  obtain⟨z,gz⟩:=aK (xs:=D.fi) (k:=0) (by omega);have z0:(0:Int)<D.fi.length:=by omega
  refine aB T.h148 (by simp only[PP,simprocAttr]) ?_;simp only[af148,PP,simprocAttr,b1,b2,nn,Dw];refine iN (fun(k v:Nat)=>k<=D.nx.length) (fun k v=>(.aa:: .ptr 0 0 0:: .aa:: .ref 1 0 1 0 D.nx.length::zj 6++p64 D.nx.length::p64 k::zj 17))
    (fun k v=>[.cells 0 0 (dfC Q R S U f3 V D),.cells 0 v (((nG D).take k++Ae (D.nx.length-k) 0).map p64)]) (fun k v=>D.nx.length-k) 0 0 (by omega) ?_ (by simp only[PW]) (by simp[GG])
  intro k v a0 Y;have G:(nG D).length=D.nx.length:=fF D 0;refine aH (by kernel_rfl) ?_;simp only[PP,simprocAttr];refine QIf.intro (fun c=>?_) fun c=>?_;rotate_left
  · obtain rfl:k=D.nx.length:=by omega
    rw[Dr,List.replicate_zero,Bo (by omega)];have hfz:uO (Jp (bl.cells 0 v ((nG D).map p64))) 0 1 0 D.nx.length=Jp (slI Js Jr .i64 (nG D)):=by
      rw[gT (by simp[G]) (b9 _ _ _),cN _ _ (by simp[G])];simp only[slI,G]
    simp only[PP,simprocAttr,c,hfz];exact hk
  have hlt:k<D.nx.length:=by omega
  have Z:(0:Int)<=k:=by omega
  have kf:(k:Int)<D.fi.length:=by omega
  have hw:=aA (k:=k) (by show _<1000000000000;omega);obtain⟨b,gb⟩:=aK (xs:=D.fi) (k:=k) (by omega);have O:(nG D)[k]? =Jp (if b=z then 0 else 1):=by
    unfold nG;rw[Ap,Eb hlt];simp[Bc,gb,gz]
  have u:=fK O;have E:Ae (D.nx.length-k) (0:Int)=0::Ae (D.nx.length-(k+1)) 0:=by rw[show D.nx.length-k=(D.nx.length-(k+1))+1 by omega,Fm]
  have I:((nG D).take k).length=k:=by rw[Ay];omega
  simp only[PP,simprocAttr,c,Z,kf,gb,gz,z0];by_cases y:b=z
  · rw[if_pos y]at u;have he:(b==z)=Jr:=by rw[y];simp
    simp only[PP,simprocAttr,he,hw];refine bZ (Y (k+1) v (by omega) (by omega)) (by simp only[PW]) ?_;rw[u,E];simp only[Bh,Ah,Av,Ac,Ai,Aj]
  · rw[if_neg y]at u;have he:(b==z)=Js:=beq_false_of_ne y;have J:k+1<=k+(D.nx.length-k):=by omega
    have L:k<D.nx.length:=hlt;simp only[PP,simprocAttr,he,hw,c,Z,I,J,L];refine bZ (Y (k+1) (v+1) (by omega) (by omega)) (by simp only[PW]) ?_;rw[u,E,Dn _ _ (by rw[Ag,I];exact Ab _)];simp only[Bh,Ah,Av,Ac,Ai,Aj,Ag,I,Dr,Dc]
omit T in
def O3(i v u:Nat)(e y:List (PV×PV))(R:Mem):f8 i (.map v e::R) (.map u y::R)=if v=u then []else [i]:=by unfold f8;simp only[pI,rH,beq_iff_eq]
def aE3{u y B E f3 G:Bool}{D:DF}(J:K (.func (.func 217) [] [.cp (dfC u y B E f3 G D) 0]) M):
    au tab 187 [.agg (dfC u y B E f3 G D)] M K:=by
  refine eC T.h187 (by simp only[PP,simprocAttr]) ?_;simp only[af187];refine aE (aC ?_);simp only[PP,simprocAttr];refine cK (GStep.dz (b:=(.aa:: .cp (dfC u y B E f3 G D) 0:: .al:: .aa::[])) 0 (Au _) rfl (by simp only[mX,mY,Ai,Aj,iD,gJ,gI,iC]) rfl) ?_;refine aC ?_;have e:∀I:Mem,lR 0 I (.func (.func 217) [] [.cp (dfC u y B E f3 G D) 0])=Jp (.func (.func 217) [] [.cp (dfC u y B E f3 G D) 0]):=fun I=>zM (M:=I) (by simp only[PP,simprocAttr,PV.under]);simp only[PP,simprocAttr,e];exact J
def aBS{L:Nat}{Q R y B f3 V:Bool}{D:DF}(hb:D.nx.length<1000000000000)(J:Nat->Mem->Prop)(h0:J 0 M)
    (hl:∀k G,J k G->∃ver r,G[L]? =Jp (.loop ver r))
    (Y:∀k G row,J k G->D.nx[k]? =Jp row->∀S:PV->Mem->Prop,(∀u,J (k+1) u->S (.bool Jr) u)->TJ tab L [p64 k,slI y B .i64 row] G S)
    (Z:∀G,J D.nx.length G->K (.tuple []) G):
    au tab 217 [.yld L [],.cp (dfC Q R y B f3 V D) 0] M K:=by
  refine aV T.h217 ?_;simp only[af217,PP,simprocAttr];refine iN (fun(i:Nat) (G:Mem)=>i<=D.nx.length/\J i G) (fun i G=>(.yld L []::zj 5++slR Q R y B .i64 D.nx::p64 D.nx.length::p64 i::zj 10)) (fun _ G=>G) (fun i _=>D.nx.length-i) 0 M ⟨by omega,h0⟩ ?_;intro i G ⟨a0,E⟩ ih;refine aH (by kernel_rfl) ?_;simp only[PP,simprocAttr];refine QIf.intro (fun c=>?_) fun c=>?_;rotate_left
  · obtain rfl:i=D.nx.length:=by omega
    simp only[PP,simprocAttr,c];exact Z G E
  have I:i<D.nx.length:=by omega
  obtain⟨e,U⟩:=aK I;have hw:=aA (k:=i) (by show _<1000000000000;omega);have i0:(0:Int)<=i:=by omega
  simp only[PP,simprocAttr,c,i0,U,PR];refine⟨hl _ _ E,?_⟩;refine Y _ _ e E U _ fun u O=>?_;simp only[PP,simprocAttr,hw];exact bZ (ih (i+1) u ⟨by omega,O⟩ (by omega)) (by simp only[PW]) rfl
def aHE{α:Type} [DecidableEq α]{κ:α->ByteArray}{Dm:α->Prop}(y:∀a b,Dm a->Dm b->κ a=κ b->a=b){o:List α}{b:α}(hb:Dm b)(Q:∀a∈o,Dm a)
    {N:Mem} {K:PV->Mem->Prop} {i j ver R:Nat} (B:N[i]? =Jp (.map ver (smE (lY κ 0 o)))) (G:N[j]? =Jp (.cells 0 R [.map i]))
    (I:∀S,K (p64 ((gH o b).idxOf b:Nat)) (N.set i (.map S (smE (lY κ 0 (gH o b)))))):
    au tab 186 [.str (κ b),.ptr j 0 0] N K:=by
  have u:=tJ y hb o 0 Q;refine aV T.h186 ?_;simp only[af186,PP,simprocAttr,PT,B,G];by_cases hm:b∈o
  · rw[if_pos hm]at u;have e:gH o b=o:=by unfold gH;rw[if_pos hm]
    have h:=I ver;rw[e]at h;have hs:N.set i (.map ver (smE (lY κ 0 o)))=N:=by
      refine Em fun x=>?_;by_cases J:i=x
      · subst J;rw[Ck (aF B),B]
      · rw[Bt J]
    rw[hs]at h;simp only[PP,simprocAttr,PT,u];exact h
  · rw[if_neg hm]at u;have e:gH o b=o++[b]:=by unfold gH;rw[if_neg hm]
    have h:=I (ver+1);have L:=yA κ b o 0;rw[Bg]at L;have U:(o++[b]).idxOf b=o.length:=by rw[List.idxOf_append,if_neg hm];simp
    rw[e,U]at h;have E:=MX κ o 0;have O:=IF (κ b) (p64 o.length) (lY κ 0 o) u;rw[L]at O;simp only[PP,simprocAttr,PT,u,B,G,E,O];exact h
end
abbrev yN(nx:List (List Int))(c:List Int):List Int->Nat->List Int:=fun _ y=>fG nx c y
abbrev aHj(nx:List (List Int))(c:List Int)(k u v ver:Nat)(y:jm):Mem:=
  [.gone,.gone,.map u (smE (lY NR 0 (gB (yN nx c) [] k []))),.cells 0 1 [.map 2],.cells 0 1 [.func (.func 186) [] [.ptr 3 0 0]],.cells 0 v ((n7 (yN nx c) [] [] k++Ae (nx.length-k) 0).map p64),.cells 0 1 [.ref 5 0 1 0 nx.length],.loop ver y]
section
variable {tab:FuncId->Option AF} (T:HasA tab){M:Mem}{K:PV->Mem->Prop}
include T
def aAY{f1 o1 U V f3 o3 f o:Bool}{D:DF}{c:List Int}(B:BnD D)(Q:c.length=D.nx.length)(Y:∀r∈D.nx,r.length<=64/\∀t∈r,0<=t/\t<D.nx.length)(Z:∀x∈c,0<=x/\x<100)
    (hk:K (slI Js Jr .i64 (rfN D.nx c)) M):au tab 149 [.agg (dfC f1 o1 U V f3 o3 D),slI f o .i64 c] M K:=by
  have hb:D.nx.length<1000000000000:=B.n;have b1:(D.nx.length:Int)*8<=140737488355328:=by omega
  have b2:(D.nx.length:Int)<=9223372036854775807:=by omega
  have nn:(0:Int)<=(D.nx.length:Int):=by omega
  refine eC T.h149 (by simp only[PP,simprocAttr]) ?_;simp only[af149];refine aE (aC ?_);simp only[PP,simprocAttr];refine cK (GStep.dz (b:=(.aa:: .aa:: .cp (dfC f1 o1 U V f3 o3 D) 0:: .ptr 1 0 0:: .ai::zj 45)) 0 (Au _) rfl (by simp only[mX,mY,Ai,Aj,iD,gJ,gI,iC]) rfl) ?_;refine cK (GStep.dz (b:=(.aa:: .aa:: .cp (dfC f1 o1 U V f3 o3 D) 0:: .cp [slI f o .i64 c] 0:: .ai::zj 45)) 1 (Au _) rfl (by simp only[mX,mY,Ai,Aj,iD,gJ,gI,iC]) rfl) ?_;refine aC ?_;simp only[PP,simprocAttr,PT,Q,b1,b2,nn,Dw];refine aE3 T ?_;simp only[PP,simprocAttr];refine aG (b:=(zj 3++ .cp [slI f o .i64 c] 0:: .aa:: .aa:: .ptr 4 0 0:: .ptr 6 0 0::zj 11++ .func (.func 217) [] [.cp (dfC f1 o1 U V f3 o3 D) 0]::zj 30)) ?_;refine sW rfl fun I q1 q2 q3 q4 q5 q6=>?_;simp only[PP,simprocAttr];refine aBS T (L:=7) hb (fun k G=>∃vm v ver R,G=aHj D.nx c k vm v ver I++R) ⟨0,0,0,[],?_⟩ ?_ ?_ ?_
  · simp only[aHj,gB,n7,List.range_zero,Av,Aj,Nat.sub_zero,List.map_replicate,Ao];rfl
  · rintro k G ⟨vm,v,ver,R,rfl⟩;exact⟨ver,I,rfl⟩
  · rintro k G row ⟨vm,v,ver,R,rfl⟩ grow K' a7;refine EE (ver:=ver) (r:=I) rfl (by rw[q4];rfl) ?_;rw[q3,q4,q5];refine aC ?_;simp only[oQ,PP,simprocAttr,Ac,gk,gk0,sk,sk0];refine⟨ver,I,rfl,q1,?_⟩;have a3:({ ({I with state:= .busy} :jm)with state:= .ready,pending:=Jq} :jm)=I:=aB5 q1 q2;generalize ({I with state:= .busy} :jm)=lb at a3 ⊢;rw[q6];refine aC ?_;have hk:k<D.nx.length:=aF grow;have k0:(0:Int)<=k:=by omega
    have kc:(k:Int)<D.nx.length:=by omega
    obtain⟨x,gx⟩:=aK (xs:=c) (k:=k) (by omega);obtain⟨x0,x1⟩:=Z x (Af gx);simp only[PP,simprocAttr,Ac,gk,gk0,sk,sk0,Q,k0,kc,gx];refine aFF T x0 x1 ?_;simp only[PP,simprocAttr,Ac,gk,gk0,sk,sk0];have a4:=Y row (Af grow);have c0:row.length<=64:=a4.1;have a5:∀j,EZ (x::(row.take (j+1)).map fun t=>c.getD t.toNat 0)=EZ (x::(row.take j).map fun t=>c.getD t.toNat 0)++(match row[j]? with | some t=>32::dgT (c.getD t.toNat 0).toNat | none=>[]):=fun j=>by
      show dgT x.toNat++jC _=(dgT x.toNat++jC _)++_;rw[List.take_add_one]
      cases row[j]? with
      | none=>simp
      | some t=>rw[Option.toList_some,Bh,Ah,Av,QS,Ac]
    have a6:∀j,j<=row.length->(EZ (x::(row.take j).map fun t=>c.getD t.toNat 0)).length<=200:=fun j hj=>by
      show(dgT x.toNat++jC _).length<=200;have h1:=BS (n:=x.toNat) (by omega);have h2:=W4 (r:=(row.take j).map fun t=>c.getD t.toNat 0) (fun y hy=>by
        obtain⟨t,_,rfl⟩:=List.mem_map.1 hy;exact JJ (by omega) Z _)
      simp only[Al,Ag,Ay]at h2 ⊢;omega
    have J:EZ (x::(row.take 0).map fun t=>c.getD t.toNat 0)=dgT x.toNat:=by simp[EZ,jC]
    generalize a9:(fun j=>EZ (x::(row.take j).map fun t=>c.getD t.toNat 0))=u;have O:∀j,EZ (x::(row.take j).map fun t=>c.getD t.toNat 0)=u j:=fun j=>by rw[<-a9]
    simp only[O]at a5 a6 J;rw[<-J];refine nL (fun(j g w:Nat)=>j<=row.length) (fun j g w=>(zj 3++ .cp [slI f o .i64 c] 0:: .aa:: .aa:: .ptr 4 0 0:: .ptr 6 0 0::p64 k:: .aa:: .ref (R.length+1+1+1+1+1+1+1+1) g 1 0 (u j).length::zj 16++slI U V .i64 row::p64 row.length::p64 j::zj 20))
      (fun j g w=>[.gone,.gone,.map vm (smE (lY NR 0 (gB (yN D.nx c) [] k []))),.cells 0 1 [.map 2],.cells 0 1 [.func (.func 186) [] [.ptr 3 0 0]],.cells 0 v (((n7 (yN D.nx c) [] [] k)++Ae (D.nx.length-k) 0).map p64),.cells 0 1 [.ref 5 0 1 0 D.nx.length],.loop (ver+1) lb]++(R++[.cells g w (lA (u j))])) (fun j g w=>row.length-j) 0 0 0 (by omega) ?_ (by simp only[PW]) (by simp only[Bh,PP,simprocAttr])
    intro j g w hj ih;refine aH (by kernel_rfl) ?_;simp only[PP,simprocAttr];refine QIf.intro (fun e=>?_) fun e=>?_
    · have b0:j<row.length:=by omega
      obtain⟨t,gt⟩:=aK b0;obtain⟨t0,t1⟩:=a4.2 t (Af gt);have j0:(0:Int)<=j:=by omega
      have hw:=aA (k:=j) (by show _<1000000000000;omega);obtain⟨y,gy⟩:=aK (xs:=c) (k:=t.toNat) (by omega);obtain⟨y0,y1⟩:=Z y (Af gy);have S:=a5 j;rw[gt]at S;simp only[Bc,gy,Di]at S;have c1:=a6 j (by omega);have b5:(u j).length+1<=140737488355328:=by omega
      have b6:(u j).length<=9223372036854775806:=by omega
      simp only[PP,simprocAttr,e,Ac,gk,gk0,sk,sk0,gt,gy,Q,j0,t0,t1,b5,b6];have e1:(u j).length+1=(u j++[32]).length:=by simp
      have e2:(u j).map (fun c:UInt8=>PV.int .u8 ((c.toNat:Nat):Int))++[.int .u8 32]=lA (u j++[32]):=by simp[lA]
      have e3:(u j++[32])++dgT y.toNat=u (j+1):=by rw[S];simp
      rw[e1,e2];refine aFE T (l:=u j++[32]) (v:=0) (by simp only[Bl,gk0,Cg]) (by simp;omega) y0 y1 ?_;rw[e3];simp only[PP,simprocAttr,Ac,gk,gk0,sk,sk0,hw];exact bZ (ih (j+1) (g+1+1) 0 (by omega) (by omega)) (by simp only[PW]) (by simp only[Bh,PP,simprocAttr])
    · obtain rfl:j=row.length:=by omega
      have a0:EZ (fG D.nx c k)=u row.length:=by rw[<-O row.length,Ct];unfold fG;rw[grow];simp only[Di,Bc,gx]
      have a1:(⟨(u row.length).toArray⟩:ByteArray)=NR (fG D.nx c k):=by unfold NR;rw[a0]
      have b3:pN (lA (u row.length))=Jp (u row.length):=XP _;have b4:(u row.length).length<=(lA (u row.length)).length:=by simp
      simp only[PP,simprocAttr,PT,e,Ac,gk,gk0,sk,sk0,b3,b4,a1];refine aHE T (κ:=NR) (Dm:=WJ) (fun a b ha hb h=>aCe ha hb h) (o:=gB (yN D.nx c) [] k []) (b:=fG D.nx c k) (NO _ Z k) ?_ (i:=2) (j:=3) rfl rfl fun mj=>?_
      · intro a ha;rcases(oE _ _ _ _ _).1 ha with h | ⟨y,_,rfl⟩
        · cases h
        · exact NO _ Z y
      have b7:gH (gB (yN D.nx c) [] k []) (fG D.nx c k)=gB (yN D.nx c) [] (k+1) []:=rfl;rw[b7];have b8:=F3 (yN D.nx c) [] [] k;have E:=kX (yN D.nx c) [] [] k;have a2:k+1<=k+(D.nx.length-k):=by omega
      simp only[PP,simprocAttr,PT,Ac,gk,gk0,sk,sk0,k0,hk,E,a2];rw[O3];refine⟨by split<;>rfl,kc,ver+1,_,rfl,?_⟩;rw[if_pos rfl];refine a7 _ ⟨mj,v+1,ver+1+1,R++[.cells g w (lA (u row.length))],?_⟩;simp only[aHj,PP,simprocAttr,a3];have c2:(gB (yN D.nx c) [] (k+1) []).idxOf (fG D.nx c k)=(gB (yN D.nx c) [] (k+1) []).idxOf (yN D.nx c [] k):=rfl;rw[b8,Dn _ _ (by rw[Ag,E];exact Ab _),Ag,E,Dr,show D.nx.length-k=(D.nx.length-(k+1))+1 by omega,Fm];simp only[Bh,Ah,Av,Ac,Ai,Aj,Dc]
  · rintro G ⟨vm,v,ver,R,rfl⟩;refine⟨ver,I,rfl,by rw[q1];exact(by intro h;cases h),?_⟩;rw[q2];have hfz:uO (Jp (bl.cells 0 v ((n7 (yN D.nx c) [] [] D.nx.length).map p64))) 0 1 0 D.nx.length=Jp (slI Js Jr .i64 (rfN D.nx c)):=by
      rw[gT (by simp[kX]) (b9 _ _ _),cN _ _ (by simp[kX])];simp only[slI,rfN,kX]
    have hz:D.nx.length-D.nx.length=0:=Dr _;simp only[PP,simprocAttr,Ac,gk,gk0,sk,sk0,hz,hfz];exact hk
def Q1{f o J L:Bool}{a b:List Int}(O:a.length<big)(E:K (.bool (decide (a=b))) M):au tab 150 [slI f o .i64 a,slI J L .i64 b] M K:=by
  have hb:a.length<1000000000000:=O;refine aB T.h150 (by simp only[PP,simprocAttr]) ?_;simp only[af150,PP,simprocAttr];by_cases hl:a.length=b.length;rotate_left
  · have h1:¬(a.length:Int)=b.length:=by omega
    have h2:¬a=b:=fun h=>hl (by rw[h]);simp only[PP,simprocAttr,h1];simpa [h2]using E
  have h1:(a.length:Int)=b.length:=by omega
  simp only[PP,simprocAttr,h1];refine fT (fun(k:Nat)=>k<=b.length/\a.take k=b.take k) (fun k=>(slI f o .i64 a::slI J L .i64 b::zj 10++p64 b.length::p64 k::zj 12)) (fun _=>[]) (fun k=>b.length-k) 0 (by simp) ?_;intro k ⟨Q,u⟩ R;refine aH (by kernel_rfl) ?_;simp only[PP,simprocAttr];refine QIf.intro (fun c=>?_) fun c=>?_;rotate_left
  · obtain rfl:k=b.length:=by omega
    rw[Bo (by omega),Bo (by omega)]at u;simp only[PP,simprocAttr,c];simpa [u]using E
  have hlt:k<b.length:=by omega
  have S:(0:Int)<=k:=by omega
  have hw:=aA (k:=k) (by show _<1000000000000;omega);obtain⟨x,B⟩:=aK (xs:=a) (k:=k) (by omega);obtain⟨y,G⟩:=aK hlt;simp only[PP,simprocAttr,c,S,B,G,h1];by_cases e:x=y
  · simp only[PP,simprocAttr,e,hw];refine aG (R (k+1) ⟨by omega,?_⟩ (by omega));rw[fK B,fK G,u,e]
  · simp only[PP,simprocAttr,e];have I:¬a=b:=fun h=>e (by rw[h,G]at B;exact(Option.some.inj B).symm);simpa [I]using E
def LV{L O Q R f3 S:Bool}{D:DF}{k:Nat}(B:BnD D)(y:fE D=0->D.nx.length<=99)(I:fE D≠0->K (.tuple [.ai,p64 (fE D)]) M)(u:fE D=0->K (.tuple [slI Js Jr .i64 (bF D k),p64 0]) M)(V:k<1000000000000):
    au tab 87 [.agg (dfC L O Q R f3 S D),p64 k] M K:=by
  refine aB T.h87 (by simp only[PP,simprocAttr]) ?_;simp only[af87,PP,simprocAttr];refine OZ T B ?_;by_cases E:fE D=0;rotate_left
  · simp only[PP,simprocAttr,E];exact I E
  have u:=u E;have y:=y E;have C:=gm.1 E;have G:∀r∈D.nx,r.length<=64/\∀t∈r,0<=t/\t<D.nx.length:=fun r hr=>by
    obtain⟨h1,h2⟩:=C.r r hr;refine⟨?_,h2⟩;have:=MA C.v6;have e:((2^D.vs.toNat:Nat):Int)=2^D.vs.toNat:=by simp
    omega
  simp only[PP,simprocAttr,E];refine aFD T B C.f C.n0 ?_;simp only[PP,simprocAttr];refine fT (fun(i:Nat)=>i<=k) (fun i=>(.aa:: .aa:: .ptr 0 0 0::zj 4++slI Js Jr .i64 (bF D i)::zj 8++p64 k::p64 i::zj 10)) (fun _=>[.cells 0 0 (dfC L O Q R f3 S D)]) (fun i=>k-i) 0 (by omega) ?_ (by simp only[bF,PW]);intro i Z Y;refine aH (by kernel_rfl) ?_;simp only[PP,simprocAttr];refine QIf.intro (fun c=>?_) fun c=>?_;rotate_left
  · obtain rfl:i=k:=by omega
    simp only[PP,simprocAttr,c];exact u
  have hw:=aA (k:=i) (by show _<1000000000000;omega);have J:=fF D i;have U:=fF D (i+1);simp only[PP,simprocAttr,c];refine aAY T B J G (aEv y i) ?_;simp only[PP,simprocAttr];refine Q1 T (by rw[wA];exact B.n) ?_;by_cases e:rfN D.nx (bF D i)=bF D i
  · have hs:=tF (D:=D) (k:=i) e (k-i);rw[show i+(k-i)=k by omega]at hs;rw[hs]at u;simp only[PP,simprocAttr,e];exact u
  · simp only[PP,simprocAttr,e,hw];exact aG (Y (i+1) (by omega) (by omega)) (by simp only[bF,PW])
end
section
variable {α β:Type} [DecidableEq α] [DecidableEq β]
def ixF(l:List α)(x:α):Nat:=l.idxOf x
def fv(f:Nat->α):Nat->List α
  | 0=>[]
  | n+1=>gH (fv f n) (f n)
def UL(f:Nat->α)(a:α):∀n,gB (fun _ y=>f y) a n []=fv f n
  | 0=>rfl
  | n+1=>by show gH _ _=gH _ _;rw[UL f a n]
def jZ(f:Nat->α)(x:α):∀n,x∈fv f n↔∃y,y<n/\x=f y
  | 0=>by simp[fv]
  | n+1=>by
    show x∈gH _ _↔_;rw[NA,jZ f x n];constructor
    · rintro(⟨y,h1,h2⟩ | h)
      · exact⟨y,by omega,h2⟩
      · exact⟨n,by omega,h⟩
    · rintro⟨y,h1,h2⟩;by_cases e:y=n
      · subst e;exact .inr h2
      · exact .inl ⟨y,by omega,h2⟩
def DK(f:Nat->α):∀n,(fv f n).Nodup
  | 0=>by simp[fv]
  | n+1=>D9 (DK f n)
def SJ(f:Nat->α):∀n,(fv f n).length<=n
  | 0=>by simp[fv]
  | n+1=>by
    have:=SJ f n;show(gH _ _).length<=_;unfold gH;split
    · omega
    · simp;omega
def sV(o:List α)(x:α):(gH o x).length=if x∈o then o.length else o.length+1:=by unfold gH;split<;>simp
def aCu(f:Nat->α)(g:α->β):∀n,(fv (fun y=>g (f y)) n).length<=(fv f n).length
  | 0=>by simp[fv]
  | n+1=>by
    have u:=aCu f g n;show(gH _ _).length<=(gH _ _).length;rw[sV,sV];by_cases h:f n∈fv f n
    · have h2:g (f n)∈fv (fun y=>g (f y)) n:=by obtain⟨y,h3,B⟩:=(jZ _ _ _).1 h;exact(jZ _ _ _).2 ⟨y,h3,by rw[B]⟩
      rw[if_pos h,if_pos h2];exact u
    · rw[if_neg h];split<;>omega
def SI(f:Nat->α)(g:α->β):∀n,(fv (fun y=>g (f y)) n).length=(fv f n).length->fv (fun y=>g (f y)) n=(fv f n).map g
  | 0,_=>rfl
  | n+1,h=>by
    have h:(gH (fv (fun y=>g (f y)) n) (g (f n))).length=(gH (fv f n) (f n)).length:=h;show gH _ _=(gH _ _).map g;have u:=aCu f g n;rw[sV,sV]at h;by_cases h1:f n∈fv f n
    · have h2:g (f n)∈fv (fun y=>g (f y)) n:=by obtain⟨y,h3,B⟩:=(jZ _ _ _).1 h1;exact(jZ _ _ _).2 ⟨y,h3,by rw[B]⟩
      rw[if_pos h1,if_pos h2]at h;unfold gH;rw[if_pos h1,if_pos h2,SI f g n h]
    · rw[if_neg h1]at h;by_cases h2:g (f n)∈fv (fun y=>g (f y)) n
      · rw[if_pos h2]at h;omega
      · rw[if_neg h2]at h;unfold gH;rw[if_neg h1,if_neg h2,SI f g n (by omega)];simp
def aCv(f:Nat->α)(g:α->β):∀n,(∀x y,x<n->y<n->g (f x)=g (f y)->f x=f y)->fv (fun y=>g (f y)) n=(fv f n).map g
  | 0,_=>rfl
  | n+1,h=>by
    show gH _ _=(gH _ _).map g;have u:=aCv f g n fun x y E G=>h x y (by omega) (by omega);by_cases h1:f n∈fv f n
    · have h2:g (f n)∈fv (fun y=>g (f y)) n:=by rw[u];exact List.mem_map.2 ⟨_,h1,rfl⟩
      unfold gH;rw[if_pos h1,if_pos h2,u]
    · have h2:g (f n)∉fv (fun y=>g (f y)) n:=fun q=>by obtain⟨y,h3,B⟩:=(jZ _ _ _).1 q;exact h1 ((jZ _ _ _).2 ⟨y,h3,h n y (by omega) (by omega) B⟩)
      unfold gH;rw[if_neg h1,if_neg h2,u];simp
def uN{g:α->β} :∀{l:List α} {x:α},(l.map g).Nodup->x∈l->ixF (l.map g) (g x)=ixF l x
  | [],x,_,h=>by cases h
  | a::l,x,u,h=>by
    rw[Ah,List.nodup_cons]at u;rw[Ah];by_cases e:x=a
    · subst e;unfold ixF;simp
    · have hm:x∈l:=by
        rcases List.mem_cons.1 h with h | h
        · exact absurd h e
        · exact h
      have hg:g x≠g a:=fun q=>u.1 (by rw[<-q];exact List.mem_map.2 ⟨x,hm,rfl⟩);have y:=uN u.2 hm;unfold ixF at y ⊢;rw[oG e,oG hg,y]
def nW{l:List α}{x:α}(h:x∈l):l[ixF l x]? =Jp x:=by unfold ixF;have h1:=List.idxOf_lt_length_of_mem h;rw[Ad h1,List.getElem_idxOf]
end
def QI(n:Nat)(c:List Int):Prop:=c.length=n/\∀y,y<n->((ixF (fv (fun y=>c.getD y 0) n) (c.getD y 0):Nat):Int)=c.getD y 0
def ZD{α:Type} [DecidableEq α](f:Nat->α)(n:Nat){c:List Int}(hl:c.length=n)(I:∀y,y<n->c.getD y 0=((ixF (fv f n) (f y):Nat):Int)):QI n c/\(fv (fun y=>c.getD y 0) n).length=(fv f n).length:=by
  have u:∀y,y<n->f y∈fv f n:=fun y E=>(jZ _ _ _).2 ⟨y,E,rfl⟩;have G:∀x y,x<n->y<n->(fun z:α=>((ixF (fv f n) z:Nat):Int)) (f x)=(fun z:α=>((ixF (fv f n) z:Nat):Int)) (f y)->f x=f y:=fun x y J E h=>by have h:ixF (fv f n) (f x)=ixF (fv f n) (f y):=Int.ofNat.inj h;have h1:=nW (u x J);have h2:=nW (u y E);rw[h,h2]at h1;exact(Option.some.inj h1).symm
  have B:∀k,k<=n->fv (fun y=>c.getD y 0) k=fv (fun y=>(fun z:α=>((ixF (fv f n) z:Nat):Int)) (f y)) k:=by
    intro k
    induction k with
    | zero=>intro _;rfl
    | succ k K=>intro L;show gH _ (c.getD k 0)=gH _ ((ixF (fv f n) (f k):Nat):Int);rw[K (by omega),I k (by omega)]
  have hm:=aCv f (fun z:α=>((ixF (fv f n) z:Nat):Int)) n G;have hV:fv (fun y=>c.getD y 0) n=(fv f n).map (fun z:α=>((ixF (fv f n) z:Nat):Int)):=by rw[B n (Ab _),hm]
  have hnd:((fv f n).map fun z:α=>((ixF (fv f n) z:Nat):Int)).Nodup:=by rw[<-hV];exact DK _ _
  refine⟨⟨hl,fun y E=>?_⟩,by rw[hV];simp⟩;rw[hV,I y E];have:=uN (g:=fun z:α=>((ixF (fv f n) z:Nat):Int)) hnd (u y E);rw[this]
def xV{nx:List (List Int)}{c:List Int}{y:Nat}(u:y<nx.length):(rfN nx c).getD y 0=((ixF (fv (fG nx c) nx.length) (fG nx c y):Nat):Int):=by unfold rfN n7;rw[Bc,Ap,Eb u,Dd,Di];rw[UL (fG nx c)];rfl
def F7(nx:List (List Int))(c:List Int):QI nx.length (rfN nx c)/\(fv (fun y=>(rfN nx c).getD y 0) nx.length).length=(fv (fG nx c) nx.length).length:=
  ZD (fG nx c) nx.length (wA nx c) fun y u=>xV u
def JV{D:DF}{y:Nat}(u:y<D.nx.length):(nG D).getD y 0=if D.fi.getD y Js=D.fi.getD 0 Js then 0 else 1:=by unfold nG;rw[Bc,Ap,Eb u,Dd,Di]
def S1(D:DF):QI D.nx.length (nG D):=by
  have hs:∀k,k<=D.nx.length->fv (fun y=>(nG D).getD y 0) k=[]\/fv (fun y=>(nG D).getD y 0) k=[0]\/fv (fun y=>(nG D).getD y 0) k=[0,1]:=by
    intro k
    induction k with
    | zero=>intro _;exact .inl rfl
    | succ k E=>
      intro I;have hb:=JV (D:=D) (y:=k) (by omega);show gH _ ((nG D).getD k 0)=_\/gH _ ((nG D).getD k 0)=_\/gH _ ((nG D).getD k 0)=_;have u:(nG D).getD k 0=0\/(nG D).getD k 0=1:=by
        rw[hb];split
        · exact .inl rfl
        · exact .inr rfl
      rcases E (by omega)with h | h | h
      · have B:k=0:=by
          rcases Nat.eq_zero_or_pos k with q | q
          · exact q
          · have:(nG D).getD 0 0∈fv (fun y=>(nG D).getD y 0) k:=(jZ _ _ _).2 ⟨0,q,rfl⟩;rw[h]at this;cases this
        subst B;rw[h,hb,if_pos rfl];exact .inr (.inl rfl)
      · rw[h];rcases u with e | e<;>rw[e]
        · exact .inr (.inl rfl)
        · exact .inr (.inr rfl)
      · rw[h];rcases u with e | e<;>rw[e]
        · exact .inr (.inr rfl)
        · exact .inr (.inr rfl)
  refine⟨fF D 0,fun y G=>?_⟩;have hm:(nG D).getD y 0∈fv (fun y=>(nG D).getD y 0) D.nx.length:=(jZ _ _ _).2 ⟨y,G,rfl⟩;rcases hs D.nx.length (Ab _)with h | h | h
  · rw[h]at hm;cases hm
  · rw[h]at hm ⊢;simp only[Ch]at hm;rw[hm];rfl
  · rw[h]at hm ⊢;simp only[Cr,En,or_false]at hm;rcases hm with hm | hm<;>rw[hm]<;>rfl
def CP(D:DF):∀k,QI D.nx.length (bF D k)
  | 0=>S1 D
  | k+1=>(F7 D.nx (bF D k)).1
def Y7(D:DF)(k:Nat):Nat:=(fv (fun y=>(bF D k).getD y 0) D.nx.length).length
def Y6{D:DF}{k:Nat}(h:bF D (k+1)≠bF D k):Y7 D k<Y7 D (k+1):=by
  have h1:=F7 D.nx (bF D k);have O:Y7 D (k+1)=(fv (fG D.nx (bF D k)) D.nx.length).length:=h1.2;have I:=aCu (fG D.nx (bF D k)) (fun l=>l.headD 0) D.nx.length;have hh:(fun y=>(fG D.nx (bF D k) y).headD 0)=fun y=>(bF D k).getD y 0:=rfl;have Q:Y7 D k=(fv (fun y=>(fG D.nx (bF D k) y).headD 0) D.nx.length).length:=rfl;rw[Q,O];rcases Nat.lt_or_eq_of_le I with q | q
  · exact q
  · exfalso;have hm:=SI (fG D.nx (bF D k)) (fun l=>l.headD 0) D.nx.length q;apply h;have J:=CP D k;show rfN D.nx (bF D k)=bF D k;refine Em fun y=>?_;by_cases u:y<D.nx.length
    · have B:y<(rfN D.nx (bF D k)).length:=by rw[wA];exact u
      have E:y<(bF D k).length:=by rw[J.1];exact u
      have K:=xV (nx:=D.nx) (c:=bF D k) u;have R:=J.2 y u;have G:fG D.nx (bF D k) y∈fv (fG D.nx (bF D k)) D.nx.length:=(jZ _ _ _).2 ⟨y,u,rfl⟩;have hnd:((fv (fG D.nx (bF D k)) D.nx.length).map fun l=>l.headD 0).Nodup:=by rw[<-hm];exact DK _ _
      have M:=uN (g:=fun l:List Int=>l.headD 0) hnd G;rw[<-hm]at M;have L:ixF (fv (fun y=>(bF D k).getD y 0) D.nx.length) ((bF D k).getD y 0)=ixF (fv (fG D.nx (bF D k)) D.nx.length) (fG D.nx (bF D k) y):=M;rw[<-L,R]at K;rw[Bc,Bc,Ad B,Ad E]at K;rw[Ad B,Ad E];simpa using K
    · rw[Bu (by rw[wA];omega),Bu (by rw[J.1];omega)]
def F4{D:DF}(h0:0<D.nx.length):∀{m:Nat},(∀j,j<m->bF D (j+1)≠bF D j)->m+1<=Y7 D m
  | 0,_=>by have:(bF D 0).getD 0 0∈fv (fun y=>(bF D 0).getD y 0) D.nx.length:=(jZ _ _ _).2 ⟨0,h0,rfl⟩;exact List.length_pos_of_mem this
  | m+1,h=>by have u:=F4 h0 (m:=m) fun j B=>h j (by omega);have:=Y6 (h m (by omega));omega
def CN{D:DF}(h0:0<D.nx.length){m:Nat}(h:∀j,j<m->bF D (j+1)≠bF D j):m<D.nx.length:=by have h1:=F4 h0 h;have h2:Y7 D m<=D.nx.length:=SJ _ _;omega
def nK(A:Mem)(y B E G f3 I f o:Bool)(D:DF)(J K k:Nat)(u:Int):Mem:=
  A++[.cells 0 J [p64 D.vs,p64 D.st,slR y B E G .i64 D.nx,slB f3 I D.fi,p64 k,slI f o .i64 (bF D k)],.cells 0 K [.iface 122 (.ptr A.length 0 0),p64 u]]
def StM(A:Mem)(D:DF)(m:Nat)(M:Mem):Prop:=
  (∀j,j<m->bF D (j+1)≠bF D j)/\∃(u y B E f3 G f o:Bool) (I J:Nat),M=nK A u y B E f3 G f o D I J m m
section
variable {tab:FuncId->Option AF} (T:HasA tab){M:Mem}{K:PV->Mem->Prop}
include T
def DX{f o B E:Bool}{u:List (List Int)}(hm:u.length<big)(hr:∀r∈u,r.length<big)(G:K (slR Js Jr Js Jr .i64 u) M):au tab 57 [slR f o B E .i64 u] M K:=by
  have hb:u.length<1000000000000:=hm;refine eC T.h57 (by simp only[PP,simprocAttr]) ?_;simp only[af57];refine aE (aC ?_);simp only[PP,simprocAttr];refine cK (GStep.nil 2 1 rfl rfl rfl) ?_;refine aC ?_;simp only[PP,simprocAttr];refine iN (fun(k:Nat) (g:Nat)=>k<=u.length) (fun k g=>(.aa:: .aa:: .ref 0 g 1 0 k:: .aa:: .aa::slR f o B E .i64 u::p64 u.length::p64 k::zj 10)) (fun k g=>[.cells g 0 ((u.take k).map (slI Js Jr .i64))]) (fun k _=>u.length-k) 0 0 (by omega) ?_;intro k g I J;refine aH (by kernel_rfl) ?_;simp only[PP,simprocAttr];refine QIf.intro (fun c=>?_) fun c=>?_;rotate_left
  · obtain rfl:k=u.length:=by omega
    have hfz:uO (Jp (bl.cells g 0 ((u.take u.length).map (slI Js Jr .i64)))) g 1 0 u.length=Jp (slR Js Jr Js Jr .i64 u):=by rw[Ct,gT (by simp) (cM _ _ _ _ _),cN _ _ (by simp)]
    simp only[PP,simprocAttr,c,hfz];exact G
  have hlt:k<u.length:=by omega
  have hw:=aA (k:=k) (by show _<1000000000000;omega);have L:(0:Int)<=k:=by omega
  have O:(k+1)*24<=140737488355328:=by omega
  have Q:k+1<=9223372036854775807:=by omega
  have R:k<=((u.take k)).length:=by rw[Ay];omega
  obtain⟨x,y⟩:=aK hlt;simp only[PP,simprocAttr,c,L,y];refine pY T (hr x (Af y)) ?_;simp only[PP,simprocAttr,O,Q,R,hw];refine bZ (J (k+1) (g+1) (by omega) (by omega)) (by simp only[PW]) ?_;rw[cN _ _ (by simp;omega),fK y];simp
def G8{f o:Bool}{u:List Bool}(hm:u.length<big)(y:K (slB Js Jr u) M):au tab 58 [slB f o u] M K:=by
  have hb:u.length<1000000000000:=hm;have B:u.length<=140737488355328:=by omega
  have E:u.length<=9223372036854775807:=by omega
  refine kR (aB T.h58 (by simp only[PP,simprocAttr]) ?_);simp only[af58,PP,simprocAttr];refine QIf.intro (fun c=>?_) fun c=>?_
  · have:u=[]:=List.length_eq_zero_iff.1 c;subst this;constructor
    · simp only[PP,simprocAttr];exact⟨_,bh.ai _ _ _,y⟩
    · simp only[PP,simprocAttr];exact⟨_,bh.sl _ _ _ _,y⟩
  · simp only[PP,simprocAttr,c,B,E];exact⟨_,bh.refl _,y⟩
def aHu{A:Mem}{K:PV->Mem->Prop}{y E G I f3 J:Bool}{D:DF}(L:fE D=0)(B:BnD D)(u:D.nx.length<=99)
    (O:∀Y v,aI (A.length+1) Y=Jr->K (.ptr (A.length+1) 0 0) (A++[Y,.cells 0 v [p64 D.vs,p64 D.st,slR Js Jr Js Jr .i64 D.nx,slB Js Jr D.fi,p64 (0:Nat),slI Js Jr .i64 (bF D 0)]])):
    au tab 93 [.agg (dfC y E G I f3 J D)] A K:=by
  refine aV T.h93 ?_;simp only[af93,PP,simprocAttr,gk,gk0,sk,sk0];refine DX T B.n B.r ?_;simp only[PP,simprocAttr,gk,gk0,sk,sk0];refine G8 T B.f ?_;simp only[PP,simprocAttr,gk,gk0,sk,sk0,Ac];refine LV T B (fun _=>u) (fun h=>absurd L h) (fun _=>?_) (k:=0) (by omega);simp only[PP,simprocAttr,gk,gk0,sk,sk0,Ac];exact O _ 1 (by simp[aI,aD,PV.under,cM,eK])
def K7{A:Mem}{K:PV->Mem->Prop}{y E G I f3 J:Bool}{D:DF}(B:BnD D)(L:fE D=0->D.nx.length<=99)(hA:A.all (aI A.length)=Jr)
    (O:fE D≠0->K (.tuple [.aq,p64 (fE D)]) A)
    (Q:fE D=0->∀X Y v,aI (A.length+2) X=Jr->aI (A.length+2) Y=Jr->K (.tuple [.ptr (A.length+3) 0 0,p64 0]) (nK (A++[X,Y]) Js Jr Js Jr Js Jr Js Jr D v 0 0 0)):
    au tab 41 [.agg (dfC y E G I f3 J D)] A K:=by
  have R:∀m,aI m (bl.cells 0 0 (dfC y E G I f3 J D))=Jr:=fun m=>by simp[aI,aD,PV.under,cM,eK]
  refine iG (aV T.h41 ?_);simp only[af41,PP,simprocAttr,gk0,sk0];refine OZ T B ?_;by_cases u:fE D=0;rotate_left
  · simp only[PP,simprocAttr,u];refine Gh.step (GStep.ia (b:=[.tuple [.aq,p64 (fE D)]]) (N:=A) A.length (Ab _) (by simp) (by simp only[PW]) (by simp[aD,PV.under]) ?_ (Bj rfl)) (Gh.same ⟨_,rfl,O u⟩);exact(congrArg (fun M:Mem=>M.all (aI A.length)) (Bj rfl)).trans hA
  simp only[PP,simprocAttr,u,gk0,sk0];refine aHu T u B (L u) fun Y v S=>?_;have h:=Q u (.cells 0 0 (dfC y E G I f3 J D)) Y v (R _) (by simpa using S);simp only[PP,simprocAttr,gk,gk0,sk,sk0,rK,tI,nO,Ac];unfold nK at h;simp only[Ac,Ai,Aj,Al,Ak,An,Bg,Ax]at h;exact Gh.same ⟨_,rfl,h⟩
def NG{A:Mem}{K:PV->Mem->Prop}{G I J L f3 O f o:Bool}{D:DF}{Q R k:Nat}{u:Int}(U:fE D=0)(B:BnD D)(y:D.nx.length<=99)(E:k+1<1000000000000)
    (S:K (slI Js Jr .i64 (bF D (k+1))) (nK A G I J L f3 O f o D Q R k u)):au tab 262 [.ptr A.length 0 0] (nK A G I J L f3 O f o D Q R k u) K:=by
  have hw:=aA (k:=k) (by show _<1000000000000;omega);refine aV T.h262 ?_;unfold nK at S ⊢;simp only[af262,PP,simprocAttr,gk,gk0,sk,sk0,hw];refine LV T B (fun _=>y) (fun h=>absurd U h) (fun _=>?_) (k:=k+1) E;simp only[PP,simprocAttr];exact S
def aCi{A:Mem}{D:DF}(hc:fE D=0)(B:BnD D)(h99:D.nx.length<=99):
    re tab (A.length+1) A.length 122 261 260 10 (fun m=>bF D (m+1)=bF D m) (fun _=>False) (fun m=> !decide (bF D (m+1)=bF D m)) (StM A D) where
  job:=by rintro m M ⟨_,f1,o1,f2,o2,f3,o3,f,o,v1,v2,rfl⟩;exact⟨v2,by unfold nK;rw[gk];rfl⟩
  sm:=by rintro m M ⟨h,_⟩;have:=CN (gm.1 hc).n0 h;omega
  unit:=by
    rintro m M ⟨h,f1,o1,f2,o2,f3,o3,f,o,v1,v2,rfl⟩ K k1 k2 k3;have hlt:=CN (gm.1 hc).n0 h;have hw:=aA (k:=m) (by show _<1000000000000;omega);refine aV T.h261 ?_;simp only[af261,PP,simprocAttr];refine NG T hc B h99 (by omega) ?_;unfold nK;simp only[PP,simprocAttr,gk,gk0,sk,sk0];refine Q1 T (by rw[fF];exact B.n) ?_;by_cases e:bF D (m+1)=bF D m
    · simp only[PP,simprocAttr,e];exact k1 e _ ⟨h,f1,o1,f2,o2,f3,o3,f,o,v1,v2,rfl⟩
    · simp only[PP,simprocAttr,e,gk,gk0,sk,sk0,hw];refine k3 e (fun q=>q) _ v2 (by rw[gk];rfl) ⟨fun j hj=>?_,f1,o1,f2,o2,f3,o3,Js,Jr,v1+1+1,v2+1,?_⟩
      · by_cases q:j=m
        · subst q;exact e
        · exact h j (by omega)
      · unfold nK;rw[sk];rfl
  left:=by rintro m M ⟨h,f1,o1,f2,o2,f3,o3,f,o,v1,v2,rfl⟩ K k;have hlt:=CN (gm.1 hc).n0 h;refine aV T.h260 ?_;simp only[af260,PP,simprocAttr];refine NG T hc B h99 (by omega) ?_;have hk:=k _ ⟨h,f1,o1,f2,o2,f3,o3,f,o,v1,v2,rfl⟩;unfold nK at hk ⊢;simp only[PP,simprocAttr,gk,gk0,sk,sk0];refine Q1 T (by rw[fF];exact B.n) ?_;simp only[PP,simprocAttr];exact hk
  qv:= .inr (.inl ⟨rfl,rfl,rfl⟩)
end
abbrev msM(b:Nat)(y B E G f3 I J K:Bool)(ow pr:List Int)(su:List (List Int))(L:List Ms)(M O Q:Nat)(d:Bool)(u:Int):Mem:=
  [.cells 0 M [slI y B .u8 ow,slI E G .i64 pr,slR f3 I J K .i64 su,.ref (b+2) 0 9 0 ow.length,.bool d],.gone,.cells 0 O (msL L),.cells 0 Q [.iface 125 (.ptr b 0 0),p64 u]]
def kM(A:Mem)(y B E G f3 I J K:Bool)(ow pr:List Int)(su:List (List Int))(L:List Ms)(M O Q:Nat)(b:Bool)(u:Int):Mem:=
  A++msM A.length y B E G f3 I J K ow pr su L M O Q b u
def JT{u:List Nat}{x y:Ms}(B:x.Ok u)(E:y.Ok u):AW x y<=0↔x.num u<=y.num u:=by rw[tQ B E];have:= @mC (x.num u) (y.num u);omega
section
variable {tab:FuncId->Option AF} (T:HasA tab){M:Mem}{K:PV->Mem->Prop}
include T
def VF{E G I J f3 L O Q:Bool}{ow pr:List Int}{su:List (List Int)}{u:List Ms}{id ver v:Nat}(Y:M[id]? =Jp (.cells 0 ver (msL u)))(S:eF ow pr su=0)(B:Bnd ow pr su)(U:im (aY pr) ow.length u)(hv:v<ow.length)
    (Z:∀y,y.Ok (aY pr)->y.num (aY pr)=gL ow pr su (Nf (aY pr) u) v->K (.tuple [.agg (msC y),p64 0]) M):
    au tab 266 [gmP E G I J f3 L O Q ow pr su,.ref id 0 9 0 ow.length,p64 v] M K:=by
  have V:=jB S;have n1:=V.n1;have hl:=U.l;have R:jf M [gmP E G I J f3 L O Q ow pr su,.ref id 0 9 0 ow.length,p64 v] [gmP E G I J f3 L O Q ow pr su,slM Jr Js u,p64 v]:=by refine .same (by simp only[PP,simprocAttr]) ?_;rw[<-hl];exact .ref Y (by rw[mV];omega) (gZ _ _) (kJ u) (.same (by simp only[PP,simprocAttr]) .nil)
  refine mE R (aIq T B (by omega) fun y e hA=>⟨by simp only[PV.flat,PV.mw,PV.ni,sJ,Cv,Fv,Bz],?_⟩);rcases hA with⟨a1,_⟩ | ⟨_,a2,_⟩ | ⟨_,_,a3,_⟩ | ⟨_,_,a4,_⟩ | ⟨_,_,_,_,a5,a6,rfl⟩
  · exact absurd S a1
  · exact absurd hl a2
  · exact absurd U.ok a3
  · omega
  · exact Z y a5 (by simpa using a6)
def aI7{A G:Mem}{K:PV->Mem->Prop}{L O Q R f3 S U Y:Bool}{ow pr:List Int}{su:List (List Int)}{E:List Ms}{Z v2 v3:Nat}{b:Bool}{u:Int}(c1:eF ow pr su=0)(B:Bnd ow pr su)(hS:im (aY pr) ow.length E)
    (hk:∀r G',(r=Js↔rS ow.length (gL ow pr su) (Nf (aY pr) E))->K (.bool r) (A++(msM A.length L O Q R f3 S U Y ow pr su E Z v2 v3 b u++G'))):
    au tab 263 [.ptr A.length 0 0] (A++(msM A.length L O Q R f3 S U Y ow pr su E Z v2 v3 b u++G)) K:=by
  have V:=jB c1;have n1:=V.n1;have hl:=hS.l;refine aV T.h263 ?_;simp only[af263,PP,simprocAttr,gk,gk0,sk,sk0];refine iN (fun(i:Nat) (G:Mem)=>i<=ow.length/\∀v,v<i->gL ow pr su (Nf (aY pr) E) v<=Nf (aY pr) E v) (fun i G=>(.ptr A.length 0 0::zj 9++p64 ow.length::p64 i::zj 26))
    (fun i G=>A++(msM A.length L O Q R f3 S U Y ow pr su E Z v2 v3 b u++G)) (fun i G=>ow.length-i) 0 G ⟨by omega,fun v h=>by omega⟩ ?_
  intro i G ⟨hi,hp⟩ ih;refine aH (by kernel_rfl) ?_;simp only[PP,simprocAttr];refine QIf.intro (fun c=>?_) fun c=>?_;rotate_left
  · obtain rfl:i=ow.length:=by omega
    simp only[PP,simprocAttr,c];exact hk Js G ⟨fun _=>hp,fun _=>rfl⟩
  have hlt:i<ow.length:=by omega
  have i0:(0:Int)<=i:=by omega
  have hw:=aA (k:=i) (by show _<1000000000000;omega);obtain⟨x,gx⟩:=aK (xs:=E) (k:=i) (by omega);have hx:=hS.ok x (Af gx);have a0:=jT gx;have J:i*9+9<=E.length*9:=by omega
  simp only[PP,simprocAttr,c,gk,gk0,sk,sk0,Ac];refine VF T (by rw[gk];rfl) c1 B hS hlt fun y hy hn=>?_;simp only[PP,simprocAttr,PN,c,i0,gk,gk0,sk,sk0,Ac];rw[a0];refine⟨J,?_⟩;refine pW T ?_;have I:=JT hy hx;rw[hn,<-s9 gx]at I;by_cases d:AW y x<=0
  · have d':¬0<AW y x:=by omega
    simp only[PP,simprocAttr,d',hw];refine aG (ih (i+1) (G++[.cells 0 1 (msC y)]) ⟨by omega,fun v hv=>?_⟩ (by omega));by_cases q:v=i
    · subst q;exact I.1 d
    · exact hp v (by omega)
  · have d':0<AW y x:=by omega
    simp only[PP,simprocAttr,d'];refine hk Jr (G++[.cells 0 1 (msC y)]) ⟨fun h=>(by cases h),fun h=>?_⟩;exact absurd (I.2 (h i hlt)) d
def aEB{A:Mem}{K:PV->Mem->Prop}{U Y Z o2 f3 o3 f4 o4:Bool}{ow pr:List Int}{su:List (List Int)}{J:List Ms}{L S v3:Nat}{b:Bool}{u:Int}(hA:A.all (aI A.length)=Jr)(c1:eF ow pr su=0)(B:Bnd ow pr su)(hS:im (aY pr) ow.length J)
    (a5:rS ow.length (gL ow pr su) (Nf (aY pr) J)->∀a2,K (.tuple [.bool Js,p64 0]) (kM A U Y Z o2 f3 o3 f4 o4 ow pr su J a2 S v3 Jr u))
    (a4:∀v y r a2 a6,nj ow.length (gL ow pr su) (Nf (aY pr) J) v->y.Ok (aY pr)->y.num (aY pr)=gL ow pr su (Nf (aY pr) J) v->(r=Jr↔rS ow.length (gL ow pr su) (Nf (aY pr) (J.set v y)))->K (.tuple [.bool Jr,p64 0]) (kM A U Y Z o2 f3 o3 f4 o4 ow pr su (J.set v y) a2 a6 v3 r u)):
    au tab 265 [.ptr A.length 0 0] (kM A U Y Z o2 f3 o3 f4 o4 ow pr su J L S v3 b u) K:=by
  have V:=jB c1;have n1:=V.n1;have hl:=hS.l;have Q:∀(J:List Ms) (L S:Nat) (b:Bool),(kM A U Y Z o2 f3 o3 f4 o4 ow pr su J L S v3 b u).all (aI (A.length+4))=Jr:=fun J L S b=>by unfold kM;rw[Cl,fJ (by omega) hA];simp[aI,aD,PV.under,b9,cM,gZ]
  have I:∀(J:List Ms) (L S:Nat) (b:Bool) (G:Mem),(A++(msM A.length U Y Z o2 f3 o3 f4 o4 ow pr su J L S v3 b u++G)).take (A.length+4)=kM A U Y Z o2 f3 o3 f4 o4 ow pr su J L S v3 b u:=fun J L S b G=>by unfold kM;rw[<-Ac];exact Bj (by simp)
  refine iG (jV T.h265 ?_);simp only[af265];refine aC ?_;have a7:(kM A U Y Z o2 f3 o3 f4 o4 ow pr su J L S v3 b u).length=A.length+4:=by simp[kM]
  rw[a7];unfold kM at I Q ⊢;simp only[msM,PP,simprocAttr,gk,gk0,sk,sk0];refine aGB (fun(i:Nat) (l:Bool) (E:List Ms) (O:Nat) (G:Mem)=>i<=ow.length/\im (aY pr) ow.length E/\(l=Js->E=J/\O=S/\∀v,v<i->gL ow pr su (Nf (aY pr) J) v<=Nf (aY pr) J v)/\(l=Jr->∃v y,nj ow.length (gL ow pr su) (Nf (aY pr) J) v/\y.Ok (aY pr)/\y.num (aY pr)=gL ow pr su (Nf (aY pr) J) v/\E=J.set v y))
    (fun i l E O G=>(.ptr A.length 0 0::zj 3++ .bool l::zj 10++p64 ow.length::p64 i::zj 45)) (fun i l E O G=>A++(msM A.length U Y Z o2 f3 o3 f4 o4 ow pr su E (L+1) O v3 Jr u++G)) (fun i l E O G=>ow.length-i) 0 Js J S [] ⟨by omega,hS,fun _=>⟨rfl,rfl,fun v h=>by omega⟩,fun h=>by cases h⟩ ?_ (by simp only[PW]) (by rw[Ao])
  intro i l E O G ⟨hi,R,hf,ht⟩ ih;have b0:=R.l;refine aH (by kernel_rfl) ?_;simp only[PP,simprocAttr];refine QIf.intro (fun c=>?_) fun c=>?_
  · have hlt:i<ow.length:=by omega
    have i0:(0:Int)<=i:=by omega
    have hw:=aA (k:=i) (by show _<1000000000000;omega);obtain⟨x,gx⟩:=aK (xs:=E) (k:=i) (by omega);have hx:=R.ok x (Af gx);have a9:=jT gx;have a0:i*9+9<=E.length*9:=by omega
    simp only[msM,PP,simprocAttr,c,gk,gk0,sk,sk0,Ac];refine VF T (by rw[gk];rfl) c1 B R hlt fun y hy hn=>?_;simp only[PP,simprocAttr,PN,c,i0,gk,gk0,sk,sk0,Ac];rw[a9];refine⟨a0,?_⟩;refine pW T ?_;have a1:=JT hy hx;rw[hn,<-s9 gx]at a1;by_cases d:AW y x<=0
    · simp only[PP,simprocAttr,d,hw];refine aG (ih (i+1) l E O (G++[.cells 0 1 (msC y)]) ⟨by omega,R,fun q=>?_,ht⟩ (by omega));obtain⟨q1,q2,q3⟩:=hf q;refine⟨q1,q2,fun v hv=>?_⟩;by_cases e:v=i
      · subst e;rw[<-q1];exact a1.1 d
      · exact q3 v (by omega)
    · cases l with
      | true=>
        obtain⟨v,y2,p1,p2,p3,rfl⟩:=ht rfl;simp only[PP,simprocAttr,d,gk,gk0,sk,sk0];refine Gh.step (GStep.ia (b:=[.tuple [.bool Jr,p64 0]]) (N:=kM A U Y Z o2 f3 o3 f4 o4 ow pr su (J.set v y2) (L+1+1) O v3 Js u) (A.length+4) (Ab _) (by simp) (by simp only[PW]) (by simp[aD,PV.under]) ?_ ?_) (Gh.same ⟨_,rfl,a4 v y2 Js _ _ p1 p2 p3 ⟨fun h=>(by cases h),fun h=>?_⟩⟩)
        · exact(congrArg (fun M:Mem=>M.all (aI (A.length+4))) (I (J.set v y2) (L+1+1) O Js _)).trans (Q ..)
        · exact I (J.set v y2) (L+1+1) O Js _
        · exact absurd (a1.2 (h i hlt)) d
      | false=>obtain⟨rfl,rfl,q3⟩:=hf rfl;have a3:=xX (l:=E) y (k:=i) (by omega);simp only[PP,simprocAttr,PN,d,gk,gk0,sk,sk0,i0,c,a0,a3,hw];refine bZ (ih (i+1) Jr (E.set i y) (O+1) (G++[.cells 0 1 (msC y)]) ⟨by omega,R.set hy,⟨fun q=>Bool.noConfusion q,fun _=>⟨i,y,⟨hlt,?_,fun u hu=>q3 u hu⟩,hy,hn,rfl⟩⟩⟩ (by omega)) (by simp only[PW]) rfl;have:=fun h=>d (a1.2 h);omega
  · obtain rfl:i=ow.length:=by omega
    cases l with
    | true=>
      obtain⟨v,y2,p1,p2,p3,rfl⟩:=ht rfl;simp only[PP,simprocAttr,c,gk,gk0,sk,sk0];refine aI7 T (G:=G) c1 B R fun r G' hr=>?_;simp only[msM,PP,simprocAttr,gk,gk0,sk,sk0];refine Gh.step (GStep.ia (b:=[.tuple [.bool Jr,p64 0]]) (N:=kM A U Y Z o2 f3 o3 f4 o4 ow pr su (J.set v y2) (L+1+1) O v3 (!r) u) (A.length+4) (Ab _) (by simp) (by simp only[PW]) (by simp[aD,PV.under]) ?_ ?_) (Gh.same ⟨_,rfl,a4 v y2 (!r) _ _ p1 p2 p3 ?_⟩)
      · exact(congrArg (fun M:Mem=>M.all (aI (A.length+4))) (I (J.set v y2) (L+1+1) O (!r) _)).trans (Q ..)
      · exact I (J.set v y2) (L+1+1) O (!r) _
      · rw[<-hr];cases r<;>simp
    | false=>
      obtain⟨rfl,rfl,q3⟩:=hf rfl;simp only[PP,simprocAttr,c,gk,gk0,sk,sk0];refine Gh.step (GStep.ia (b:=[.tuple [.bool Js,p64 0]]) (N:=kM A U Y Z o2 f3 o3 f4 o4 ow pr su E (L+1) O v3 Jr u) (A.length+4) (Ab _) (by simp) (by simp only[PW]) (by simp[aD,PV.under]) ?_ ?_) (Gh.same ⟨_,rfl,a5 q3 _⟩)
      · exact(congrArg (fun M:Mem=>M.all (aI (A.length+4))) (I E (L+1) O Jr _)).trans (Q ..)
      · exact I E (L+1) O Jr _
end
def wG{u:List Ms} :∀v∈msL u,(∃b,v= .bool b)\/∃n,v=p64 n:=fun v hv=>by
  unfold msL at hv;obtain⟨x,_,h⟩:=List.mem_flatMap.1 hv;rcases List.mem_cons.1 h with rfl | h
  · exact .inl ⟨_,rfl⟩
  · obtain⟨n,_,rfl⟩:=List.mem_map.1 h;exact .inr ⟨n,rfl⟩
def LP(k:Nat):∀{l:List PV},(∀v∈l,(∃b,v= .bool b)\/∃n,v=p64 n)->shL k l=l
  | [],_=>by simp[shL]
  | v::l,h=>by have h1:=LP k (l:=l) fun x u=>h x (by simp[u]);rcases h v (by simp)with⟨b,rfl⟩ | ⟨n,rfl⟩<;>simp[shL,PV.sh,h1]
def aBR(u:List Ms):rW (msL u)=Jr:=(xS _).2 fun v hv=>by rcases wG v hv with⟨b,rfl⟩ | ⟨n,rfl⟩<;>simp[PV.mu]
def aB2(c:Nat):∀{ns:List Nat},(∀n∈ns,n<=c)->mT ns<=(c+1)^ns.length
  | [],_=>by simp[mT]
  | n::ns,h=>by have h1:=aB2 c (ns:=ns) fun x u=>h x (by simp[u]);have h2:=h n (by simp);show(n+1)*mT ns<=_;rw[Ak,Nat.pow_succ,Cz];exact Gn h1 (by omega)
def VE(pr:List Int):∀n∈aY pr,n<=pr.length:=fun n u=>by obtain⟨v,_,rfl⟩:=CA u;exact Hj
def aIx{ow pr:List Int}{su:List (List Int)}(V:Valid ow pr su)(h:ow.length<=99)(m:Nat):rP ow.length (itN ow.length (gL ow pr su) m)<4000000000000000000:=by
  have h1:=BB (n:=ow.length) (m:=itN ow.length (gL ow pr su) m) (JF (tC V) m).bnd;have h2:mT (aY pr)<=100^8:=by
    have:=aB2 99 (ns:=aY pr) fun n u=>by have:=VE pr n u;have:=V.p;omega
    rw[lZ]at this;exact this
  have h3:=Gn h h2;have B:99*100^8<4000000000000000000:=by decide
  omega
def StP(A:Mem)(ow pr:List Int)(su:List (List Int))(m:Nat)(M:Mem):Prop:=
  m<=rP ow.length (itN ow.length (gL ow pr su) m)/\∃(y B E G f3 I J K:Bool) (u:List Ms) (L O Q:Nat) (b:Bool),im (aY pr) ow.length u/\Nf (aY pr) u=itN ow.length (gL ow pr su) m/\(b=Jr↔rS ow.length (gL ow pr su) (itN ow.length (gL ow pr su) m))/\M=kM A y B E G f3 I J K ow pr su u L O Q b m
open Classical in
noncomputable def aE9(ow pr:List Int)(su:List (List Int))(m:Nat):Bool:= !decide (rS ow.length (gL ow pr su) (itN ow.length (gL ow pr su) m))
def BL{A:Mem}{B E G I f3 J K L:Bool}{ow pr:List Int}{su:List (List Int)}{M:List Ms}{O Q y:Nat}{b:Bool}{u:Int} :(kM A B E G I f3 J K L ow pr su M O Q y b u)[A.length+3]? =Jp (.cells 0 y [.iface 125 (.ptr A.length 0 0),p64 u]):=by unfold kM;rw[gk];rfl
section
variable {tab:FuncId->Option AF} (T:HasA tab){M:Mem}{K:PV->Mem->Prop}
include T
def aCM{f o:Bool}{u:List Int}(hm:u.length<big)(y:K (slI Js Jr .u8 u) M):au tab 158 [slI f o .u8 u] M K:=by
  have hb:u.length<1000000000000:=hm;have B:u.length<=140737488355328:=by omega
  have E:u.length<=9223372036854775807:=by omega
  refine kR (aB T.h158 (by simp only[PP,simprocAttr]) ?_);simp only[af158,PP,simprocAttr];refine QIf.intro (fun c=>?_) fun c=>?_
  · have:u=[]:=List.length_eq_zero_iff.1 c;subst this;constructor
    · simp only[PP,simprocAttr];exact⟨_,bh.ai _ _ _,y⟩
    · simp only[PP,simprocAttr];exact⟨_,bh.sl _ _ _ _,y⟩
  · simp only[PP,simprocAttr,c,B,E];exact⟨_,bh.refl _,y⟩
def aC6{G I J L f3 O Q R:Bool}{ow pr:List Int}{su:List (List Int)}(B:Bnd ow pr su)(S:eF ow pr su=0)
    (U:∀u b v,vD ow pr su 0 u b 0->K (.tuple [.ref (M.length+1) 0 9 0 ow.length,.bool b,p64 0]) (M++[.gone,.cells 0 v (msL u)])):
    au tab 159 [gmP G I J L f3 O Q R ow pr su,p64 0] M K:=by
  refine aDI (args2:=[gmP G I J L f3 O Q R ow pr su,p64 0]) (args3:=[gmP Js Js Js Js Js Js Js Js ow pr su,p64 0]) (.same (by simp only[PP,simprocAttr]) (.same (by simp only[PP,simprocAttr]) .nil)) ?_ ?_
  · simp only[eD,PV.age,iK,aC5,iZ,Ah,Av,bl.po,slR]
  refine aC7 T B (by omega) S (by omega) fun u b v X hA=>⟨[.gone,.cells 0 v (msL u)],?_,by simp,by simp[PV.mu,rW],by simp[aGu,aBR],?_⟩
  · intro i o h
    match i,h with
    | 0,h=>left;simpa using h.symm
    | 1,h=>right;simpa using h
    | i+2,h=>simp at h
  · have:=U u b v hA;rw[Dh]at this;simpa [PV.sh,shL,shO,LP _ wG]using this
def aHt{A:Mem}{K:PV->Mem->Prop}{y E G I f3 J L O:Bool}{ow pr:List Int}{su:List (List Int)}(B:Bnd ow pr su)(Q:eF ow pr su=0)
    (R:∀Y S U u b,aI (A.length+1) Y=Jr->vD ow pr su 0 u b 0->K (.ptr (A.length+1) 0 0) (A++[Y,.cells 0 S [slI Js Jr .u8 ow,slI Js Jr .i64 pr,slR Js Jr Js Jr .i64 su,.ref (A.length+3) 0 9 0 ow.length,.bool b],.gone,.cells 0 U (msL u)])):
    au tab 94 [gmP y E G I f3 J L O ow pr su] A K:=by
  refine aV T.h94 ?_;simp only[af94,PP,simprocAttr,gk,gk0,sk,sk0];refine aCM T B.o ?_;simp only[PP,simprocAttr,gk,gk0,sk,sk0];refine pY T B.p ?_;simp only[PP,simprocAttr,gk,gk0,sk,sk0];refine DX T B.s B.r ?_;simp only[PP,simprocAttr,gk,gk0,sk,sk0,Ac];refine aC6 T B Q fun u b v hA=>?_;simp only[PP,simprocAttr,PN,gk,gk0,sk,sk0,Ac];exact R _ 2 v u b (by simp[aI,aD,PV.under,b9,cM]) hA
def K6{A:Mem}{K:PV->Mem->Prop}{E G I J f3 L O Q:Bool}{ow pr:List Int}{su:List (List Int)}(B:Bnd ow pr su)(hA:A.all (aI A.length)=Jr)
    (R:eF ow pr su≠0->K (.tuple [.aq,p64 (eF ow pr su)]) A)
    (S:eF ow pr su=0->∀X Y v1 v2 y b,aI (A.length+2) X=Jr->aI (A.length+2) Y=Jr->vD ow pr su 0 y b 0->K (.tuple [.ptr (A.length+5) 0 0,p64 0]) (kM (A++[X,Y]) Js Jr Js Jr Js Jr Js Jr ow pr su y v1 v2 0 b 0)):
    au tab 42 [gmP E G I J f3 L O Q ow pr su] A K:=by
  have U:∀m,aI m (bl.cells 0 0 [slI E G .u8 ow,slI I J .i64 pr,slR f3 L O Q .i64 su])=Jr:=fun m=>by simp[aI,aD,PV.under,b9,cM]
  refine iG (aV T.h42 ?_);simp only[af42,PP,simprocAttr,gk0,sk0];refine JU T B ?_;by_cases u:eF ow pr su=0;rotate_left
  · simp only[PP,simprocAttr,u];refine Gh.step (GStep.ia (b:=[.tuple [.aq,p64 (eF ow pr su)]]) (N:=A) A.length (Ab _) (by simp) (by simp only[PW]) (by simp[aD,PV.under]) ?_ (Bj rfl)) (Gh.same ⟨_,rfl,R u⟩);exact(congrArg (fun M:Mem=>M.all (aI A.length)) (Bj rfl)).trans hA
  simp only[PP,simprocAttr,u,gk0,sk0];refine aHt T B u fun Y v1 v2 y b V hA=>?_;have h:=S u (.cells 0 0 [slI E G .u8 ow,slI I J .i64 pr,slR f3 L O Q .i64 su]) Y v1 v2 y b (U _) (by simpa using V) hA;simp only[PP,simprocAttr,gk,gk0,sk,sk0,rK,tI,nO,Ac];unfold kM at h;simp only[msM,Ac,Ai,Aj,Al,Ak,An,Bg,Ax]at h;exact Gh.same ⟨_,rfl,h⟩
def YT{A:Mem}{ow pr:List Int}{su:List (List Int)}(hA:A.all (aI A.length)=Jr)(c1:eF ow pr su=0)(B:Bnd ow pr su)(h99:ow.length<=99):
    re tab (A.length+3) A.length 125 265 264 10 (fun m=>rS ow.length (gL ow pr su) (itN ow.length (gL ow pr su) m)) (fun _=>False) (aE9 ow pr su) (StP A ow pr su) where
  job:=by rintro m M ⟨_,f1,o1,f2,o2,f3,o3,f4,o4,ms,v1,v2,v3,b,_,_,_,rfl⟩;exact⟨v3,BL⟩
  sm:=by rintro m M ⟨h,_⟩;have:=aIx (jB c1) h99 m;omega
  unit:=by
    rintro m M ⟨h,f1,o1,f2,o2,f3,o3,f4,o4,ms,v1,v2,v3,b,hS,hN,hb,rfl⟩ K k1 k2 k3;refine aEB T hA c1 B hS (fun hp v1'=>?_) fun v y r v1' v2' hF hy hn hr=>?_
    · rw[hN]at hp;exact k1 hp _ ⟨h,f1,o1,f2,o2,f3,o3,f4,o4,ms,v1',v2,v3,Jr,hS,hN,⟨fun _=>hp,fun _=>rfl⟩,rfl⟩
    · have hv:v<ms.length:=by rw[hS.l];exact hF.1
      have hnx:Nf (aY pr) (ms.set v y)=itN ow.length (gL ow pr su) (m+1):=by show _=uF ow.length (gL ow pr su) (itN ow.length (gL ow pr su) m);rw[T5 hv,hn,hN,qK (by rw[<-hN];exact hF)]
      refine k3 (fun hp=>?_) (fun q=>q) _ v3 BL ⟨?_,f1,o1,f2,o2,f3,o3,f4,o4,ms.set v y,v1',v2',v3+1,r,hS.set hy,hnx,by rw[<-hnx];exact hr,?_⟩
      · have:=hp v hF.1;rw[<-hN]at this;have:=hF.2.1;omega
      · have e:itN ow.length (gL ow pr su) (m+1)=oY (itN ow.length (gL ow pr su) m) v (gL ow pr su (itN ow.length (gL ow pr su) m) v):=by show uF ow.length (gL ow pr su) (itN ow.length (gL ow pr su) m)=_;exact qK (by rw[<-hN];exact hF)
        have hF2:=hF.2.1;rw[hN]at hF2;have:=vR (n:=ow.length) (m:=itN ow.length (gL ow pr su) m) (v:=v) (x:=gL ow pr su (itN ow.length (gL ow pr su) m) v) hF.1 hF2;rw[e];omega
      · unfold kM;rw[sk];rfl
  left:=by
    rintro m M ⟨h,f1,o1,f2,o2,f3,o3,f4,o4,ms,v1,v2,v3,b,hS,hN,hb,rfl⟩ K k;refine aV T.h264 ?_;have hk:=k _ ⟨h,f1,o1,f2,o2,f3,o3,f4,o4,ms,v1,v2,v3,b,hS,hN,hb,rfl⟩;have e:aE9 ow pr su m= !b:=by unfold aE9;congr 1;exact Bool.eq_iff_iff.2 (Iff.trans (@decide_eq_true_iff _ (Classical.propDecidable _)) hb.symm)
    rw[e]at hk;unfold kM at hk ⊢;simp only[af264,msM,PP,simprocAttr,gk,gk0,sk,sk0];exact hk
  qv:= .inr (.inr ⟨rfl,rfl,rfl⟩)
end
end Go.Am.Ar
--P14
namespace Go.Am.Ar
open Go.Am.PV renaming aa->Zj
open Go.Am renaming jc->P1,lg->P2,kq->P3,ep->P4,bl.under->P5,fy->P6,dr->P7,bf->P8,pev->P9,iw->P10,bd->P11,jl->P12,dw->P13,fY->P14,AO.effect->P15
open List renaming replicate->L1
def BU(f o:Bool)(sz n:Nat)(cs:List PV):PV.age (.sl f o sz n cs)= .sl Js Js sz n (eD cs):=by simp[PV.age]
def S4(f o:Bool)(u:List (List Int)):eD (u.map (slI f o .i64))=u.map (slI Js Js .i64):=by rw[gP,Cs];exact Cq fun x _=>by show PV.age (slI f o .i64 x)=_;unfold slI;rw[BU,iK]
def QK(f g:Bool)(u:List (List Int)):PV.br (slR f Jr g Jr .i64 u)=Jr:=by unfold slR;rw[B0];exact(mH _).2 fun v hv=>by obtain⟨x,_,rfl⟩:=List.mem_map.1 hv;exact WK _ _ _ _ _
def KF(f:Bool)(u:List Bool):PV.br (slB f Jr u)=Jr:=by unfold slB;rw[B0];exact(mH _).2 fun v hv=>by obtain⟨x,_,rfl⟩:=List.mem_map.1 hv;exact B1 _
def aAm(f:Bool)(u:List Ms):PV.br (slM f Jr u)=Jr:=by unfold slM;rw[B0];exact(mH _).2 fun v hv=>by rcases wG v hv with⟨b,rfl⟩ | ⟨n,rfl⟩;exact B1 _;exact WM _ _
def aFH(u:List Ms):eD (msL u)=msL u:=by
  have h:∀l:List PV,(∀v∈l,(∃b,v= .bool b)\/∃n,v=p64 n)->eD l=l:=by
    intro l
    induction l with
    | nil=>intro _;simp[eD]
    | cons v l y=>intro h;have h1:=y fun x B=>h x (by simp[B]);rcases h v (by simp)with⟨b,rfl⟩ | ⟨n,rfl⟩<;>simp[eD,PV.age,h1]
  exact h _ wG
abbrev CQ(f:Bool)(y:Int)(rows:List (List Int))(B:List Bool)(E:List (List Int))(u:List Int)(G:List Ms):PV:=
  .agg [p64 y,p64 0,slR f Jr f Jr .i64 rows,slB f Jr B,slR f Jr f Jr .i64 E,slI f Jr .i64 u,slM f Jr G]
def xE{B:Int}{a b c d e:PV}{rows:List (List Int)}{E:List Bool}{G:List (List Int)}{u:List Int}{I:List Ms}(h1:bh a (slR Js Jr Js Jr .i64 rows))(h2:bh b (slB Js Jr E))(h3:bh c (slR Js Jr Js Jr .i64 G))(J:bh d (slI Js Jr .i64 u))(K:bh e (slM Js Jr I)):
    bh (.agg [p64 B,p64 0,a,b,c,d,e]) (CQ Js B rows E G u I):=by
  refine bh.agg rfl fun i y z p q=>?_
  match i,p,q with
  | 0,p,q=>cases p;cases q;exact bh.refl _
  | 1,p,q=>cases p;cases q;exact bh.refl _
  | 2,p,q=>cases p;cases q;exact h1
  | 3,p,q=>cases p;cases q;exact h2
  | 4,p,q=>cases p;cases q;exact h3
  | 5,p,q=>cases p;cases q;exact J
  | 6,p,q=>cases p;cases q;exact K
  | i+7,p,q=>simp at p
section
variable {tab:FuncId->Option AF} (T:HasA tab){M:Mem}{K:PV->Mem->Prop}
include T
def G6{id g v:Nat}{f o:Bool}{u:List (List Int)}(E:M[id]? =Jp (.cells g v (u.map (slI f o .i64))))(hm:u.length<big)(hr:∀r∈u,r.length<big)(G:K (slR Js Jr Js Jr .i64 u) M):au tab 57 [.ref id g 1 0 u.length] M K:=by refine yW (args2:=[.sl Jr Js 1 u.length (u.map (slI f o .i64))]) (args3:=[slR Js Js Js Js .i64 u]) (.ref E (by simp) (cM _ _ _ _ _) (cN _ _ (by simp)) .nil) ?_ (DX T hm hr ⟨QK _ _ _,G⟩);simp only[eD,BU,S4,slR]
def ZC{id g v:Nat}{u:List Bool}(E:M[id]? =Jp (.cells g v (u.map PV.bool)))(hm:u.length<big)(G:K (slB Js Jr u) M):au tab 58 [.ref id g 1 0 u.length] M K:=by refine yW (args2:=[.sl Jr Js 1 u.length (u.map PV.bool)]) (args3:=[slB Js Js u]) (.ref E (by simp) (eK _ _) (cN _ _ (by simp)) .nil) ?_ (G8 T hm ⟨KF _ _,G⟩);simp only[eD,BU,iZ,slB]
def Y9{f o:Bool}{u:List Ms}(hm:u.length<big)(y:K (slM Js Jr u) M):au tab 60 [slM f o u] M K:=by
  have hb:u.length<1000000000000:=hm;have B:u.length*72<=140737488355328:=by omega
  have E:u.length<=9223372036854775807:=by omega
  refine kR (aB T.h60 (by simp only[PP,P14,simprocAttr,PN,PV.under]) ?_);simp only[af60,PP,P14,simprocAttr,PN];refine QIf.intro (fun c=>?_) fun c=>?_
  · have:u=[]:=List.length_eq_zero_iff.1 c;subst this;constructor
    · simp only[PP,P14,simprocAttr];exact⟨_,bh.ai _ _ _,y⟩
    · simp only[PP,P14,simprocAttr,PN];exact⟨_,bh.sl _ _ _ _,y⟩
  · simp only[PP,P14,simprocAttr,PN,c,B,E];rw[kJ];exact⟨_,bh.refl _,y⟩
def ZA{id g v:Nat}{u:List Ms}(E:M[id]? =Jp (.cells g v (msL u)))(hm:u.length<big)(G:K (slM Js Jr u) M):au tab 60 [.ref id g 9 0 u.length] M K:=by refine yW (args2:=[slM Jr Js u]) (args3:=[slM Js Js u]) (.ref E (by rw[mV];omega) (gZ _ _) (kJ u) .nil) ?_ (Y9 T hm ⟨aAm _ _,G⟩);simp only[eD,BU,aFH,slM]
def aHh{j w v Q i2 J R i5 L S i6 O U:Nat}{u:Int}{a b c d e x:PV}{E:Int}{V Y Z o2:Bool}{rows kh:List (List Int)}{de:List Bool}
    (hj:M[j]? =Jp (.cells 0 v [.iface 116 (.ptr w 0 0),p64 u])) (hw:M[w]? =Jp (.cells 0 Q [p64 E,a,b,c,d,e,.ref i2 J 1 0 kh.length,x,.ref i5 L 1 0 rows.length,.ref i6 O 1 0 de.length]))
    (h2:M[i2]? =Jp (.cells J R (kh.map (slI Z o2 .i64)))) (h5:M[i5]? =Jp (.cells L S (rows.map (slI V Y .i64)))) (h6:M[i6]? =Jp (.cells O U (de.map PV.bool)))
    (hs:kh.length<big) (G:∀r∈kh,r.length<big) (hr:rows.length<big) (I:∀r∈rows,r.length<big) (hf:de.length<big) (hc:M.all (aI M.length)=Jr)
    (hk:K (CQ Js E rows de kh [] []) M):au tab 20 [.ptr j 0 0] M K:=by
  have y:=fun l=>fM hj l;have B:=fun l=>fM hw l;refine kR (iG (aV T.h20 ?_));simp only[af20,PP,P14,simprocAttr,PI,y,B,gk0,sk0];refine G6 T (fM h5 _) hr I ?_;simp only[PP,P14,simprocAttr,PI,y,B,gk0,sk0];refine ZC T (fM h6 _) hf ?_;simp only[PP,P14,simprocAttr,PI,y,B,gk0,sk0];refine G6 T (fM h2 _) hs G ?_;simp only[PP,P14,simprocAttr,PI,y,B,gk0,sk0];refine Gh.step (GStep.ia (b:=[.agg [p64 E,p64 0,slR Js Jr Js Jr .i64 rows,slB Js Jr de,slR Js Jr Js Jr .i64 kh,.ai,.ai]]) (N:=M) M.length (Ab _) (by simp) (by simp only[PW]) (by simp[aD,PV.under,cM,b9,eK,gZ]) ?_ (Bj rfl)) (Gh.same ⟨_,rfl,_,xE (bh.refl _) (bh.refl _) (bh.refl _) (bh.ai _ _ _) (bh.ai _ _ _),hk⟩);exact(congrArg (fun N:Mem=>N.all (aI M.length)) (Bj rfl)).trans hc
def aHg{j w v E:Nat}{u:Int}{a b c d e:PV}{f o:Bool}{cls:List Int}
    (G:M[j]? =Jp (.cells 0 v [.iface 122 (.ptr w 0 0),p64 u])) (hw:M[w]? =Jp (.cells 0 E [a,b,c,d,e,slI f o .i64 cls])) (hl:cls.length<big) (I:M.all (aI M.length)=Jr)
    (J:K (CQ Js 0 [] [] [] cls []) M):au tab 20 [.ptr j 0 0] M K:=by
  have y:=fun l=>fM G l;have B:=fun l=>fM hw l;refine kR (iG (aV T.h20 ?_));simp only[af20,PP,P14,simprocAttr,PI,y,B,gk0,sk0];refine pY T hl ?_;simp only[PP,P14,simprocAttr,PI,y,B,gk0,sk0];refine Gh.step (GStep.ia (b:=[.agg [p64 0,p64 0,.ai,.ai,.ai,slI Js Jr .i64 cls,.ai]]) (N:=M) M.length (Ab _) (by simp) (by simp only[PW]) (by simp[aD,PV.under,cM,b9,eK,gZ]) ?_ (Bj rfl)) (Gh.same ⟨_,rfl,_,xE (bh.ai _ _ _) (bh.ai _ _ _) (bh.ai _ _ _) (bh.refl _) (bh.ai _ _ _),J⟩);exact(congrArg (fun N:Mem=>N.all (aI M.length)) (Bj rfl)).trans I
def aHf{j w v G i2 y I:Nat}{u:Int}{a b c d:PV}{ms:List Ms}
    (J:M[j]? =Jp (.cells 0 v [.iface 125 (.ptr w 0 0),p64 u])) (hw:M[w]? =Jp (.cells 0 G [a,b,c,.ref i2 y 9 0 ms.length,d])) (h2:M[i2]? =Jp (.cells y I (msL ms))) (hl:ms.length<big) (L:M.all (aI M.length)=Jr)
    (O:K (CQ Js 0 [] [] [] [] ms) M):au tab 20 [.ptr j 0 0] M K:=by
  have B:=fun l=>fM J l;have E:=fun l=>fM hw l;refine kR (iG (aV T.h20 ?_));simp only[af20,PP,P14,simprocAttr,PI,B,E,gk0,sk0];refine ZA T (fM h2 _) hl ?_;simp only[PP,P14,simprocAttr,PI,B,E,gk0,sk0];refine Gh.step (GStep.ia (b:=[.agg [p64 0,p64 0,.ai,.ai,.ai,.ai,slM Js Jr ms]]) (N:=M) M.length (Ab _) (by simp) (by simp only[PW]) (by simp[aD,PV.under,cM,b9,eK,gZ]) ?_ (Bj rfl)) (Gh.same ⟨_,rfl,_,xE (bh.ai _ _ _) (bh.ai _ _ _) (bh.ai _ _ _) (bh.ai _ _ _) (bh.refl _),O⟩);exact(congrArg (fun N:Mem=>N.all (aI M.length)) (Bj rfl)).trans L
def aEd{j v:Nat}{w:PV}{u:Int}(y:M[j]? =Jp (.cells 0 v [w,p64 u]))(B:K (p64 u) M):au tab 22 [.ptr j 0 0] M K:=by refine aV T.h22 ?_;simp only[af22,PP,P14,simprocAttr,PI,y];exact B
end
abbrev csC(f o:Bool)(k:Int)(N:NF)(D:DF)(ow pr:List Int)(su:List (List Int)):List PV:=
  [p64 k,p64 N.vs,p64 N.n,slI f o .i64 N.st,slI f o .i64 N.fi,slE f o N.es,p64 D.vs,p64 D.st,slR f o f o .i64 D.nx,slB f o D.fi,slI f o .u8 ow,slI f o .i64 pr,slR f o f o .i64 su]
def JM(k:Int):Int:=(k.tmod 3+3).tmod 3
def SL(k:Int):JM k=0\/JM k=1\/JM k=2:=by
  unfold JM;have h1:=Ep k (b:=3) (by omega);have h2: -3<k.tmod 3:=by
    have:=Ep (-k) (b:=3) (by omega);rw[Hm]at this;omega
  have h3:0<=k.tmod 3+3:=by omega
  rw[Ft h3];omega
def aIX(N:NF):NF:=⟨N.vs,min N.n 5,N.st.take 6,N.fi.take 6,N.es.take 20⟩
def JN(D:DF):DF:=⟨D.vs,D.st,(D.nx.take 6).map (Er 65),D.fi.take 6⟩
def OK(su:List (List Int)):List (List Int):=(su.take 4).map (Er 6)
def tL{α:Type}(l:List α)(c:Nat):min (l.length:Int) (c:Int)=((min l.length c:Nat):Int):=by omega
def nE(k:IntKind)(l:List Int)(c:Nat):PV.sl Js Js 1 (min l.length c) (dQ (l.map (PV.int k)) 0 (min l.length c))=slI Js Js k (l.take c):=by unfold slI dQ;rw[Fl,<-Ix,Ay,Jj];congr 2;rw[<-Ct (l:=l.take c),Ay,Gx];simp
def OS:∀(l:List Eg) (c:Nat),(egL l).take (c*4)=egL (l.take c)
  | [],c=>by simp[egL]
  | e::l,0=>by simp[egL]
  | e::l,c+1=>by have u:=OS l c;rw[show(c+1)*4=c*4+1+1+1+1 by omega];show _::_::_::_::(egL l).take (c*4)=_::_::_::_::egL (l.take c);rw[u]
def aFq(l:List Eg)(c:Nat):PV.sl Js Js 4 (min l.length c) (dQ (egL l) 0 (min l.length c*4))=slE Js Js (l.take c):=by
  unfold dQ;rw[Fl,OS];have e:l.take (min l.length c)=l.take c:=by
    rcases Jf l.length c with h | h
    · rw[Dk h,Bo (Ab _),Bo h]
    · rw[Jg h]
  rw[e];simp only[slE,Ay,Jj]
def G4(l:List Bool)(c:Nat):PV.sl Js Js 1 (min l.length c) (dQ (l.map PV.bool) 0 (min l.length c))=slB Js Js (l.take c):=by unfold slB dQ;rw[Fl,<-Ix,Ay,Jj];congr 2;rw[<-Ct (l:=l.take c),Ay,Gx];simp
section
variable {tab:FuncId->Option AF} (T:HasA tab){M:Mem}{K:PV->Mem->Prop}
include T
def aCI{f o:Bool}{u:List Eg}(hm:u.length<big)(y:K (slE Js Jr u) M):au tab 37 [slE f o u] M K:=by refine w7 (by simp only[PP,simprocAttr,aZ]) (aFu T hm ⟨slE Js Jr u,?_,y⟩);simp only[lR,iM];rw[uH (ver:=0) (Au _) rfl (by simp[kN]) (fN 0 u),cN _ _ (by simp[kN])]
def aHM{k:Int}{N:NF}{D:DF}{ow pr:List Int}{su:List (List Int)}(hf:JM k=0)
    (Q:K (.agg ([p64 0]++nfC Js Jr Js Jr Js Jr (aIX N)++[p64 0,p64 0,.ai,.ai,.ai,.ai,.ai])) M):
    au tab 10 [.agg (csC Js Js k N D ow pr su)] M K:=by
  have h3:IntKind.i64.wrap (k.tmod 3+3)=k.tmod 3+3:=by
    have h1:=Ep k (b:=3) (by omega);have h2: -3<k.tmod 3:=by
      have:=Ep (-k) (b:=3) (by omega);rw[Hm]at this;omega
    rw[wrap64]<;>omega
  have R:eE .rem (p64 k) (p64 3)=Jp (p64 (k.tmod 3)):=by simp[eE,eZ,i7,eY,gG,bd]
  have S:eE .rem (p64 (k.tmod 3+3)) (p64 3)=Jp (p64 0):=by have:(k.tmod 3+3).tmod 3=0:=hf;simp[eE,eZ,i7,eY,gG,bd,this]
  refine eC T.h10 (by simp only[PP,simprocAttr,aZ]) ?_;simp only[af10];refine aE (aC ?_);simp only[PP,simprocAttr];refine cK (GStep.dz (b:=(.aa:: .cp (csC Js Js k N D ow pr su) 0:: .ptr 1 0 0::zj 171)) 0 (Au _) rfl (by simp only[mX,mY,Ai,Aj,iD,gJ,gI,iC]) rfl) ?_;refine aC ?_;have E:∀l:List Int,min (l.length:Int) 6=((min l.length 6:Nat):Int):=fun l=>tL l 6;have u:min (N.es.length:Int) 20=((min N.es.length 20:Nat):Int):=tL _ 20;have G:∀n:Nat,(0:Int)<=(n:Int):=fun n=>by omega
  have y:∀(l:List Int),((min l.length 6:Nat):Int)<=l.length:=fun l=>by omega
  have B:((min N.es.length 20:Nat):Int)<=N.es.length:=by omega
  have I:∀n:Int,n-0=n:=fun n=>by omega
  simp only[PP,simprocAttr,R,h3,S,oB,E,u,G,y,B,I];have L:∀l:List Int,(l.take 6).length<big:=fun l=>by rw[Ay];show _<1000000000000;omega
  have J:(N.es.take 20).length<big:=by rw[Ay];show _<1000000000000;omega
  rw[nE];refine lK T (L _) ?_;simp only[PP,simprocAttr,E,u,G,y,B,I,oB];rw[nE];refine lK T (L _) ?_;simp only[PP,simprocAttr,E,u,G,y,B,I,oB];rw[aFq];refine aCI T J ?_;simp only[PP,simprocAttr,E,u,G,y,B,I,oB];have U:∀(O:Mem) (n:Nat) (l:List Eg),gD 0 O (.sl Js Jr 4 n (egL l))=Jp (.sl Js Jr 4 n (egL l)):=fun O n l=>zL (aZ 0 Js Jr 4 n l);simp only[U,PP,simprocAttr];exact Q
def aHL{k:Int}{N:NF}{D:DF}{ow pr:List Int}{su:List (List Int)}(hf:JM k=1)
    (U:K (.agg ([p64 1,p64 0,p64 0,.ai,.ai,.ai]++dfC Js Jr Js Jr Js Jr (JN D)++[.ai,.ai,.ai])) M):
    au tab 10 [.agg (csC Js Js k N D ow pr su)] M K:=by
  have h3:IntKind.i64.wrap (k.tmod 3+3)=k.tmod 3+3:=by
    have h1:=Ep k (b:=3) (by omega);have h2: -3<k.tmod 3:=by
      have:=Ep (-k) (b:=3) (by omega);rw[Hm]at this;omega
    rw[wrap64]<;>omega
  have Y:eE .rem (p64 k) (p64 3)=Jp (p64 (k.tmod 3)):=by simp[eE,eZ,i7,eY,gG,bd]
  have Z:eE .rem (p64 (k.tmod 3+3)) (p64 3)=Jp (p64 1):=by have:(k.tmod 3+3).tmod 3=1:=hf;simp[eE,eZ,i7,eY,gG,bd,this]
  refine eC T.h10 (by simp only[PP,simprocAttr,aZ]) ?_;simp only[af10];refine aE (aC ?_);simp only[PP,simprocAttr];refine cK (GStep.dz (b:=(.aa:: .cp (csC Js Js k N D ow pr su) 0:: .ptr 1 0 0::zj 171)) 0 (Au _) rfl (by simp only[mX,mY,Ai,Aj,iD,gJ,gI,iC]) rfl) ?_;refine aC ?_;simp only[PP,simprocAttr,Y,h3,Z];refine aG (b:=(.aa:: .cp (csC Js Js k N D ow pr su) 0:: .ptr 1 0 0:: .ptr 2 0 0::p64 0::zj 169)) ?_;refine cK (GStep.lh 2 8 1 rfl rfl rfl) ?_;have u:∀l:List Int,min (l.length:Int) 65=((min l.length 65:Nat):Int):=fun l=>tL l 65;have V:min (D.fi.length:Int) 6=((min D.fi.length 6:Nat):Int):=tL _ 6;have J:∀n:Nat,(0:Int)<=(n:Int):=fun n=>by omega
  have y:∀(l:List Int),((min l.length 65:Nat):Int)<=l.length:=fun l=>by omega
  have B:((min D.fi.length 6:Nat):Int)<=D.fi.length:=by omega
  have L:∀n:Int,n-0=n:=fun n=>by omega
  have Q:∀l:List Int,(l.take 65).length<big:=fun l=>by rw[Ay];show _<1000000000000;omega
  refine nL (fun(i g v:Nat)=>i<=D.nx.length/\i<=6) (fun i g v=>(.aa:: .cp (csC Js Js k N D ow pr su) 0:: .ptr 1 0 0:: .ptr 2 0 0::p64 i::zj 169))
    (fun i g v=>[.gone,.cells 0 0 [p64 0,p64 0,p64 0,.ai,.ai,.ai,p64 0,p64 0,.ai,.ai,.ai,.ai,.ai],.cells 0 v [p64 1,p64 0,p64 0,.ai,.ai,.ai,p64 0,p64 0,.ref 3 g 1 0 i,.ai,.ai,.ai,.ai],.cells g 0 (((D.nx.take i).map (Er 65)).map (slI Js Jr .i64))]) (fun i g v=>6-i) 0 0 1 (by omega) ?_
  intro i g v ⟨a0,a1⟩ ih;have exit:¬(i<D.nx.length/\i<6)->D.nx.take i=D.nx.take 6/\i=(JN D).nx.length:=fun h=>by
    have e:D.nx.take i=D.nx.take 6:=by
      by_cases q:i=6
      · rw[q]
      · rw[Bo (by omega),Bo (by omega)]
    refine⟨e,?_⟩;unfold JN;simp only[Ag,Ay];omega
  have E:(D.fi.take 6).length<big:=by rw[Ay];show _<1000000000000;omega
  have hfz:∀g,D.nx.take i=D.nx.take 6->i=(JN D).nx.length->uO (Jp (bl.cells g 0 (((D.nx.take i).map (Er 65)).map (slI Js Jr .i64)))) g 1 0 i=Jp (slR Js Jr Js Jr .i64 (JN D).nx):=fun g G I=>by rw[G,show(D.nx.take 6).map (Er 65)=(JN D).nx from rfl];subst I;rw[gT (by simp) (cM _ _ _ _ _),cN _ _ (by simp)]
  refine aH (by kernel_rfl) ?_;by_cases O:(i:Int)<D.nx.length
  · by_cases R:(i:Int)<6
    · have hw:=aA (k:=i) (by show _<1000000000000;omega);obtain⟨x,S⟩:=aK (xs:=D.nx) (k:=i) (by omega);have b1:(i+1)*24<=140737488355328:=by omega
      have b2:i+1<=9223372036854775807:=by omega
      have b3:i<=(D.nx.take i).length:=by rw[Ay];omega
      simp only[PP,simprocAttr,O,R,J,S,u,y,L,oB];rw[nE];refine lK T (Q _) ?_;simp only[PP,simprocAttr,O,R,J,S,u,y,L,oB,b1,b2,b3,hw];refine bZ (ih (i+1) (g+1) (v+1) ⟨by omega,by omega⟩ (by omega)) (by simp only[PW]) ?_;rw[cN _ _ (by simp;omega),fK S];simp only[Bh,Ah,Av,slI]
    · obtain⟨G,I⟩:=exit (fun h=>by omega);have hfz:=hfz g G I;simp only[PP,simprocAttr,O,R,oB,V,J,B,L];rw[G4];refine VV T E ?_;simp only[PP,simprocAttr,hfz];exact U
  · obtain⟨G,I⟩:=exit (fun h=>by omega);have hfz:=hfz g G I;simp only[PP,simprocAttr,O,oB,V,J,B,L];rw[G4];refine VV T E ?_;simp only[PP,simprocAttr,hfz];exact U
def aHK{k:Int}{N:NF}{D:DF}{ow pr:List Int}{su:List (List Int)}(hf:JM k=2)
    (V:K (.agg [p64 2,p64 0,p64 0,.ai,.ai,.ai,p64 0,p64 0,.ai,.ai,slI Js Jr .u8 (ow.take 4),slI Js Jr .i64 (pr.take 4),slR Js Jr Js Jr .i64 (OK su)]) M):
    au tab 10 [.agg (csC Js Js k N D ow pr su)] M K:=by
  have h3:IntKind.i64.wrap (k.tmod 3+3)=k.tmod 3+3:=by
    have h1:=Ep k (b:=3) (by omega);have h2: -3<k.tmod 3:=by
      have:=Ep (-k) (b:=3) (by omega);rw[Hm]at this;omega
    rw[wrap64]<;>omega
  have Y:eE .rem (p64 k) (p64 3)=Jp (p64 (k.tmod 3)):=by simp[eE,eZ,i7,eY,gG,bd]
  have Z:eE .rem (p64 (k.tmod 3+3)) (p64 3)=Jp (p64 2):=by have:(k.tmod 3+3).tmod 3=2:=hf;simp[eE,eZ,i7,eY,gG,bd,this]
  refine eC T.h10 (by simp only[PP,simprocAttr,aZ]) ?_;simp only[af10];refine aE (aC ?_);simp only[PP,simprocAttr];refine cK (GStep.dz (b:=(.aa:: .cp (csC Js Js k N D ow pr su) 0:: .ptr 1 0 0::zj 171)) 0 (Au _) rfl (by simp only[mX,mY,Ai,Aj,iD,gJ,gI,iC]) rfl) ?_;refine aC ?_;simp only[PP,simprocAttr,Y,h3,Z];refine aG (b:=(.aa:: .cp (csC Js Js k N D ow pr su) 0:: .ptr 1 0 0:: .ptr 2 0 0:: .aa::p64 0::zj 168)) ?_;refine cK (GStep.lh 2 12 1 rfl rfl rfl) ?_;have G:∀l:List Int,min (l.length:Int) 6=((min l.length 6:Nat):Int):=fun l=>tL l 6;have O:∀l:List Int,min (l.length:Int) 4=((min l.length 4:Nat):Int):=fun l=>tL l 4;have y:∀n:Nat,(0:Int)<=(n:Int):=fun n=>by omega
  have I:∀(l:List Int),((min l.length 6:Nat):Int)<=l.length:=fun l=>by omega
  have u:∀(l:List Int),((min l.length 4:Nat):Int)<=l.length:=fun l=>by omega
  have B:∀n:Int,n-0=n:=fun n=>by omega
  have S:∀l:List Int,(l.take 6).length<big:=fun l=>by rw[Ay];show _<1000000000000;omega
  refine nL (fun(i g v:Nat)=>i<=su.length/\i<=4) (fun i g v=>(.aa:: .cp (csC Js Js k N D ow pr su) 0:: .ptr 1 0 0:: .ptr 2 0 0:: .aa::p64 i::zj 168))
    (fun i g v=>[.gone,.cells 0 0 [p64 0,p64 0,p64 0,.ai,.ai,.ai,p64 0,p64 0,.ai,.ai,.ai,.ai,.ai],.cells 0 v [p64 2,p64 0,p64 0,.ai,.ai,.ai,p64 0,p64 0,.ai,.ai,.ai,.ai,.ref 3 g 1 0 i],.cells g 0 (((su.take i).map (Er 6)).map (slI Js Jr .i64))]) (fun i g v=>4-i) 0 0 1 (by omega) ?_
  intro i g v ⟨a0,a1⟩ ih;have exit:¬(i<su.length/\i<4)->su.take i=su.take 4/\i=(OK su).length:=fun h=>by
    have e:su.take i=su.take 4:=by
      by_cases q:i=4
      · rw[q]
      · rw[Bo (by omega),Bo (by omega)]
    refine⟨e,?_⟩;unfold OK;simp only[Ag,Ay];omega
  have Q:∀l:List Int,(l.take 4).length<big:=fun l=>by rw[Ay];show _<1000000000000;omega
  have hfz:∀g,su.take i=su.take 4->i=(OK su).length->uO (Jp (bl.cells g 0 (((su.take i).map (Er 6)).map (slI Js Jr .i64)))) g 1 0 i=Jp (slR Js Jr Js Jr .i64 (OK su)):=fun g J L=>by rw[J,show(su.take 4).map (Er 6)=(OK su)from rfl];subst L;rw[gT (by simp) (cM _ _ _ _ _),cN _ _ (by simp)]
  refine aH (by kernel_rfl) ?_;by_cases E:(i:Int)<su.length
  · by_cases R:(i:Int)<4
    · have hw:=aA (k:=i) (by show _<1000000000000;omega);obtain⟨x,U⟩:=aK (xs:=su) (k:=i) (by omega);have b1:(i+1)*24<=140737488355328:=by omega
      have b2:i+1<=9223372036854775807:=by omega
      have b3:i<=(su.take i).length:=by rw[Ay];omega
      simp only[PP,simprocAttr,E,R,y,U,G,I,B,oB];rw[nE];refine lK T (S _) ?_;simp only[PP,simprocAttr,E,R,y,U,G,I,B,oB,b1,b2,b3,hw];refine bZ (ih (i+1) (g+1) (v+1) ⟨by omega,by omega⟩ (by omega)) (by simp only[PW]) ?_;rw[cN _ _ (by simp;omega),fK U];simp only[Bh,Ah,Av,slI]
    · obtain⟨J,L⟩:=exit (fun h=>by omega);have hfz:=hfz g J L;simp only[PP,simprocAttr,E,R,oB,O,y,u,B];rw[nE];refine zZ T (Q _) ?_;simp only[PP,simprocAttr,E,R,oB,O,y,u,B];rw[nE];refine lK T (Q _) ?_;simp only[PP,simprocAttr,hfz];exact V
  · obtain⟨J,L⟩:=exit (fun h=>by omega);have hfz:=hfz g J L;simp only[PP,simprocAttr,E,oB,O,y,u,B];rw[nE];refine zZ T (Q _) ?_;simp only[PP,simprocAttr,E,oB,O,y,u,B];rw[nE];refine lK T (Q _) ?_;simp only[PP,simprocAttr,hfz];exact V
def aAJ{A:Mem}{K:PV->Mem->Prop}{f o:Bool}{N:NF}{D:DF}{ow pr:List Int}{su:List (List Int)}(B:BnN N)(hA:A.all (aI A.length)=Jr)
    (u:gF N≠0->K (.tuple [.aq,p64 (gF N)]) A)
    (y:gF N=0->∀I J q v,aI (A.length+2) I=Jr->aI (A.length+2) J=Jr->K (.tuple [.ptr (A.length+9) 0 0,p64 0]) (lS (A++[I,J]) Js Jr Js Jr Js Jr Js Jr N q [gC N] [] [] v 0)):
    au tab 11 [.agg (csC f o 0 N D ow pr su)] A K:=by
  have L:∀m,aI m (bl.cells 0 0 (csC f o 0 N D ow pr su))=Jr:=fun m=>by simp[aI,aD,PV.under,fN,b9,cM,eK]
  have E:(A++[bl.cells 0 0 (csC f o 0 N D ow pr su)]).all (aI (A++[bl.cells 0 0 (csC f o 0 N D ow pr su)]).length)=Jr:=by rw[Cl,fJ (by simp) hA,Cv,L];rfl
  refine iG (aV T.h11 ?_);simp only[af11,PP,simprocAttr,aZ,gk0,sk0];refine K8 T B E (fun G=>?_) fun G X q v O=>?_
  · simp only[PP,simprocAttr];refine Gh.step (GStep.ia (b:=[.tuple [.aq,p64 (gF N)]]) (N:=A) A.length (Ab _) (by simp) (by simp only[PW]) (by simp[aD,PV.under]) ?_ (Bj rfl)) (Gh.same ⟨_,rfl,u G⟩);exact(congrArg (fun M:Mem=>M.all (aI A.length)) (Bj rfl)).trans hA
  · have h:=y G (.cells 0 0 (csC f o 0 N D ow pr su)) X q v (L _) (by simpa using O);simp only[PP,simprocAttr,Ac,Al,Ak,An,Ai,Aj,Bg,Ax]at h ⊢;exact Gh.same ⟨_,rfl,h⟩
def aAI{A:Mem}{K:PV->Mem->Prop}{f o:Bool}{N:NF}{D:DF}{ow pr:List Int}{su:List (List Int)}(B:BnD D)(u:fE D=0->D.nx.length<=99)(hA:A.all (aI A.length)=Jr)
    (y:fE D≠0->K (.tuple [.aq,p64 (fE D)]) A)
    (E:fE D=0->∀J L O v,aI (A.length+3) J=Jr->aI (A.length+3) L=Jr->aI (A.length+3) O=Jr->K (.tuple [.ptr (A.length+4) 0 0,p64 0]) (nK (A++[J,L,O]) Js Jr Js Jr Js Jr Js Jr D v 0 0 0)):
    au tab 11 [.agg (csC f o 1 N D ow pr su)] A K:=by
  have Q:∀m,aI m (bl.cells 0 0 (csC f o 1 N D ow pr su))=Jr:=fun m=>by simp[aI,aD,PV.under,fN,b9,cM,eK]
  have G:(A++[bl.cells 0 0 (csC f o 1 N D ow pr su)]).all (aI (A++[bl.cells 0 0 (csC f o 1 N D ow pr su)]).length)=Jr:=by rw[Cl,fJ (by simp) hA,Cv,Q];rfl
  refine iG (aV T.h11 ?_);simp only[af11,PP,simprocAttr,aZ,gk0,sk0];refine K7 T B u G (fun I=>?_) fun I X Y v R S=>?_
  · simp only[PP,simprocAttr];refine Gh.step (GStep.ia (b:=[.tuple [.aq,p64 (fE D)]]) (N:=A) A.length (Ab _) (by simp) (by simp only[PW]) (by simp[aD,PV.under]) ?_ (Bj rfl)) (Gh.same ⟨_,rfl,y I⟩);exact(congrArg (fun M:Mem=>M.all (aI A.length)) (Bj rfl)).trans hA
  · have h:=E I (.cells 0 0 (csC f o 1 N D ow pr su)) X Y v (Q _) (by simpa using R) (by simpa using S);simp only[PP,simprocAttr,Ac,Al,Ak,An,Ai,Aj,Bg,Ax]at h ⊢;exact Gh.same ⟨_,rfl,h⟩
def aAH{A:Mem}{K:PV->Mem->Prop}{f o:Bool}{N:NF}{D:DF}{ow pr:List Int}{su:List (List Int)}(B:Bnd ow pr su)(hA:A.all (aI A.length)=Jr)
    (y:eF ow pr su≠0->K (.tuple [.aq,p64 (eF ow pr su)]) A)
    (E:eF ow pr su=0->∀O Q R G I u b,aI (A.length+3) O=Jr->aI (A.length+3) Q=Jr->aI (A.length+3) R=Jr->vD ow pr su 0 u b 0->K (.tuple [.ptr (A.length+6) 0 0,p64 0]) (kM (A++[O,Q,R]) Js Jr Js Jr Js Jr Js Jr ow pr su u G I 0 b 0)):
    au tab 11 [.agg (csC f o 2 N D ow pr su)] A K:=by
  have S:∀m,aI m (bl.cells 0 0 (csC f o 2 N D ow pr su))=Jr:=fun m=>by simp[aI,aD,PV.under,fN,b9,cM,eK]
  have J:(A++[bl.cells 0 0 (csC f o 2 N D ow pr su)]).all (aI (A++[bl.cells 0 0 (csC f o 2 N D ow pr su)]).length)=Jr:=by rw[Cl,fJ (by simp) hA,Cv,S];rfl
  refine iG (aV T.h11 ?_);simp only[af11,PP,simprocAttr,aZ,gk0,sk0];refine K6 T B J (fun L=>?_) fun L X Y G I u b U V Z=>?_
  · simp only[PP,simprocAttr];refine Gh.step (GStep.ia (b:=[.tuple [.aq,p64 (eF ow pr su)]]) (N:=A) A.length (Ab _) (by simp) (by simp only[PW]) (by simp[aD,PV.under]) ?_ (Bj rfl)) (Gh.same ⟨_,rfl,y L⟩);exact(congrArg (fun M:Mem=>M.all (aI A.length)) (Bj rfl)).trans hA
  · have h:=E L (.cells 0 0 (csC f o 2 N D ow pr su)) X Y G I u b (S _) (by simpa using U) (by simpa using V) Z;simp only[PP,simprocAttr,Ac,Al,Ak,An,Ai,Aj,Bg,Ax]at h ⊢;exact Gh.same ⟨_,rfl,h⟩
end
def V3{a:BitVec 64}{n:Nat}(u:n<=64)(h:∀k,a.getLsbD k=Jr->k<n):a.toNat<2^n:=by
  refine Nat.lt_pow_two_of_testBit _ fun i y=>?_;by_cases c:a.toNat.testBit i=Jr
  · have:=h i c;omega
  · simpa using c
def aAK{N:NF}(C:NOk N)(m:Nat):(stK N m).length<=2^N.n.toNat:=by
  have u:N.n.toNat<=64:=by have:=C.n64;omega
  have y:=wX (δ:=aJ N) (n:=aS N) (a0:=gC N) (Dm:=fun a=>a.toNat<2^N.n.toNat) (V3 u fun k B=>by
      have:=(qM C k).1 B;have:=m9 C.st _ this;omega) (fun a x _ _=>V3 u fun k B=>by
      obtain⟨e,he,_,h2⟩:=(rE C a x k).1 B;have:=C.ed e (by unfold pP at he;exact(List.mem_filter.1 he).1);omega) m
  have hnd:((stK N m).map BitVec.toNat).Nodup:=by rw[List.Nodup,List.pairwise_map];exact(oL (aJ N) (aS N) (gC N) m).imp fun h q=>h (BitVec.eq_of_toNat_eq q)
  have:=uK (2^N.n.toNat) ((stK N m).map BitVec.toNat) hnd fun x E=>by obtain⟨a,G,rfl⟩:=List.mem_map.1 E;exact y a G
  simpa using this
def LW(D:DF)(k i j:Nat)(u:i<D.nx.length)(y:j<D.nx.length)(h:(bF D (k+1)).getD i 0=(bF D (k+1)).getD j 0):(bF D k).getD i 0=(bF D k).getD j 0:=by
  have E:=xV (nx:=D.nx) (c:=bF D k) u;have G:=xV (nx:=D.nx) (c:=bF D k) y;have h:(rfN D.nx (bF D k)).getD i 0=(rfN D.nx (bF D k)).getD j 0:=h;rw[E,G]at h;have I:fG D.nx (bF D k) i∈fv (fG D.nx (bF D k)) D.nx.length:=(jZ _ _ _).2 ⟨i,u,rfl⟩;have J:fG D.nx (bF D k) j∈fv (fG D.nx (bF D k)) D.nx.length:=(jZ _ _ _).2 ⟨j,y,rfl⟩;have B:=nW I;have K:=nW J;have e:ixF (fv (fG D.nx (bF D k)) D.nx.length) (fG D.nx (bF D k) i)=ixF (fv (fG D.nx (bF D k)) D.nx.length) (fG D.nx (bF D k) j):=by omega
  rw[e,K]at B;have:=congrArg (fun l:List Int=>l.headD 0) (Option.some.inj B);exact this.symm
def CO(D:DF)(k i j:Nat)(u:i<D.nx.length)(y:j<D.nx.length):∀d,(bF D (k+d)).getD i 0=(bF D (k+d)).getD j 0->(bF D k).getD i 0=(bF D k).getD j 0
  | 0,h=>h
  | d+1,h=>CO D k i j u y d (LW D (k+d) i j u y h)
def aEi{n:Nat}{L:(Nat->Nat)->Nat->Nat}(m:Nat->Nat)(v:Nat):m v<=uF n L m v:=by
  by_cases h:∃v,nj n L m v
  · obtain⟨u,y⟩:=h;rw[qK y];unfold oY;split
    · rename_i e;subst e;exact Je y.2.1
    · exact Ab _
  · unfold uF;rw[dif_neg h];exact Ab _
def aCq{n:Nat}{L:(Nat->Nat)->Nat->Nat}(k v:Nat):∀d,itN n L k v<=itN n L (k+d) v
  | 0=>Ab _
  | d+1=>As (aCq k v d) (aEi _ v)
structure Res where
  vs:Int
  rows:List (List Int)
  de:List Bool
  kh:List (List Int)
  cls:List Int
  ms:List Ms
abbrev Res.pv(r:Res):PV:=CQ Js r.vs r.rows r.de r.kh r.cls r.ms
def Res.nk(m:Nat)(r:Res):r.pv.under m=Jr:=by simp[Res.pv,PV.under,aD,cM,b9,eK,gZ]
structure om (tab:FuncId->Option AF) (jid:Nat) (e:Int) (D F:Nat->Prop) (St:Nat->Mem->Prop) (L:Nat) (RP:Nat->Res->Prop):Prop where
  len:∀m M,St m M->M.length=L
  cut:∀m M,St m M->M.all (aI L)=Jr
  job:∀m M,St m M->∃v w wid,M[jid]? =Jp (.cells 0 v [.iface w (.ptr wid 0 0),p64 (m:Int)])
  sm:∀m M,St m M->m<4000000000000000000
  step:∀n M,St n M->∀(S:Mem) (k:Int) (K:PV->Mem->Prop),0<=k->k<=9223372036854775807->
    (∀m M' b,n<=m->(m:Int)<=n+k->(b=Jr↔D m)->(b=Js->(m:Int)=n+k)->(∀j,n<=j->j<m->¬D j/\¬F j)->St m M'->K (.tuple [.bool b,p64 0]) (M'++S))->
    (∀m M',n<=m->(m:Int)<n+k->(∀j,n<=j->j<m->¬D j/\¬F j)->F m->St m M'->K (.tuple [.bool Js,p64 e]) (M'++S))->
    au tab 18 [.ptr jid 0 0,p64 k] (M++S) K
  res:∀m M,St m M->∀(S:Mem) (K:PV->Mem->Prop),(∀r,RP m r->K r.pv (M++S))->au tab 20 [.ptr jid 0 0] (M++S) K
section
variable {tab:FuncId->Option AF} (T:HasA tab){M:Mem}{K:PV->Mem->Prop}
include T
def om.ou{jid:Nat}{e:Int}{D F:Nat->Prop}{St:Nat->Mem->Prop}{L:Nat}{RP:Nat->Res->Prop}(J:om tab jid e D F St L RP){m:Nat}{M S:Mem}(h:St m M){K:PV->Mem->Prop}(u:K (p64 (m:Int)) (M++S)):au tab 22 [.ptr jid 0 0] (M++S) K:=by obtain⟨v,w,wid,y⟩:=J.job m M h;exact aEd T (fM y S) u
omit T in
def om.res0{jid:Nat}{e:Int}{D F:Nat->Prop}{St:Nat->Mem->Prop}{L:Nat}{RP:Nat->Res->Prop}(J:om tab jid e D F St L RP){m:Nat}{M:Mem}(h:St m M){K:PV->Mem->Prop}(u:∀r,RP m r->K r.pv M):au tab 20 [.ptr jid 0 0] M K:=by have:=J.res m M h [] K (fun r hr=>by rw[Ao];exact u r hr);rwa [Ao]at this
omit T in
def om.step0{jid:Nat}{e:Int}{D F:Nat->Prop}{St:Nat->Mem->Prop}{L:Nat}{RP:Nat->Res->Prop}(J:om tab jid e D F St L RP){n:Nat}{M:Mem}(h:St n M){k:Int}{K:PV->Mem->Prop}(h0:0<=k)(h1:k<=9223372036854775807)
    (hA:∀m M' b,n<=m->(m:Int)<=n+k->(b=Jr↔D m)->(b=Js->(m:Int)=n+k)->(∀j,n<=j->j<m->¬D j/\¬F j)->St m M'->K (.tuple [.bool b,p64 0]) M')
    (I:∀m M',n<=m->(m:Int)<n+k->(∀j,n<=j->j<m->¬D j/\¬F j)->F m->St m M'->K (.tuple [.bool Js,p64 e]) M'):au tab 18 [.ptr jid 0 0,p64 k] M K:=by
  have:=J.step n M h [] k K h0 h1 (fun m M' b u y B E G O=>by rw[Ao];exact hA m M' b u y B E G O) (fun m M' u y B E G=>by rw[Ao];exact I m M' u y B E G);rwa [Ao]at this
def JE{jid wid:Nat}{ty:TypeId}{fu fl:FuncId}{e:Int}{D F:Nat->Prop}{lft:Nat->Bool}{St:Nat->Mem->Prop}{L:Nat}{RP:Nat->Res->Prop}(J:re tab jid wid ty fu fl e D F lft St)(he:e≠0)
    (hl:∀m,lft m=Jr↔¬D m) (hlen:∀m M,St m M->M.length=L) (hcut:∀m M,St m M->M.all (aI L)=Jr)
    (hres:∀m M,St m M->∀(K:PV->Mem->Prop),(∀r,RP m r->K r.pv M)->au tab 20 [.ptr jid 0 0] M K):om tab jid e D F St L RP where
  len:=hlen
  cut:=hcut
  job:=fun m M h=>by obtain⟨v,hv⟩:=J.job m M h;exact⟨v,ty,wid,hv⟩
  sm:=J.sm
  step:=fun n M h S k K h0 h1 hA hC=>by
    have hL:=hlen n M h;have hj:jid<L:=by obtain⟨v,hv⟩:=J.job n M h;have:=aF hv;omega
    have t1:(M++S).take L=M:=Bj hL;have t2:(M++S).drop L=S:=Hf hL;refine oX (m:=L) (by rw[Al];omega) (by simp[aD,PV.under,hj]) (by rw[t1];exact hcut n M h) ?_;rw[t1,t2];refine aFc T J he h h0 h1 (fun m M' a1 a2 a3 a4=>?_) (fun m M' a1 a2 a3 a4 a5=>?_) fun m M' a1 a2 a3 a4 a5=>?_
    · refine⟨by simp[aD,PV.under],hlen m M' a4,hcut m M' a4,hA m M' _ a1 (by omega) ?_ (fun _=>a2) a3 a4⟩;have:=hl m;cases hb:lft m
      · rw[hb]at this;simp at this;simpa using this
      · rw[hb]at this;simp at this;simpa using this
    · exact⟨by simp[aD,PV.under],hlen m M' a5,hcut m M' a5,hA m M' Jr a1 (by omega) ⟨fun _=>a4,fun _=>rfl⟩ (fun q=>by cases q) a3 a5⟩
    · exact⟨by simp[aD,PV.under],hlen m M' a5,hcut m M' a5,hC m M' a1 a2 a3 a4 a5⟩
  res:=fun m M h S K hk=>by
    have hL:=hlen m M h;have hj:jid<L:=by obtain⟨v,hv⟩:=J.job m M h;have:=aF hv;omega
    have t1:(M++S).take L=M:=Bj hL;have t2:(M++S).drop L=S:=Hf hL;refine oX (m:=L) (by rw[Al];omega) (by simp[aD,PV.under,hj]) (by rw[t1];exact hcut m M h) ?_;rw[t1,t2];exact hres m M h _ fun r hr=>⟨r.nk L,hL,hcut m M h,hk r hr⟩
def RpD(N:NF)(m:Nat)(r:Res):Prop:=r=⟨N.vs,rwK N m,fnK N m,dP (stK N m),[],[]⟩/\m<=(stK N m).length/\(stK N m).length<=4096
def RpM(D:DF)(m:Nat)(r:Res):Prop:=r=⟨0,[],[],[],bF D m,[]⟩
def RpP(ow pr:List Int)(su:List (List Int))(m:Nat)(r:Res):Prop:=∃u,r=⟨0,[],[],[],[],u⟩/\im (aY pr) ow.length u/\Nf (aY pr) u=itN ow.length (gL ow pr su) m
def NY{A:Mem}{N:NF}(V:gF N=0)(B:BnN N)(hA:A.all (aI A.length)=Jr):
    om tab (A.length+7) 10 (fun m=>(stK N m).length<=m) (fun m=>m<(stK N m).length/\4096<(stK N (m+1)).length) (StD A N) (A.length+8) (RpD N):=by
  have C:=nI V;have y:∀(E G I J f3 L f o:Bool) (q:Nat->Nat) (S:List (BitVec 64)) (rows:List (List Int)) (Q:List Bool) (v:Nat) (u:Int),(lS A E G I J f3 L f o N q S rows Q v u).all (aI (A.length+8))=Jr:=fun E G I J f3 L f o q S rows Q v u=>by rw[<-N5,Cl,fJ (by omega) (sR hA ..)];simp[aI,aD,PV.under]
  refine JE T (aCj T V B hA) (by decide) (fun m=>by simp) ?_ ?_ ?_
  · rintro m M ⟨_,E,G,I,J,f3,L,f,o,q,v,rfl⟩;simp[lS,iH]
  · rintro m M ⟨_,E,G,I,J,f3,L,f,o,q,v,rfl⟩;exact y ..
  · rintro m M ⟨⟨h1,h2⟩,E,G,I,J,f3,L,f,o,q,v,rfl⟩ K Z;have R:(rwK N m).length=m:=pK h1;have U:=BP h1;have O:(dP (stK N m)).length=(stK N m).length:=by unfold dP;rw[Ag]
    have Y:aS N<=64:=C.oh;refine aHh T (w:=A.length+4) (i2:=A.length+2) (i5:=A.length+5) (i6:=A.length+6) (kh:=dP (stK N m)) (rows:=rwK N m) (de:=fnK N m) BM (by rw[O];unfold lS;rw[gk];rfl) (by unfold lS;rw[gk];rfl) (by unfold lS;rw[gk];rfl) (by unfold lS;rw[gk];rfl) ?_ ?_ ?_ ?_ ?_ ?_ (Z _ ⟨rfl,h1,h2⟩)
    · rw[O];show _<1000000000000;omega
    · intro r hr;obtain⟨a,_,rfl⟩:=List.mem_map.1 hr;have:=D3 a;simp only[jA,Ag];show _<1000000000000;omega
    · rw[R];show _<1000000000000;omega
    · intro r hr;obtain⟨a,_,rfl⟩:=List.mem_map.1 hr;rw[v8];show _<1000000000000;omega
    · rw[U];show _<1000000000000;omega
    · have:=y E G I J f3 L f o q (stK N m) (rwK N m) (fnK N m) v m;rw[show(lS A E G I J f3 L f o N q (stK N m) (rwK N m) (fnK N m) v m).length=A.length+8 by simp[lS,iH]];exact this
def NX{A:Mem}{D:DF}(S:fE D=0)(B:BnD D)(R:D.nx.length<=99)(hA:A.all (aI A.length)=Jr):
    om tab (A.length+1) 10 (fun m=>bF D (m+1)=bF D m) (fun _=>False) (StM A D) (A.length+2) (RpM D):=by
  have y:∀(E G I J f3 L f o:Bool) (O Q k:Nat) (u:Int),(nK A E G I J f3 L f o D O Q k u).all (aI (A.length+2))=Jr:=fun E G I J f3 L f o O Q k u=>by unfold nK;rw[Cl,fJ (by omega) hA];simp[aI,aD,PV.under,cM,eK,b9]
  refine JE T (aCi T S B R) (by decide) (fun m=>by simp) ?_ ?_ ?_
  · rintro m M ⟨_,E,G,I,J,f3,L,f,o,O,Q,rfl⟩;simp[nK]
  · rintro m M ⟨_,E,G,I,J,f3,L,f,o,O,Q,rfl⟩;exact y ..
  · rintro m M ⟨_,E,G,I,J,f3,L,f,o,O,Q,rfl⟩ K U;refine aHg T (w:=A.length) (cls:=bF D m) (by unfold nK;rw[gk];rfl) (by unfold nK;rw[gk0];rfl) (by rw[fF];exact B.n) ?_ (U _ rfl);rw[show(nK A E G I J f3 L f o D O Q m m).length=A.length+2 by simp[nK]];exact y ..
def GS{A:Mem}{ow pr:List Int}{su:List (List Int)}(hA:A.all (aI A.length)=Jr)(c1:eF ow pr su=0)(B:Bnd ow pr su)(Y:ow.length<=99):
    om tab (A.length+3) 10 (fun m=>rS ow.length (gL ow pr su) (itN ow.length (gL ow pr su) m)) (fun _=>False) (StP A ow pr su) (A.length+4) (RpP ow pr su):=by
  have E:∀(G I J L f3 O Q R:Bool) (y:List Ms) (S U V:Nat) (b:Bool) (u:Int),(kM A G I J L f3 O Q R ow pr su y S U V b u).all (aI (A.length+4))=Jr:=fun G I J L f3 O Q R y S U V b u=>by unfold kM;rw[Cl,fJ (by omega) hA];simp[aI,aD,PV.under,cM,b9,gZ]
  refine JE T (YT T hA c1 B Y) (by decide) (fun m=>by unfold aE9;simp) ?_ ?_ ?_
  · rintro m M ⟨_,G,I,J,L,f3,O,Q,R,y,S,U,V,b,_,_,_,rfl⟩;simp[kM]
  · rintro m M ⟨_,G,I,J,L,f3,O,Q,R,y,S,U,V,b,_,_,_,rfl⟩;exact E ..
  · rintro m M ⟨_,G,I,J,L,f3,O,Q,R,y,S,U,V,b,Z,hN,_,rfl⟩ K hk;refine aHf T (w:=A.length) (i2:=A.length+2) (ms:=y) BL (by unfold kM;rw[gk0,Z.l];rfl) (by unfold kM;rw[gk];rfl) (by rw[Z.l];exact B.o) ?_ (hk _ ⟨y,rfl,Z,hN⟩);rw[show(kM A G I J L f3 O Q R ow pr su y S U V b m).length=A.length+4 by simp[kM]];exact E ..
end
inductive In where
  | n (N:NF) | d (D:DF) | g (ow pr:List Int) (su:List (List Int))
def In.k:In->Int
  | .n _=>0 | .d _=>1 | .g .. =>2
def In.N:In->NF
  | .n N=>N | _=>⟨0,0,[],[],[]⟩
def In.D:In->DF
  | .d D=>D | _=>⟨0,0,[],[]⟩
def In.ow:In->List Int
  | .g ow _ _=>ow | _=>[]
def In.pr:In->List Int
  | .g _ pr _=>pr | _=>[]
def In.su:In->List (List Int)
  | .g _ _ su=>su | _=>[]
abbrev In.cs(f o:Bool)(i:In):List PV:=csC f o i.k i.N i.D i.ow i.pr i.su
def aAr{k M O d1 d2:PV}{st u Q B R E nx G S I ow J pr K su L:PV}(h1:bh st u)(h2:bh Q B)(h3:bh R E)(T:bh nx G)(U:bh S I)(V:bh ow J)(Y:bh pr K)(Z:bh su L):
    bh (.agg [k,M,O,st,Q,R,d1,d2,nx,S,ow,pr,su]) (.agg [k,M,O,u,B,E,d1,d2,G,I,J,K,L]):=by
  refine bh.agg rfl fun i y z p q=>?_
  match i,p,q with
  | 0,p,q=>cases p;cases q;exact bh.refl _
  | 1,p,q=>cases p;cases q;exact bh.refl _
  | 2,p,q=>cases p;cases q;exact bh.refl _
  | 3,p,q=>cases p;cases q;exact h1
  | 4,p,q=>cases p;cases q;exact h2
  | 5,p,q=>cases p;cases q;exact h3
  | 6,p,q=>cases p;cases q;exact bh.refl _
  | 7,p,q=>cases p;cases q;exact bh.refl _
  | 8,p,q=>cases p;cases q;exact T
  | 9,p,q=>cases p;cases q;exact U
  | 10,p,q=>cases p;cases q;exact V
  | 11,p,q=>cases p;cases q;exact Y
  | 12,p,q=>cases p;cases q;exact Z
  | i+13,p,q=>simp at p
def E2(k:Int)(N:NF)(D:DF)(ow pr:List Int)(su:List (List Int)):In:=
  if JM k=0 then .n (aIX N)else if JM k=1 then .d (JN D)else .g (ow.take 4) (pr.take 4) (OK su)
def In.Bn:In->Prop
  | .n N=>BnN N
  | .d D=>BnD D/\D.nx.length<=99
  | .g ow pr su=>Bnd ow pr su/\ow.length<=99
def In.few:In->Prop
  | .n N=>N.n<=12
  | _=>True
def In.chk:In->Int
  | .n N=>gF N
  | .d D=>fE D
  | .g ow pr su=>eF ow pr su
def In.done:In->Nat->Prop
  | .n N=>fun m=>(stK N m).length<=m
  | .d D=>fun m=>bF D (m+1)=bF D m
  | .g ow pr su=>fun m=>rS ow.length (gL ow pr su) (itN ow.length (gL ow pr su) m)
def In.je:In->Nat->Prop
  | .n N=>fun m=>m<(stK N m).length/\4096<(stK N (m+1)).length
  | _=>fun _=>False
def In.rp:In->Nat->Res->Prop
  | .n N=>RpD N
  | .d D=>RpM D
  | .g ow pr su=>RpP ow pr su
def In.oe{i:In}(h0:i.chk=0)(h:i.few)(m:Nat):¬i.je m:=by
  cases i with
  | n N=>
    rintro⟨_,h2⟩;have h1:=aAK (nI h0) (m+1);have h3:N.n.toNat<=12:=by have:N.n<=12:=h;omega
    have u:=Ho (n:=2) (by omega) h3;omega
  | d D=>exact fun q=>q
  | g ow pr su=>exact fun q=>q
def UY(N:NF)(m:Nat):∀d,∃t,rwK N (m+d)=rwK N m++t
  | 0=>⟨[],by simp⟩
  | d+1=>by
    obtain⟨t,h⟩:=UY N m d;show ∃t,rwK N (m+d+1)=_
    cases g:(stK N (m+d))[m+d]? with
    | some a=>refine⟨t++[mF (aJ N) (aS N) (gB (aJ N) a (aS N) (stK N (m+d))) a],?_⟩;rw[show rwK N (m+d+1)=_ from uG g,<-Ac,<-h]
    | none=>
      refine⟨t,?_⟩;have hl:=List.getElem?_eq_none_iff.1 g;have y:=CM hl;have u:=qA hl;have B:(stK N (m+d+1)).length<=m+d+1:=by rw[show stK N (m+d+1)=stK N (m+d)from u];omega
      have E:=CM B;rw[show rwK N (m+d+1)=_ from E,show iI (aJ N) (aS N) (gC N) (m+d+1)=_ from u,<-y];exact h
structure Grow (r q:Res):Prop where
  s:∀(i:Nat) x,r.kh[i]? =Jp x->q.kh[i]? =Jp x
  w:∀(i:Nat) x,r.rows[i]? =Jp x->q.rows[i]? =Jp x
  cl:q.cls.length=r.cls.length
  c:∀(i k:Nat) a b,r.cls[i]? =Jp a->r.cls[k]? =Jp b->q.cls[i]? =q.cls[k]? ->a=b
  ml:r.ms.length<=q.ms.length
  m:∀(i:Nat) x y,r.ms[i]? =Jp x->q.ms[i]? =Jp y->AW x y<=0
structure Res.Sm (r:Res):Prop where
  s:r.kh.length<big
  w:r.rows.length<big
  sr:∀x∈r.kh,x.length<big
  wr:∀x∈r.rows,x.length<big
  f:r.de.length<big
  c:r.cls.length<big
  m:r.ms.length<big
def In.qp{i:In}(h0:i.chk=0)(y:i.Bn){m:Nat}{r:Res}(h:i.rp m r):r.Sm:=by
  cases i with
  | n N=>
    obtain⟨rfl,h1,h2⟩:=h;have C:=nI h0;have E:(rwK N m).length=m:=pK h1;have G:=BP h1;have I:(dP (stK N m)).length=(stK N m).length:=by unfold dP;rw[Ag]
    have B:aS N<=64:=C.oh;refine⟨?_,?_,?_,?_,?_,by show 0<1000000000000;omega,by show 0<1000000000000;omega⟩
    · show(dP (stK N m)).length<1000000000000;omega
    · show(rwK N m).length<1000000000000;omega
    · intro r hr;obtain⟨a,_,rfl⟩:=List.mem_map.1 hr;have:=D3 a;simp only[jA,Ag];show _<1000000000000;omega
    · intro r hr;obtain⟨a,_,rfl⟩:=List.mem_map.1 hr;rw[v8];show _<1000000000000;omega
    · show(fnK N m).length<1000000000000;omega
  | d D=>
    obtain rfl:=h;have:(bF D m).length<big:=by rw[fF];exact y.1.n
    exact⟨by show 0<1000000000000;omega,by show 0<1000000000000;omega,fun x u=>absurd u (by simp),fun x u=>absurd u (by simp),by show 0<1000000000000;omega,this,by show 0<1000000000000;omega⟩
  | g ow pr su=>
    obtain⟨J,rfl,K,L⟩:=h;have:J.length<big:=by rw[K.l];exact y.1.o
    exact⟨by show 0<1000000000000;omega,by show 0<1000000000000;omega,fun x u=>absurd u (by simp),fun x u=>absurd u (by simp),by show 0<1000000000000;omega,by show 0<1000000000000;omega,this⟩
def VM{l:List Int}{i:Nat}{a:Int}(h:l[i]? =Jp a):l.getD i 0=a:=by simp[Bc,h]
def In.grow{i:In}(h0:i.chk=0){m d:Nat}{r q:Res}(hr:i.rp m r)(E:i.rp (m+d) q):Grow r q:=by
  cases i with
  | n N=>
    obtain⟨rfl,h1,h2⟩:=hr;obtain⟨rfl,h3,U⟩:=E;obtain⟨t,ht⟩:=HD (aJ N) (aS N) (gC N) m d;have hs:dP (stK N (m+d))=dP (stK N m)++dP t:=by show dP (iI _ _ _ _)=_;rw[ht];unfold dP;rw[Bh]
    have hw:∃L,rwK N (m+d)=rwK N m++L:=UY N m d;obtain⟨L,I⟩:=hw;refine⟨fun i x h=>?_,fun i x h=>?_,rfl,fun i k a b u=>by simp at u,Ab _,fun i x y B=>by simp at B⟩
    · show(dP (stK N (m+d)))[i]? =_;rw[hs];exact fM h _
    · show(rwK N (m+d))[i]? =_;rw[I];exact fM h _
  | d D=>
    have hr:r=⟨0,[],[],[],bF D m,[]⟩:=hr;have E:q=⟨0,[],[],[],bF D (m+d),[]⟩:=E;subst hr;subst E;refine⟨fun i x h=>by simp at h,fun i x h=>by simp at h,by show(bF D (m+d)).length=(bF D m).length;rw[fF,fF],fun i k a b u hb hh=>?_,Ab _,fun i x y B=>by simp at B⟩;have Q:i<D.nx.length:=by have:=aF u;rw[fF]at this;exact this
    have R:k<D.nx.length:=by have:=aF hb;rw[fF]at this;exact this
    have:=CO D m i k Q R d (by unfold Bc;rw[show(bF D (m+d))[i]? =(bF D (m+d))[k]? from hh]);rw[VM u,VM hb]at this;exact this
  | g ow pr su=>obtain⟨S,rfl,M,T⟩:=hr;obtain⟨J,rfl,G,K⟩:=E;refine⟨fun i x h=>by simp at h,fun i x h=>by simp at h,rfl,fun i k a b u=>by simp at u,by show S.length<=J.length;rw[M.l,G.l];exact Ab _,fun i x y B O=>?_⟩;refine(JT (M.ok x (Af B)) (G.ok y (Af O))).2 ?_;rw[<-s9 B,<-s9 O,T,K];exact aCq m i d
def aFh(k:Int)(N:NF)(D:DF)(ow pr:List Int)(su:List (List Int))(y:∀x∈N.es,(0<=x.ps/\x.ps<=255)/\(0<=x.ng/\x.ng<=255)):(E2 k N D ow pr su).Bn/\(E2 k N D ow pr su).few:=by
  have u:∀{α:Type} (l:List α) (c:Nat),c<=65->(l.take c).length<big:=fun l c h=>by rw[Ay];show _<1000000000000;omega
  unfold E2;split
  · refine⟨⟨u _ _ (by omega),u _ _ (by omega),u _ _ (by omega),fun x B=>y x (List.mem_of_mem_take B)⟩,?_⟩;show min N.n 5<=12;omega
  · split
    · refine⟨⟨⟨?_,fun r hr=>?_,u _ _ (by omega)⟩,?_⟩,trivial⟩
      · unfold JN;rw[Ag];exact u _ _ (by omega)
      · obtain⟨x,_,rfl⟩:=List.mem_map.1 hr;exact u _ _ (by omega)
      · unfold JN;rw[Ag,Ay];omega
    · refine⟨⟨⟨u _ _ (by omega),u _ _ (by omega),?_,fun r hr=>?_⟩,?_⟩,trivial⟩
      · unfold OK;rw[Ag];exact u _ _ (by omega)
      · obtain⟨x,_,rfl⟩:=List.mem_map.1 hr;exact u _ _ (by omega)
      · rw[Ay];omega
section
variable {tab:FuncId->Option AF} (T:HasA tab){M:Mem}{K:PV->Mem->Prop}
include T
def OJ{k:Int}{N:NF}{D:DF}{ow pr:List Int}{su:List (List Int)}
    (u:K (.agg ((E2 k N D ow pr su).cs Js Jr)) M):au tab 10 [.agg (csC Js Js k N D ow pr su)] M K:=by
  unfold E2 at u;rcases SL k with h | h | h
  · rw[if_pos h]at u;exact kR (aHM T h ⟨_,aAr (bh.refl _) (bh.refl _) (bh.refl _) (bh.ai _ _ _) (bh.ai _ _ _) (bh.ai _ _ _) (bh.ai _ _ _) (bh.ai _ _ _),u⟩)
  · rw[if_neg (by omega),if_pos h]at u;exact kR (aHL T h ⟨_,aAr (bh.ai _ _ _) (bh.ai _ _ _) (bh.ai _ _ _) (bh.refl _) (bh.refl _) (bh.ai _ _ _) (bh.ai _ _ _) (bh.ai _ _ _),u⟩)
  · rw[if_neg (by omega),if_neg (by omega)]at u;exact kR (aHK T h ⟨_,aAr (bh.ai _ _ _) (bh.ai _ _ _) (bh.ai _ _ _) (bh.ai _ _ _) (bh.ai _ _ _) (bh.refl _) (bh.refl _) (bh.refl _),u⟩)
end
def E4(n:Nat):List UInt8:=dig 20 n
def aCG(n:Nat):ByteArray:=⟨(E4 n).toArray⟩
def JQ{n:Nat}(h:n<100000000000000000000):E4 n=Lib.decDigits n:=DV 20 n (by omega) (by decide)
def NV:List (List UInt8)->List UInt8
  | []=>[]
  | w::u=>w++u.flatMap fun x=>32::x
def NU:∀u:List (List UInt8),Lib.join u [32]=NV u
  | []=>rfl
  | [w]=>by simp[Lib.join,NV]
  | w::v::u=>by have:=NU (v::u);show w++([32]++Lib.join (v::u) [32])=_;rw[this];simp[NV]
structure RS where
  l:List Nat
  e:Int
  late:Int
def RS.next(r:RS):Nat×RS:=match r.l with
  | []=>(0,⟨[],if r.e=0 then 3 else r.e,r.late⟩)
  | n::l=>(n,⟨l,r.e,r.late⟩)
def RS.small(lim:Nat)(r:RS):Nat×RS:=(min r.next.1 lim,⟨r.next.2.l,r.next.2.e,if lim<r.next.1 then 1 else r.next.2.late⟩)
def fI{σ:Type}(f:σ->RS->σ×RS):Nat->σ->RS->σ×RS
  | 0,s,r=>(s,r)
  | n+1,s,r=>if r.e=0 then fI f n (f s r).1 (f s r).2 else(s,r)
def RS.list(n:Nat)(r:RS):List Int×RS:=fI (fun u r=>(u++[(r.next.1:Int)],r.next.2)) n [] r
def RS.vars(r:RS):Nat×RS:=(r.next.1,⟨r.next.2.l,if 6<r.next.1 then 7 else r.next.2.e,r.next.2.late⟩)
def mA(r:RS):Eg×RS:=
  let a:=r.next;let b:=a.2.next;let c:=b.2.small 255;let d:=c.2.small 255
  (⟨a.1,b.1,c.1,d.1⟩,d.2)
def RS.nfa(r:RS):NF×RS:=
  let a:=r.vars;let b:=a.2.next;let c:=b.2.next;let d:=RS.list c.1 c.2;let e:=d.2.next;let f:=RS.list e.1 e.2;let g:=f.2.next
  let h:=fI (fun u r=>(u++[(mA r).1],(mA r).2)) g.1 [] g.2
  (⟨a.1,b.1,d.1,f.1,h.1⟩,h.2)
def RS.dfa(r:RS):DF×RS:=
  let a:=r.vars;let b:=a.2.next;let c:=b.2.next
  let d:=fI (fun u r=>(u++[(RS.list (2^(min a.1 6)) r).1],(RS.list (2^(min a.1 6)) r).2)) c.1 [] c.2
  let e:=fI (fun u r=>(u++[decide ((r.small 1).1=1)],(r.small 1).2)) c.1 [] d.2
  (⟨a.1,b.1,d.1,e.1⟩,e.2)
def RS.ie(r:RS):(List Int×List Int×List (List Int))×RS:=
  let c:=r.next
  let d:=fI (fun u r=>(u++[((r.small 255).1:Int)],(r.small 255).2)) c.1 [] c.2
  let e:=fI (fun u r=>(u++[(r.next.1:Int)],r.next.2)) c.1 [] d.2
  let f:=fI (fun u r=>(u++[(RS.list r.next.1 r.next.2).1],(RS.list r.next.1 r.next.2).2)) c.1 [] e.2
  ((d.1,e.1,f.1),f.2)
def kwD:List UInt8:=[100,101,116,101,114,109,105,110,105,122,101]
def kwM:List UInt8:=[109,105,110,105,109,105,122,101]
def kwP:List UInt8:=[109,101,97,115,117,114,101,115]
def jt(k:List UInt8)(r:RS):In×RS:=
  if k=kwD then(.n r.nfa.1,r.nfa.2)else if k=kwM then(.d r.dfa.1,r.dfa.2)else(.g r.ie.1.1 r.ie.1.2.1 r.ie.1.2.2,r.ie.2)
def In.kw:In->List UInt8
  | .n _=>kwD | .d _=>kwM | .g .. =>kwP
def fD(l:List Int):List Int:=(l.length:Int)::l
def egN(e:Eg):List Int:=[e.fr,e.to,e.ps,e.ng]
def b2I(b:Bool):Int:=if b=Jr then 1 else 0
def In.dp:In->List Int
  | .n N=>[N.vs,N.n]++fD N.st++fD N.fi++(N.es.length:Int)::N.es.flatMap egN
  | .d D=>[D.vs,D.st,(D.nx.length:Int)]++D.nx.flatten++D.fi.map b2I
  | .g ow pr su=>(ow.length:Int)::ow++pr++su.flatMap fD
def In.txt(i:In)(u:Nat):List UInt8:=NV (i.kw::((u:Int)::i.dp).map fun n=>E4 n.toNat)
def RS.li(r:RS):List Int:=r.l.map fun n:Nat=>(n:Int)
def Rd(r u:RS)(y:List Int):Prop:=u.e=0->u.late=0->r.e=0/\r.late=0/\r.li=y++u.li
def Rd.refl(r:RS):Rd r r []:=fun h1 h2=>⟨h1,h2,rfl⟩
def Rd.trans{a b c:RS}{x y:List Int}(h:Rd a b x)(k:Rd b c y):Rd a c (x++y):=fun h1 h2=>by obtain⟨u,B,E⟩:=k h1 h2;obtain⟨G,I,J⟩:=h u B;exact⟨G,I,by rw[J,E,Ac]⟩
def Rd.next(r:RS):Rd r r.next.2 [(r.next.1:Int)]:=by
  obtain⟨l,e,la⟩:=r
  cases l with
  | nil=>
    intro h1 h2;simp only[RS.next]at h1;split at h1
    · cases h1
    · contradiction
  | cons n l=>exact fun h1 h2=>⟨h1,h2,rfl⟩
def Rd.small(r:RS)(k:Nat):Rd r (r.small k).2 [((r.small k).1:Int)]:=by
  intro h1 h2;unfold RS.small at h1 h2 ⊢;simp only at h1 h2 ⊢;split at h2
  · cases h2
  · rename_i u;have:=Rd.next r h1 h2;rw[Dk (by omega)];exact this
def Rd.vars(r:RS):Rd r r.vars.2 [(r.vars.1:Int)]:=by
  intro h1 h2;unfold RS.vars at h1 h2 ⊢;simp only at h1 h2 ⊢;split at h1
  · cases h1
  · exact Rd.next r h1 h2
def Rd.each{σ:Type}{f:σ->RS->σ×RS}{g:σ->List Int}(hf:∀s r,∃u,Rd r (f s r).2 u/\g (f s r).1=g s++u):∀(n:Nat) (s:σ) (r:RS),∃u,Rd r (fI f n s r).2 u/\g (fI f n s r).1=g s++u
  | 0,s,r=>⟨[],Rd.refl r,by simp[fI]⟩
  | n+1,s,r=>by
    unfold fI;by_cases h:r.e=0
    · rw[if_pos h];obtain⟨x,B,E⟩:=hf s r;obtain⟨y,G,I⟩:=Rd.each hf n (f s r).1 (f s r).2;exact⟨x++y,B.trans G,by rw[I,E,Ac]⟩
    · rw[if_neg h];exact⟨[],Rd.refl r,by simp⟩
def sQ{σ:Type}{f:σ->RS->σ×RS}{len:σ->Nat}(hf:∀s r,len (f s r).1=len s+1):∀(n:Nat) (s:σ) (r:RS),(fI f n s r).2.e=0->len (fI f n s r).1=len s+n
  | 0,s,r,_=>rfl
  | n+1,s,r,h=>by
    unfold fI at h ⊢;by_cases c:r.e=0
    · rw[if_pos c]at h ⊢;rw[sQ hf n _ _ h,hf];omega
    · rw[if_neg c]at h;exact absurd h c
def Rd.list(n:Nat)(r:RS):Rd r (RS.list n r).2 (RS.list n r).1:=by
  obtain⟨y,h1,h2⟩:=Rd.each (f:=fun u r=>(u++[(r.next.1:Int)],r.next.2)) (g:=fun l=>l) (fun s r=>⟨_,Rd.next r,rfl⟩) n [] r;have:(RS.list n r).1=y:=by show(fI _ n [] r).1=y;rw[h2];rfl
  rw[this];exact h1
def DA{n:Nat}{r:RS}(h:(RS.list n r).2.e=0):(RS.list n r).1.length=n:=by have:=sQ (len:=fun l:List Int=>l.length) (f:=fun u r=>(u++[((RS.next r).1:Int)],(RS.next r).2)) (fun s r=>by simp) n [] r h;have:(RS.list n r).1.length=0+n:=this;omega
def Rd.oo(r:RS):Rd r (mA r).2 (egN (mA r).1):=by have h:=(((Rd.next r).trans (Rd.next r.next.2)).trans (Rd.small r.next.2.next.2 255)).trans (Rd.small (r.next.2.next.2.small 255).2 255);exact h
def Rd.nfa(r:RS):Rd r r.nfa.2 (In.n r.nfa.1).dp:=by
  intro y B;obtain⟨J,h1,h2⟩:=Rd.each (f:=fun u r=>(u++[(mA r).1],(mA r).2)) (g:=fun l=>l.flatMap egN) (fun s r=>⟨_,Rd.oo r,by simp⟩) (RS.next (RS.list (RS.next (RS.list (RS.next (RS.next r.vars.2).2).1 (RS.next (RS.next r.vars.2).2).2).2).1 (RS.next (RS.list (RS.next (RS.next r.vars.2).2).1 (RS.next (RS.next r.vars.2).2).2).2).2).2).1 [] (RS.next (RS.list (RS.next (RS.list (RS.next (RS.next r.vars.2).2).1 (RS.next (RS.next r.vars.2).2).2).2).1 (RS.next (RS.list (RS.next (RS.next r.vars.2).2).1 (RS.next (RS.next r.vars.2).2).2).2).2).2).2;have hl:=sQ (len:=fun l:List Eg=>l.length) (f:=fun u r=>(u++[(mA r).1],(mA r).2)) (fun s r=>by simp) _ [] _ (show(fI (fun u r=>(u++[(mA r).1],(mA r).2)) (RS.next (RS.list (RS.next (RS.list (RS.next (RS.next r.vars.2).2).1 (RS.next (RS.next r.vars.2).2).2).2).1 (RS.next (RS.list (RS.next (RS.next r.vars.2).2).1 (RS.next (RS.next r.vars.2).2).2).2).2).2).1 [] (RS.next (RS.list (RS.next (RS.list (RS.next (RS.next r.vars.2).2).1 (RS.next (RS.next r.vars.2).2).2).2).1 (RS.next (RS.list (RS.next (RS.next r.vars.2).2).1 (RS.next (RS.next r.vars.2).2).2).2).2).2).2).2.e=0 from y);have K:=Rd.vars r;have L:=Rd.next r.vars.2;have M:=Rd.next (RS.next r.vars.2).2;have O:=Rd.list (RS.next (RS.next r.vars.2).2).1 (RS.next (RS.next r.vars.2).2).2;have I:=Rd.next (RS.list (RS.next (RS.next r.vars.2).2).1 (RS.next (RS.next r.vars.2).2).2).2;have G:=Rd.list (RS.next (RS.list (RS.next (RS.next r.vars.2).2).1 (RS.next (RS.next r.vars.2).2).2).2).1 (RS.next (RS.list (RS.next (RS.next r.vars.2).2).1 (RS.next (RS.next r.vars.2).2).2).2).2;have E:=Rd.next (RS.list (RS.next (RS.list (RS.next (RS.next r.vars.2).2).1 (RS.next (RS.next r.vars.2).2).2).2).1 (RS.next (RS.list (RS.next (RS.next r.vars.2).2).1 (RS.next (RS.next r.vars.2).2).2).2).2).2;have V:=(E.trans h1) y B;have Y:=(G.trans (E.trans h1)) y B;have Q:=DA (E.trans h1 y B).1;have R:=DA ((I.trans (G.trans (E.trans h1))) y B).1;have:=(K.trans (L.trans (M.trans (O.trans (I.trans (G.trans (E.trans h1))))))) y B;refine⟨this.1,this.2.1,?_⟩;rw[this.2.2];have S:(In.n r.nfa.1).dp=[(r.vars.1:Int),((RS.next r.vars.2).1:Int)]++fD (RS.list (RS.next (RS.next r.vars.2).2).1 (RS.next (RS.next r.vars.2).2).2).1++fD (RS.list (RS.next (RS.list (RS.next (RS.next r.vars.2).2).1 (RS.next (RS.next r.vars.2).2).2).2).1 (RS.next (RS.list (RS.next (RS.next r.vars.2).2).1 (RS.next (RS.next r.vars.2).2).2).2).2).1++(r.nfa.1.es.length:Int)::r.nfa.1.es.flatMap egN:=rfl;rw[S];have T:r.nfa.1.es.flatMap egN=J:=by rw[show r.nfa.1.es=_ from rfl];exact h2
  have U:r.nfa.1.es.length=(RS.next (RS.list (RS.next (RS.list (RS.next (RS.next r.vars.2).2).1 (RS.next (RS.next r.vars.2).2).2).2).1 (RS.next (RS.list (RS.next (RS.next r.vars.2).2).1 (RS.next (RS.next r.vars.2).2).2).2).2).2).1:=by have:r.nfa.1.es.length=0+_:=hl;rw[this,Bg]
  rw[T,U];unfold fD;rw[Q,R];simp only[Ai,Aj,Ac];rfl
def Rd.dfa(r:RS):Rd r r.dfa.2 (In.d r.dfa.1).dp:=by
  intro B E;obtain⟨G,h1,h2⟩:=Rd.each (f:=fun u y=>(u++[(RS.list (2^(min r.vars.1 6)) y).1],(RS.list (2^(min r.vars.1 6)) y).2)) (g:=fun l=>l.flatten) (fun s r=>⟨_,Rd.list _ r,by simp⟩) (RS.next (RS.next r.vars.2).2).1 [] (RS.next (RS.next r.vars.2).2).2;obtain⟨I,h3,J⟩:=Rd.each (f:=fun u r=>(u++[decide ((RS.small 1 r).1=1)],(RS.small 1 r).2)) (g:=fun l:List Bool=>l.map b2I) (fun s r=>⟨_,Rd.small r 1,by
    have:(RS.small 1 r).1<=1:=by unfold RS.small;simp only;omega
    simp only[Bh,Ah,Av,b2I,decide_eq_true_eq];congr 2;split<;>omega⟩) (RS.next (RS.next r.vars.2).2).1 [] (fI (fun u y=>(u++[(RS.list (2^(min r.vars.1 6)) y).1],(RS.list (2^(min r.vars.1 6)) y).2)) (RS.next (RS.next r.vars.2).2).1 [] (RS.next (RS.next r.vars.2).2).2).2
  have K:=Rd.vars r;have L:=Rd.next r.vars.2;have M:=Rd.next (RS.next r.vars.2).2;have k:=h3 B E;have hl:=sQ (len:=fun l:List (List Int)=>l.length) (f:=fun u y=>(u++[(RS.list (2^(min r.vars.1 6)) y).1],(RS.list (2^(min r.vars.1 6)) y).2)) (fun s r=>by simp) _ [] _ k.1;have:=(K.trans (L.trans (M.trans (h1.trans h3)))) B E;refine⟨this.1,this.2.1,?_⟩;rw[this.2.2];have O:(In.d r.dfa.1).dp=[(r.vars.1:Int),((RS.next r.vars.2).1:Int),(r.dfa.1.nx.length:Int)]++r.dfa.1.nx.flatten++r.dfa.1.fi.map b2I:=rfl;rw[O];have Q:r.dfa.1.nx.flatten=G:=h2;have R:r.dfa.1.fi.map b2I=I:=J;have S:r.dfa.1.nx.length=(RS.next (RS.next r.vars.2).2).1:=by
    have:r.dfa.1.nx.length=0+_:=hl;rw[this,Bg]
  rw[Q,R,S];simp only[Ai,Aj,Ac];rfl
def Rd.ie(r:RS):Rd r r.ie.2 (In.g r.ie.1.1 r.ie.1.2.1 r.ie.1.2.2).dp:=by
  intro G I;obtain⟨J,h1,h2⟩:=Rd.each (f:=fun u r=>(u++[((RS.small 255 r).1:Int)],(RS.small 255 r).2)) (g:=fun l=>l) (fun s r=>⟨_,Rd.small r 255,rfl⟩) r.next.1 [] r.next.2;obtain⟨K,h3,L⟩:=Rd.each (f:=fun u r=>(u++[((RS.next r).1:Int)],(RS.next r).2)) (g:=fun l=>l) (fun s r=>⟨_,Rd.next r,rfl⟩) r.next.1 [] (fI (fun u r=>(u++[((RS.small 255 r).1:Int)],(RS.small 255 r).2)) r.next.1 [] r.next.2).2;have y:∀(r:RS),(RS.list r.next.1 r.next.2).2.e=0->(RS.list r.next.1 r.next.2).1.length=r.next.1:=fun r h=>DA h;have M:∀(n:Nat) (s:List (List Int)) (r:RS),(fI (fun u r=>(u++[(RS.list (RS.next r).1 (RS.next r).2).1],(RS.list (RS.next r).1 (RS.next r).2).2)) n s r).2.e=0->(fI (fun u r=>(u++[(RS.list (RS.next r).1 (RS.next r).2).1],(RS.list (RS.next r).1 (RS.next r).2).2)) n s r).2.late=0->
      r.e=0/\r.late=0/\∃B,r.li=B++(fI (fun u r=>(u++[(RS.list (RS.next r).1 (RS.next r).2).1],(RS.list (RS.next r).1 (RS.next r).2).2)) n s r).2.li/\(fI (fun u r=>(u++[(RS.list (RS.next r).1 (RS.next r).2).1],(RS.list (RS.next r).1 (RS.next r).2).2)) n s r).1.flatMap fD=s.flatMap fD++B:=by
    intro n
    induction n with
    | zero=>exact fun s r a b=>⟨a,b,[],rfl,by simp[fI]⟩
    | succ n O=>
      intro s r a b;unfold fI at a b ⊢;by_cases c:r.e=0
      · rw[if_pos c]at a b ⊢;obtain⟨E,Q,B,R,S⟩:=O _ _ a b;obtain⟨T,U,V⟩:=(Rd.next r).trans (Rd.list r.next.1 r.next.2) E Q;refine⟨T,U,([((RS.next r).1:Int)]++(RS.list r.next.1 r.next.2).1)++B,by rw[V,show(RS.list r.next.1 r.next.2).2.li=_ from R];simp only[Ac],?_⟩;rw[S];simp only[Gp,Cc,Fw,Ao,fD,y r E,Ac];rfl
      · rw[if_neg c]at a;exact absurd a c
  obtain⟨k1,k2,Y,Z,k4⟩:=M _ _ _ G I;have g3:=h3 k1 k2;have hl:=sQ (len:=fun l:List Int=>l.length) (f:=fun u r=>(u++[((RS.small 255 r).1:Int)],(RS.small 255 r).2)) (fun s r=>by simp) _ [] _ g3.1;have:=((Rd.next r).trans (h1.trans h3)) k1 k2;refine⟨this.1,this.2.1,?_⟩;rw[this.2.2,Z];have e1:(In.g r.ie.1.1 r.ie.1.2.1 r.ie.1.2.2).dp=(r.ie.1.1.length:Int)::r.ie.1.1++r.ie.1.2.1++r.ie.1.2.2.flatMap fD:=rfl;rw[e1];have e2:r.ie.1.1=J:=h2;have e3:r.ie.1.2.1=K:=L;have e4:r.ie.1.2.2.flatMap fD=Y:=k4;have e5:r.ie.1.1.length=r.next.1:=by
    have:r.ie.1.1.length=0+_:=hl;rw[this,Bg]
  rw[e5,e2,e3,e4];simp only[Ai,Aj,Ac];rfl
def Rd.jt(k:List UInt8)(r:RS):Rd r (jt k r).2 (jt k r).1.dp:=by
  unfold Ar.jt;split
  · exact Rd.nfa r
  · split
    · exact Rd.dfa r
    · exact Rd.ie r
def zO(n:Nat)(l:List Nat):RS.next ⟨n::l,0,0⟩=(n,⟨l,0,0⟩):=rfl
def LK{n k:Nat}(h:n<=k)(l:List Nat):RS.small k ⟨n::l,0,0⟩=(n,⟨l,0,0⟩):=by unfold RS.small;rw[zO];simp only;rw[if_neg (by omega),Dk h]
def aGr{n:Nat}(h:n<=6)(l:List Nat):RS.vars ⟨n::l,0,0⟩=(n,⟨l,0,0⟩):=by unfold RS.vars;rw[zO];simp only;rw[if_neg (by omega)]
abbrev tn(l:List Int):List Nat:=l.map Db
def oV{α:Type}{f:List α->RS->List α×RS}{enc:α->List Int} :∀(u:List α) (s:List α) (rest:List Nat),(∀x∈u,∀s rest,f s ⟨tn (enc x)++rest,0,0⟩=(s++[x],⟨rest,0,0⟩))->
    fI f u.length s ⟨tn (u.flatMap enc)++rest,0,0⟩=(s++u,⟨rest,0,0⟩)
  | [],s,rest,h=>by simp[fI]
  | x::u,s,rest,h=>by
    rw[Ak];unfold fI;rw[if_pos rfl];have e:tn ((x::u).flatMap enc)++rest=tn (enc x)++(tn (u.flatMap enc)++rest):=by simp
    rw[e,h x (by simp)];simp only;rw[oV u _ rest fun y B=>h y (by simp[B])];simp
def VC{xs:List Int}(h:∀x∈xs,0<=x)(rest:List Nat):RS.list xs.length ⟨tn xs++rest,0,0⟩=(xs,⟨rest,0,0⟩):=by have:=oV (f:=fun u r=>(u++[((RS.next r).1:Int)],(RS.next r).2)) (enc:=fun x:Int=>[x]) xs [] rest (fun x y s rest=>by have e:=h x y;show(s++[((x.toNat:Nat):Int)],_)=_;rw[Cx e];rfl);simpa [RS.list]using this
def aIZ{x:Eg}(h1:0<=x.fr)(h2:0<=x.to)(h3:0<=x.ps/\x.ps<=255)(u:0<=x.ng/\x.ng<=255)(rest:List Nat):mA ⟨tn (egN x)++rest,0,0⟩=(x,⟨rest,0,0⟩):=by unfold mA egN;simp only[Ah,Av,Ai,Aj,zO,LK (show x.ps.toNat<=255 by omega),LK (show x.ng.toNat<=255 by omega)];have y:=Cx h1;have B:=Cx h2;have E:=Cx h3.1;have G:=Cx u.1;rw[y,B,E,G]
def In.Pos:In->Prop
  | .g ow _ _=>∀x∈ow,0<=x
  | _=>True
def IM{n:Int}{l:List Int}(h:iX n (-1) l=Jr):∀x∈l,0<=x/\x<n:=fun x u=>by have:=m9 h x u;omega
def aHs{N:NF}(C:NOk N)(B:BnN N):RS.nfa ⟨tn (In.n N).dp,0,0⟩=(N,⟨[],0,0⟩):=by have G:=C.v0;have S:=C.v6;have I:=C.n0;have J:=fun rest=>VC (xs:=N.st) (fun x u=>(IM C.st x u).1) rest;have L:=fun rest=>VC (xs:=N.fi) (fun x u=>(IM C.fi x u).1) rest;have E:=oV (f:=fun y r=>(y++[(mA r).1],(mA r).2)) (enc:=egN) N.es [] [] (fun x u s rest=>by obtain⟨M,_,O,_,_⟩:=C.ed x u;obtain⟨Q,R⟩:=B.b x u;show(s++[(mA _).1],(mA _).2)=_;rw[aIZ M O Q R]);rw[Ao]at E;unfold RS.nfa In.dp fD;simp only[Ah,Av,Bh,Ai,Aj,Ac,aGr (show N.vs.toNat<=6 by omega),zO,Bq];rw[J];simp only[zO];rw[L];simp only[zO];rw[E];rw[Cx G,Cx I];rfl
def aHO{D:DF}(C:OkD D):RS.dfa ⟨tn (In.d D).dp,0,0⟩=(D,⟨[],0,0⟩):=by
  have E:=C.v0;have Q:=C.v6;have G:=C.s0;have I:=fun rest=>oV (f:=fun u r=>(u++[(RS.list (2^(min D.vs.toNat 6)) r).1],(RS.list (2^(min D.vs.toNat 6)) r).2)) (enc:=fun x:List Int=>x) D.nx [] rest (fun x y s rest=>by
    obtain⟨J,K⟩:=C.r x y;have e:2^(min D.vs.toNat 6)=x.length:=by
      rw[Dk (by omega)];have:((2^D.vs.toNat:Nat):Int)=x.length:=by rw[J];simp
      omega
    show(s++[(RS.list _ _).1],(RS.list _ _).2)=_;rw[e,VC fun t ht=>(K t ht).1])
  have B:=oV (f:=fun u r=>(u++[decide ((RS.small 1 r).1=1)],(RS.small 1 r).2)) (enc:=fun b:Bool=>[b2I b]) D.fi [] [] (fun x y s rest=>by
    cases x
    · show(s++[decide ((RS.small 1 ⟨0::rest,0,0⟩).1=1)],(RS.small 1 ⟨0::rest,0,0⟩).2)=_;rw[LK (by omega)];rfl
    · show(s++[decide ((RS.small 1 ⟨1::rest,0,0⟩).1=1)],(RS.small 1 ⟨1::rest,0,0⟩).2)=_;rw[LK (by omega)];rfl)
  rw[Ao,C.f]at B;unfold RS.dfa In.dp;simp only[Ah,Av,Bh,Ai,Aj,Ac,aGr (show D.vs.toNat<=6 by omega),zO,Bq];have L:(D.nx.flatten)=D.nx.flatMap fun x=>x:=by simp[Jk]
  have M:D.fi.map b2I=D.fi.flatMap fun b=>[b2I b]:=by
    induction D.fi with
    | nil=>rfl
    | cons b l O=>simp[O]
  rw[L,I];simp only;rw[M,B,Cx E,Cx G];rfl
def aFg{ow pr:List Int}{su:List (List Int)}(V:Valid ow pr su)(M:∀x∈ow,0<=x):RS.ie ⟨tn (In.g ow pr su).dp,0,0⟩=((ow,pr,su),⟨[],0,0⟩):=by
  have y:∀i,(E:i<ow.length)->0<=pr.getD i 0/\ow.getD i 0<=1/\∀x,su[i]? =Jp x->∀t∈x,0<=t:=fun i E=>by have hs:=V.s;obtain⟨a,b,c,d,e⟩:=V.row i (by omega);refine⟨a,c,fun x u t ht=>?_⟩;rw[Ad (by omega)]at u;cases u;exact(IM e t ht).1
  have J:∀x∈ow,x<=1:=fun x u=>by obtain⟨i,E⟩:=List.mem_iff_getElem?.1 u;have hl:=aF E;have:=(y i hl).2.1;rw[Bc,E]at this;exact this
  have K:∀x∈pr,0<=x:=fun x u=>by obtain⟨i,E⟩:=List.mem_iff_getElem?.1 u;have hl:=aF E;have M:=V.p;have:=(y i (by omega)).1;rw[Bc,E]at this;exact this
  have L:∀x∈su,∀t∈x,0<=t:=fun x u=>by obtain⟨i,E⟩:=List.mem_iff_getElem?.1 u;have hl:=aF E;have hs:=V.s;exact(y i (by omega)).2.2 x E
  have O:=fun rest=>oV (f:=fun B r=>(B++[((RS.small 255 r).1:Int)],(RS.small 255 r).2)) (enc:=fun x:Int=>[x]) ow [] rest (fun x u s rest=>by have a:=J x u;have b:=M x u;show(s++[((RS.small 255 ⟨x.toNat::rest,0,0⟩).1:Int)],(RS.small 255 ⟨x.toNat::rest,0,0⟩).2)=_;rw[LK (by omega)];simp only;rw[Cx b]);have I:=fun rest=>oV (f:=fun B r=>(B++[((RS.next r).1:Int)],(RS.next r).2)) (enc:=fun x:Int=>[x]) pr [] rest (fun x u s rest=>by have b:=K x u;show(s++[((x.toNat:Nat):Int)],_)=_;rw[Cx b];rfl);have Q:=oV (f:=fun B r=>(B++[(RS.list (RS.next r).1 (RS.next r).2).1],(RS.list (RS.next r).1 (RS.next r).2).2)) (enc:=fD) su [] [] (fun x u s rest=>by show(s++[(RS.list x.length ⟨tn x++rest,0,0⟩).1],(RS.list x.length ⟨tn x++rest,0,0⟩).2)=_;rw[VC (L x u)]);have G:∀l:List Int,l.flatMap (fun x=>[x])=l:=fun l=>by
    induction l with
    | nil=>rfl
    | cons b l R=>simp[R]
  rw[Ao,V.s]at Q;have I:=fun rest=>I rest;rw[G,V.p]at I;rw[G]at O;unfold RS.ie In.dp;simp only[Ah,Bh,Ai,Ac,zO,Bq];rw[O];simp only;rw[I];simp only;rw[Q];rfl
def mG(n:Int):Prop:=0<=n/\n<=2147483647
def pL{n:Int}(G:0<=n){l:List Int}(h:iX n (-1) l=Jr):(l.length:Int)<=n:=by
  obtain⟨h1,h2⟩:=mM h;have u:∀(l:List Int) (a:Int),l.Pairwise (· < ·)->(∀x∈l,a<x/\x<n)->(l.length:Int)<=max 0 (n-a-1):=by
    intro l
    induction l with
    | nil=>intro a _ _;simp;omega
    | cons x l B=>intro a E y;have h1:=List.pairwise_cons.1 E;have h2:=B x h1.2 fun z hz=>⟨h1.1 z hz,(y z (by simp[hz])).2⟩;have h3:=y x (by simp);rw[Ak];omega
  have:=u l (-1) h1 h2;omega
def IE{n:Int}(h0:0<=n)(y:n<=5000){l:List Int}(h:iX n (-1) l=Jr):∀x∈fD l,mG x:=fun x u=>by
  have h1:=pL h0 h;rcases List.mem_cons.1 u with rfl | u
  · exact⟨by omega,by omega⟩
  · have:=IM h x u;exact⟨by omega,by omega⟩
def KN{ow pr:List Int}{su:List (List Int)}(V:Valid ow pr su):(∀x∈ow,x<=1)/\(∀x∈pr,0<=x/\x<=16)/\∀x∈su,iX ow.length (-1) x=Jr:=by
  have hs:=V.s;have B:=V.p;refine⟨fun x y=>?_,fun x y=>?_,fun x y=>?_⟩
  · obtain⟨i,u⟩:=List.mem_iff_getElem?.1 y;have hl:=aF u;have:=(V.row i (by omega)).2.2.1;rw[Bc,u]at this;exact this
  · obtain⟨i,u⟩:=List.mem_iff_getElem?.1 y;have hl:=aF u;have:=V.row i (by omega);rw[Bc,u]at this;exact⟨this.1,this.2.1⟩
  · obtain⟨i,u⟩:=List.mem_iff_getElem?.1 y;have hl:=aF u;have:=(V.row i (by omega)).2.2.2.2;rw[Ad (by omega)]at u;cases u;exact this
def In.ls{i:In}(h0:i.chk=0)(B:i.Bn)(E:i.Pos):∀x∈i.dp,mG x:=by
  cases i with
  | n N=>
    have C:=nI h0;have G:=C.v0;have I:=C.v6;have y:=C.n0;have J:=C.n64;have Q:=C.qz;intro x u;unfold In.dp at u;simp only[Cf,Cr,En,or_false,Ey]at u;rcases u with(((rfl | rfl) | u) | u) | rfl | ⟨e,he,u⟩
    · exact⟨by omega,by omega⟩
    · exact⟨by omega,by omega⟩
    · exact IE y (by omega) C.st x u
    · exact IE y (by omega) C.fi x u
    · exact⟨by omega,by omega⟩
    · obtain⟨R,S,T,U,_⟩:=C.ed e he;obtain⟨Y,Z⟩:=B.b e he;unfold egN at u;simp only[Cr,En,or_false]at u;rcases u with rfl | rfl | rfl | rfl<;>exact⟨by omega,by omega⟩
  | d D=>
    have C:=gm.1 h0;have G:=C.v0;have I:=C.v6;have y:=C.n0;have K:=C.n1;have s0:=C.s0;have s1:=C.s1;intro x u;unfold In.dp at u;simp only[Cf,Cr,En,or_false,Jl,List.mem_map]at u;rcases u with((rfl | rfl | rfl) | ⟨r,hr,u⟩) | ⟨b,_,rfl⟩
    · exact⟨by omega,by omega⟩
    · exact⟨by omega,by omega⟩
    · exact⟨by omega,by omega⟩
    · have:=(C.r r hr).2 x u;exact⟨by omega,by omega⟩
    · unfold b2I;split<;>exact⟨by omega,by omega⟩
  | g ow pr su=>
    have V:=jB h0;have K:=V.n1;obtain⟨L,M,O⟩:=KN V;intro x u;unfold In.dp at u;simp only[Cf,Cr,Ey]at u;rcases u with((rfl | u) | u) | ⟨r,hr,u⟩
    · exact⟨by omega,by omega⟩
    · have:=L x u;have:=E x u;exact⟨by omega,by omega⟩
    · have:=M x u;exact⟨by omega,by omega⟩
    · exact IE (n:=ow.length) (by omega) (by omega) (O r hr) x u
def In.rd{i:In}(h0:i.chk=0)(u:i.Bn)(y:i.Pos):jt i.kw ⟨tn i.dp,0,0⟩=(i,⟨[],0,0⟩):=by
  have d1:kwM≠kwD:=by decide
  have d2:kwP≠kwD:=by decide
  have d3:kwP≠kwM:=by decide
  cases i with
  | n N=>unfold jt In.kw;rw[if_pos rfl,aHs (nI h0) u]
  | d D=>unfold jt In.kw;simp only;rw[if_neg d1,if_pos trivial,aHO (gm.1 h0)]
  | g ow pr su=>unfold jt In.kw;simp only;rw[if_neg d2,if_neg d3,aFg (jB h0) y]
def YV{x:Int}(h:0<=x):VJ x=aCG x.toNat:=by unfold VJ N8 aCG E4;rw[if_neg (by omega)]
abbrev wds(l:List Int):List ByteArray:=l.map fun x=>aCG x.toNat
abbrev wdM(b y g B:Nat)(u:List ByteArray):Mem:=[.cells 0 y [.ref (b+1) g 1 0 u.length],.cells g B (u.map PV.str)]
section
variable {tab:FuncId->Option AF} (T:HasA tab){M:Mem}{K:PV->Mem->Prop}
include T
def rN{A G M:Mem}{K:PV->Mem->Prop}{f o:Bool}{vb g vw:Nat}{xs:List ByteArray}{l:List Int}(O:M=A++(wdM A.length vb g vw xs++G))(hl:∀x∈l,mG x)(h1:xs.length<1000000000)(h2:l.length<1000000000)
    (u:∀y Q B,K (.tuple []) (A++(wdM A.length y Q B (xs++wds l)++G))):au tab 61 [.ptr A.length 0 0,slI f o .i64 l] M K:=by
  subst O;refine aV T.h61 ?_;simp only[af61,PP,simprocAttr,PT];refine C8 (fun(k vb g vw:Nat)=>k<=l.length) (fun k vb g vw=>(.ptr A.length 0 0::zj 5++slI f o .i64 l::p64 l.length::p64 k::zj 13)) (fun k vb g vw=>A++(wdM A.length vb g vw (xs++wds (l.take k))++G)) (fun k vb g vw=>l.length-k) 0 vb g vw (by omega) ?_ (by simp only[PW]) (by simp);intro k vb g vw R S;refine aH (by kernel_rfl) ?_;simp only[PP,simprocAttr];refine QIf.intro (fun c=>?_) fun c=>?_;rotate_left
  · have E:k=l.length:=by omega
    subst E;rw[Bo (Ab _)];have u:=u vb g vw;simp only[PP,simprocAttr]at u;simp only[PP,simprocAttr,c];exact u
  have hlt:k<l.length:=by omega
  have hw:=aA (k:=k) (by show _<1000000000000;omega);have U:(0:Int)<=k:=by omega
  obtain⟨x,I⟩:=aK hlt;have L:=hl x (Af I);unfold mG at L;have J:(l.take k).length=k:=by rw[Ay];omega
  have V:(xs.length+k+1)*16<=140737488355328:=by omega
  have Y:xs.length+k+1<=9223372036854775807:=by omega
  simp only[PP,simprocAttr,PT,c,U,I,gk,gk0,sk,sk0,wdM,J];refine aFe T (by omega) (by omega) ?_;simp only[PP,simprocAttr,PT,gk,gk0,sk,sk0,hw,J,V,Y];have e:xs.length+k+1=xs.length+(k+1):=by omega
  have:=S (k+1) (vb+1) (g+1) 0 (by omega) (by omega);rw[fK I,YV L.1]at*;simp only[PP,simprocAttr,J,e]at this ⊢;refine bZ this (by simp only[PW]) ?_;rw[cN _ _ (by simp;omega)];simp only[Ac,Bh,Ah,Av]
def yP{A G M:Mem}{K:PV->Mem->Prop}{f o:Bool}{vb g vw:Nat}{xs:List ByteArray}{l:List Int}(I:M=A++(wdM A.length vb g vw xs++G))(hl:∀x∈fD l,mG x)(h1:xs.length<900000000)(h2:l.length<900000000)
    (u:∀B J E,K (.tuple []) (A++(wdM A.length B J E (xs++wds (fD l))++G))):au tab 62 [.ptr A.length 0 0,slI f o .i64 l] M K:=by
  subst I;refine aV T.h62 ?_;simp only[af62,PP,simprocAttr,PT];refine rN T (f:=true) (o:=true) (l:=[(l.length:Int)]) (A:=A) (G:=G) (vb:=vb) (g:=g) (vw:=vw) (xs:=xs) (by simp only[PP,simprocAttr]) (fun x y=>hl x (by unfold fD;simp at y;simp[y])) (by omega) (by simp) fun vb g vw=>?_;simp only[PP,simprocAttr,PT];refine rN T (f:=f) (o:=o) (l:=l) (A:=A) (G:=G) (vb:=vb) (g:=g) (vw:=vw) (xs:=xs++wds [(l.length:Int)]) (by simp only[PP,simprocAttr]) (fun x y=>hl x (Cy _ y)) (by simp;omega) (by omega) fun vb g vw=>?_;have u:=u vb g vw;simp only[PP,simprocAttr,PT,fD,Ac]at u ⊢;exact u
end
end Go.Am.Ar
namespace Go.Am
def u9{u:FuncId->Option AF}{m:Nat}{a:List PV}{M:Mem}{B E:List PV->Mem->Prop}{G:Nat->List PV->Mem->Prop}{c:AR}{x y:AC}(J:pev a c= .bool Js)(h:fL u m y a M B E G):fL u m (.cond c x y) a M B E G:=by intro w hh K h0 hm s I;rw[BV];have hv:=bE I c;rw[J]at hv;refine⟨Js,kZ hv,?_⟩;rw[if_neg (by simp)];exact h w hh K h0 hm s I
end Go.Am
namespace Go.Am.Ar
open Go.Am.PV renaming aa->Zj
open Go.Am renaming jc->P1,lg->P2,kq->P3,ep->P4,bl.under->P5,fy->P6,dr->P7,bf->P8,pev->P9,iw->P10,bd->P11,jl->P12,dw->P13,fY->P14,AO.effect->P15
open List renaming replicate->L1
def In.mn(i:In)(u:Nat):ByteArray:=⟨(i.txt u).toArray⟩
def aCh(i:In)(u:Nat):(⟨(Lib.join (((⟨i.kw.toArray⟩:ByteArray)::wds ((u:Int)::i.dp)).map (·.data.toList)) [32]).toArray⟩:ByteArray)=i.mn u:=by rw[NU];unfold In.mn In.txt;congr 3;simp[aCG]
def pD{A G:Mem}{b y g B n:Nat}{u:List ByteArray}{cs:List PV}(h1:n=u.length)(h2:cs=u.map PV.str):A++bl.cells 0 y [.ref (b+1) g 1 0 n]::bl.cells g B cs::G=A++(wdM b y g B u++G):=by subst h1;subst h2;rfl
def JO:∀k u,(dig k u).length<=k
  | 0,_=>Ab _
  | k+1,u=>by
    unfold dig;split
    · simp
    · rw[Al,List.length_singleton];have:=JO k (u / 10);omega
def UH:∀l:List Int,((l.map fun n:Int=>E4 n.toNat).flatMap fun x=>32::x).length<=21*l.length
  | []=>by simp
  | x::l=>by have:=UH l;have h:=JO 20 x.toNat;simp only[Ah,Cc,Al,Ak];have:(E4 x.toNat).length<=20:=h;omega
def aEf(i:In)(u:Nat):(i.txt u).length<=32+21*i.dp.length:=by
  have h:=UH ((u:Int)::i.dp);have y:i.kw.length<=11:=by cases i<;>simp[In.kw,kwD,kwM,kwP]
  have:(i.txt u).length=i.kw.length+((((u:Int)::i.dp).map fun n:Int=>E4 n.toNat).flatMap fun x=>32::x).length:=by unfold In.txt NV;rw[Al]
  rw[Ak]at h;omega
section
variable {tab:FuncId->Option AF} (T:HasA tab){M:Mem}{K:PV->Mem->Prop}
include T
omit T in
def tP:∀l:List Eg,(l.flatMap egN).length=4*l.length
  | []=>rfl
  | e::l=>by rw[Cc,Al,tP l];simp[egN];omega
def Q2{i:In}{u id g ver n:Nat}{cs:List PV}(E:M[id]? =Jp (.cells g ver cs))(I:n=cs.length)(B:cs= .str ⟨i.kw.toArray⟩::((u:Int)::i.dp).map fun x=>PV.str (aCG x.toNat))(hl:i.dp.length<1000000000)(J:K (.str (i.mn u)) M):
    au tab 63 [.ref id g 1 0 n,.str ⟨#[32]⟩] M K:=by
  have e:cs=((⟨i.kw.toArray⟩:ByteArray)::wds ((u:Int)::i.dp)).map PV.str:=by rw[B];simp
  have hlen:n=((⟨i.kw.toArray⟩:ByteArray)::wds ((u:Int)::i.dp)).length:=by rw[I,e,Ag]
  rw[e]at E;rw[hlen];have y:(⟨#[32]⟩:ByteArray).data.toList=[32]:=rfl;have ht:=aEf i u;have G:Lib.join (((⟨i.kw.toArray⟩:ByteArray)::wds ((u:Int)::i.dp)).map (·.data.toList)) [32]=i.txt u:=by have:=aCh i u;unfold In.mn at this;have:=congrArg (fun b:ByteArray=>b.data.toList) this;simpa using this
  refine aFd T E (by simp;omega) (by rw[y,G];omega) ?_;rw[y,G];exact J
def aG8{j w v y:Nat}{u:Nat}{U V Y Z f3 o3:Bool}{N:NF}{rest:List PV}
    (R:M[j]? =Jp (.cells 0 v [.iface 116 (.ptr w 0 0),p64 (u:Int)])) (hw:M[w]? =Jp (.cells 0 y (nfC U V Y Z f3 o3 N++rest)))
    (J:∀x∈(In.n N).dp,mG x) (hu:u<=2147483647) (hc:M.all (aI M.length)=Jr) (hB:N.st.length<100000000/\N.fi.length<100000000/\N.es.length<100000000)
    (hk:K (.str ((In.n N).mn u)) M):au tab 23 [.ptr j 0 0] M K:=by
  have I:=fun l=>fM R l;have L:=fun l=>fM hw l;refine iG (jV T.h23 ?_);simp only[af23];refine aE (aC ?_);simp only[PP,simprocAttr,PI,PT];refine aE (aC ?_);simp only[PP,simprocAttr,PI,PT,R];refine aE (aC ?_);simp only[PP,simprocAttr,PI,PT,R];refine aE ?_;refine aE (aC ?_);simp only[PP,simprocAttr,PI,PT,I];refine sX (aE (aC ?_));simp only[PP,simprocAttr,PI,PT,I];refine u7 rfl ?_;refine aE (aC ?_);simp only[PP,simprocAttr];refine aE (uZ 0 rfl ?_);simp only[PP,simprocAttr,PT,Option.some.injEq,exists_eq_left',Ac,gk,gk0,sk,sk0];refine aC ?_;simp only[PP,simprocAttr,PI,PT,I,L,gk,gk0,sk,sk0];have a0:N.st.length<100000000/\N.fi.length<100000000/\N.es.length<100000000:=by exact hB
  have m1:∀x∈[(u:Int),N.vs,N.n],mG x:=fun x E=>by
    simp only[Cr,En,or_false]at E;rcases E with rfl | rfl | rfl
    · exact⟨by omega,by omega⟩
    · exact J _ (by unfold In.dp;simp)
    · exact J _ (by unfold In.dp;simp)
  have m2:∀x∈fD N.st,mG x:=fun x E=>J x (by unfold In.dp;simp only[Cf];exact .inl (.inl (.inr E)));have m3:∀x∈fD N.fi,mG x:=fun x E=>J x (by unfold In.dp;simp only[Cf];exact .inl (.inr E));have m4:∀x∈[(N.es.length:Int)],mG x:=fun x E=>by
    rw[Ch]at E;exact J x (by unfold In.dp;simp[E])
  have m5:∀e∈N.es,∀x∈egN e,mG x:=fun e he x E=>J x (by unfold In.dp;simp only[Cf,Cr,Ey];exact .inr (.inr ⟨e,he,E⟩));refine rN T (f:=true) (o:=true) (l:=[(u:Int),N.vs,N.n]) (A:=M) (G:=[]) (vb:=1) (g:=0) (vw:=0) (xs:=[⟨kwD.toArray⟩]) (by simp only[PP,simprocAttr];rfl) m1 (by simp) (by simp) fun B g y=>?_;simp only[PP,simprocAttr,PI,PT,I,L,gk,gk0,sk,sk0];refine yP T (f:=U) (o:=V) (l:=N.st) (A:=M) (G:=[]) (vb:=B) (g:=g) (vw:=y) (xs:=[⟨kwD.toArray⟩]++wds [(u:Int),N.vs,N.n]) (by simp only[PP,simprocAttr]) m2 (by simp) (by omega) fun B g y=>?_;simp only[PP,simprocAttr,PI,PT,I,L,gk,gk0,sk,sk0];refine yP T (f:=Y) (o:=Z) (l:=N.fi) (A:=M) (G:=[]) (vb:=B) (g:=g) (vw:=y) (xs:=[⟨kwD.toArray⟩]++wds [(u:Int),N.vs,N.n]++wds (fD N.st)) (by simp only[PP,simprocAttr]) m3 (by simp[fD];omega) (by omega) fun B g y=>?_;simp only[PP,simprocAttr,PI,PT,I,L,gk,gk0,sk,sk0];refine rN T (f:=true) (o:=true) (l:=[(N.es.length:Int)]) (A:=M) (G:=[]) (vb:=B) (g:=g) (vw:=y) (xs:=[⟨kwD.toArray⟩]++wds [(u:Int),N.vs,N.n]++wds (fD N.st)++wds (fD N.fi)) (by simp only[PP,simprocAttr]) m4 (by simp[fD];omega) (by simp) fun B g y=>?_;simp only[PP,simprocAttr,PI,PT,I,L,gk,gk0,sk,sk0];refine aGB (fun(k B g y:Nat) (G:Mem)=>k<=N.es.length) (fun k B g y G=>(zj 3++ .ptr M.length 0 0::zj 63++slE f3 o3 N.es::p64 N.es.length::p64 k::zj 123))
    (fun k B g y G=>M++(wdM M.length B g y ([⟨kwD.toArray⟩]++wds [(u:Int),N.vs,N.n]++wds (fD N.st)++wds (fD N.fi)++wds [(N.es.length:Int)]++wds ((N.es.take k).flatMap egN))++G)) (fun k B g y G=>N.es.length-k) 0 B g y [] (by omega) ?_ (by simp only[PW]) (by simp)
  intro k B g y G a1 ih;refine aH (by kernel_rfl) ?_;simp only[PP,simprocAttr];refine QIf.intro (fun c=>?_) fun c=>?_;rotate_left
  · have S:k=N.es.length:=by omega
    subst S;rw[Bo (Ab _)];simp only[PP,simprocAttr,c];refine aC ?_;simp only[PP,simprocAttr,PT,gk,gk0,sk,sk0];refine Q2 T (i:= .n N) (u:=u) (by rw[gk];rfl) (by simp;omega) (by simp[In.dp,fD,In.kw,Gg]) (by unfold In.dp fD;simp only[Al,Ak,An,tP];omega) ?_;simp only[PP,simprocAttr,PT];refine Gh.step (GStep.ia (b:=[.str ((In.n N).mn u)]) (N:=M) M.length (Ab _) (by simp) (by simp only[PW]) (by simp[aD,PV.under]) ?_ (Bj rfl)) (Gh.same ⟨_,rfl,hk⟩);exact(congrArg (fun N:Mem=>N.all (aI M.length)) (Bj rfl)).trans hc
  have hlt:k<N.es.length:=by omega
  have hw:=aA (k:=k) (by show _<1000000000000;omega);have i0:(0:Int)<=k:=by omega
  obtain⟨x,Q⟩:=aK hlt;have he:dQ (egL N.es) (k*4) 4=egC x:=oA Q;have b4:k*4+4<=(egL N.es).length:=by rw[kN];omega
  have E:=m5 x (Af Q);have x1:=E x.ps (by simp[egN]);have x2:=E x.ng (by simp[egN]);unfold mG at x1 x2;have w1:IntKind.i64.wrap x.ps=x.ps:=by rw[wrap64]<;>omega
  have w2:IntKind.i64.wrap x.ng=x.ng:=by rw[wrap64]<;>omega
  simp only[PP,simprocAttr,PT,c,i0,Q,gk,gk0,sk,sk0,he,b4,Ac,egC,w1,w2];refine rN T (f:=true) (o:=true) (l:=egN x) (A:=M) (G:=G++[.cells 0 1 (egC x)]) (vb:=B) (g:=g) (vw:=y) (xs:=[⟨kwD.toArray⟩]++wds [(u:Int),N.vs,N.n]++wds (fD N.st)++wds (fD N.fi)++wds [(N.es.length:Int)]++wds ((N.es.take k).flatMap egN)) (pD (by simp;omega) (by simp)) E (by have h3:=tP (N.es.take k);rw[Ay]at h3;simp only[PP,simprocAttr,fD,h3];omega) (by simp[egN]) fun B g y=>?_;simp only[PP,simprocAttr,PT,hw];refine bZ (ih (k+1) B g y (G++[.cells 0 1 (egC x)]) (by omega) (by omega)) (by simp only[PW]) ?_;rw[fK Q];simp only[Ac];exact pD (by simp;omega) (by simp)
def aG7{j w v y:Nat}{u:Nat}{f1 o1 S U f3 o3:Bool}{D:DF}{rest:List PV}
    (V:M[j]? =Jp (.cells 0 v [.iface 122 (.ptr w 0 0),p64 (u:Int)])) (hw:M[w]? =Jp (.cells 0 y (dfC f1 o1 S U f3 o3 D++rest)))
    (hn:∀x∈(In.d D).dp,mG x) (hu:u<=2147483647) (hc:M.all (aI M.length)=Jr) (hB:(In.d D).dp.length<100000000)
    (hk:K (.str ((In.d D).mn u)) M):au tab 23 [.ptr j 0 0] M K:=by
  have L:=fun l=>fM V l;have Y:=fun l=>fM hw l;have nl:3+D.nx.flatten.length+D.fi.length<100000000:=by unfold In.dp at hB;simp only[Al,Ak,An,Ag]at hB;omega
  have m1:∀x∈[(u:Int),D.vs,D.st,(D.nx.length:Int)],mG x:=fun x E=>by
    rcases List.mem_cons.1 E with rfl | E
    · exact⟨by omega,by omega⟩
    · exact hn _ (by unfold In.dp;simp only[Cf];exact .inl (.inl E))
  have nb:D.nx.length<=2147483647:=by have:=m1 (D.nx.length:Int) (by simp);unfold mG at this;omega
  have m2:∀r∈D.nx,∀x∈r,mG x:=fun r hr x E=>hn x (by unfold In.dp;simp only[Cf,Jl];exact .inl (.inr ⟨r,hr,E⟩));have O:∀k,((D.nx.take k).flatten).length<=D.nx.flatten.length:=fun k=>by
    have:=congrArg (fun l:List (List Int)=>l.flatten.length) (Cu k D.nx);simp only[Jm,Al]at this;omega
  refine iG (jV T.h23 ?_);simp only[af23];refine aE (aC ?_);simp only[PP,simprocAttr,PI,PT];refine aE (aC ?_);simp only[PP,simprocAttr,PI,PT,V];refine aE (aC ?_);simp only[PP,simprocAttr,PI,PT,V];refine aE ?_;refine aE (aC ?_);simp only[PP,simprocAttr,PI,PT,L];refine sX (aE (aC ?_));simp only[PP,simprocAttr,PI,PT,L];refine u9 rfl ?_;refine aE (aC ?_);simp only[PP,simprocAttr,PI,PT,L];refine u7 rfl ?_;refine aE (aC ?_);simp only[PP,simprocAttr];refine aE (uZ 0 rfl ?_);simp only[PP,simprocAttr,PT,Option.some.injEq,exists_eq_left',Ac,gk,gk0,sk,sk0];refine aC ?_;simp only[PP,simprocAttr,PI,PT,L,Y,gk,gk0,sk,sk0];refine rN T (f:=true) (o:=true) (l:=[(u:Int),D.vs,D.st,(D.nx.length:Int)]) (A:=M) (G:=[]) (vb:=1) (g:=0) (vw:=0) (xs:=[⟨kwM.toArray⟩]) (by simp only[PP,simprocAttr];rfl) m1 (by simp) (by simp) fun B g y=>?_;simp only[PP,simprocAttr,PI,PT,L,Y,gk,gk0,sk,sk0];refine C8 (fun(k B g y:Nat)=>k<=D.nx.length) (fun k B g y=>(zj 3++ .ptr M.length 0 0::zj 3++ .ptr w 0 0::zj 108++slR f1 o1 S U .i64 D.nx::p64 D.nx.length::p64 k::zj 74))
    (fun k B g y=>M++(wdM M.length B g y ([⟨kwM.toArray⟩]++wds [(u:Int),D.vs,D.st,(D.nx.length:Int)]++wds ((D.nx.take k).flatten))++[])) (fun k B g y=>D.nx.length-k) 0 B g y (by omega) ?_ (by simp only[PW]) (by simp)
  intro k B g y a0 R;refine aH (by kernel_rfl) ?_;simp only[PP,simprocAttr];refine QIf.intro (fun c=>?_) fun c=>?_
  · have hlt:k<D.nx.length:=by omega
    have hw:=aA (k:=k) (by show _<1000000000000;omega);have Q:(0:Int)<=k:=by omega
    obtain⟨x,I⟩:=aK hlt;have E:=m2 x (Af I);have h2:=O k;have h3:=O (k+1);rw[fK I,Jm,Al]at h3;simp only[Fi,List.flatten_nil,Ao]at h3;simp only[PP,simprocAttr,PT,c,Q,I,gk,gk0,sk,sk0];refine rN T (f:=S) (o:=U) (l:=x) (A:=M) (G:=[]) (vb:=B) (g:=g) (vw:=y) (xs:=[⟨kwM.toArray⟩]++wds [(u:Int),D.vs,D.st,(D.nx.length:Int)]++wds ((D.nx.take k).flatten)) (pD (by simp) (by simp)) E (by simp only[PP,simprocAttr];omega) (by omega) fun B g y=>?_;simp only[PP,simprocAttr,PT,hw];refine bZ (R (k+1) B g y (by omega) (by omega)) (by simp only[PW]) ?_;rw[fK I];refine pD (by simp<;>omega) (by simp)
  · have J:k=D.nx.length:=by omega
    subst J;rw[Bo (Ab _)];simp only[PP,simprocAttr,PT,c,L,Y,gk,gk0,sk,sk0];refine C8 (fun(k B g y:Nat)=>k<=D.fi.length) (fun k B g y=>(zj 3++ .ptr M.length 0 0::zj 125++slB f3 o3 D.fi::p64 D.fi.length::p64 k::zj 61))
      (fun k B g y=>M++(wdM M.length B g y ([⟨kwM.toArray⟩]++wds [(u:Int),D.vs,D.st,(D.nx.length:Int)]++wds D.nx.flatten++wds ((D.fi.take k).map b2I))++[])) (fun k B g y=>D.fi.length-k) 0 B g y (by omega) ?_ (by simp only[PW]) (by simp)
    intro k B g y a0 R;refine aH (by kernel_rfl) ?_;simp only[PP,simprocAttr];refine QIf.intro (fun c=>?_) fun c=>?_
    · have hlt:k<D.fi.length:=by omega
      have hw:=aA (k:=k) (by show _<1000000000000;omega);have Q:(0:Int)<=k:=by omega
      obtain⟨x,I⟩:=aK hlt;have tk:(D.fi.take k).length=k:=by rw[Ay];omega
      simp only[PP,simprocAttr,PT,c,Q,I,gk,gk0,sk,sk0];cases x
      · simp only[PP,simprocAttr,PT,c,Q,I,gk,gk0,sk,sk0];refine rN T (f:=true) (o:=true) (l:=[0]) (A:=M) (G:=[]) (vb:=B) (g:=g) (vw:=y) (xs:=[⟨kwM.toArray⟩]++wds [(u:Int),D.vs,D.st,(D.nx.length:Int)]++wds D.nx.flatten++wds ((D.fi.take k).map b2I)) (pD (by simp) (by simp)) (fun x E=>by rw[Ch]at E;subst E;exact⟨by omega,by omega⟩) (by simp only[PP,simprocAttr,tk];omega) (by simp) fun B g y=>?_;simp only[PP,simprocAttr,PT,hw];refine bZ (R (k+1) B g y (by omega) (by omega)) (by simp only[PW]) ?_;rw[fK I];refine pD (by simp<;>omega) (by simp[b2I])
      · simp only[PP,simprocAttr,PT,c,Q,I,gk,gk0,sk,sk0];refine rN T (f:=true) (o:=true) (l:=[1]) (A:=M) (G:=[]) (vb:=B) (g:=g) (vw:=y) (xs:=[⟨kwM.toArray⟩]++wds [(u:Int),D.vs,D.st,(D.nx.length:Int)]++wds D.nx.flatten++wds ((D.fi.take k).map b2I)) (pD (by simp) (by simp)) (fun x E=>by rw[Ch]at E;subst E;exact⟨by omega,by omega⟩) (by simp only[PP,simprocAttr,tk];omega) (by simp) fun B g y=>?_;simp only[PP,simprocAttr,PT,hw];refine bZ (R (k+1) B g y (by omega) (by omega)) (by simp only[PW]) ?_;rw[fK I];refine pD (by simp<;>omega) (by simp[b2I])
    · have J:k=D.fi.length:=by omega
      subst J;rw[Bo (Ab _)];simp only[PP,simprocAttr,c];refine aC ?_;simp only[PP,simprocAttr,PT,gk,gk0,sk,sk0];refine Q2 T (i:= .d D) (u:=u) (by rw[gk];rfl) (by simp only[Ak,Al,Ag,An]) (by simp[In.dp,In.kw,Gg]) (by omega) ?_;simp only[PP,simprocAttr,PT];refine Gh.step (GStep.ia (b:=[.str ((In.d D).mn u)]) (N:=M) M.length (Ab _) (by simp) (by simp only[PW]) (by simp[aD,PV.under]) ?_ (Bj rfl)) (Gh.same ⟨_,rfl,hk⟩);exact(congrArg (fun N:Mem=>N.all (aI M.length)) (Bj rfl)).trans hc
def aG6{j w v B:Nat}{u:Nat}{f1 o1 f2 o2 f3 o3 V Y:Bool}{ow pr:List Int}{su:List (List Int)}{rest:List PV}
    (Z:M[j]? =Jp (.cells 0 v [.iface 125 (.ptr w 0 0),p64 (u:Int)])) (hw:M[w]? =Jp (.cells 0 B ([slI f1 o1 .u8 ow,slI f2 o2 .i64 pr,slR f3 o3 V Y .i64 su]++rest)))
    (R:∀x∈(In.g ow pr su).dp,mG x) (hu:u<=2147483647) (hc:M.all (aI M.length)=Jr) (hB:(In.g ow pr su).dp.length<100000000)
    (hk:K (.str ((In.g ow pr su).mn u)) M):au tab 23 [.ptr j 0 0] M K:=by
  have J:=fun l=>fM Z l;have S:=fun l=>fM hw l;have nl:1+ow.length+pr.length+(su.flatMap fD).length<100000000:=by unfold In.dp at hB;simp only[Al,Ak]at hB;omega
  have m1:∀x∈[(u:Int),(ow.length:Int)],mG x:=fun x I=>by
    simp only[Cr,En,or_false]at I;rcases I with rfl | rfl
    · exact⟨by omega,by omega⟩
    · exact R _ (by unfold In.dp;simp)
  have m2:∀x∈ow,mG x:=fun x I=>R x (by unfold In.dp;simp[I]);have m3:∀x∈pr,mG x:=fun x I=>R x (by unfold In.dp;simp[I]);have m4:∀r∈su,∀x∈fD r,mG x:=fun r hr x I=>R x (by unfold In.dp;simp only[Cf,Ey];exact .inr ⟨r,hr,I⟩);have O:∀k,((su.take k).flatMap fD).length<=(su.flatMap fD).length:=fun k=>by
    have:=congrArg (fun l:List (List Int)=>(l.flatMap fD).length) (Cu k su);simp only[Gp,Al]at this;omega
  have a2:su.length<=(su.flatMap fD).length:=by
    clear O m4 R hk nl hB hw S
    induction su with
    | nil=>simp
    | cons r l U=>simp only[Cc,Al,Ak,fD]at U ⊢;omega
  refine iG (jV T.h23 ?_);simp only[af23];refine aE (aC ?_);simp only[PP,simprocAttr,PI,PT];refine aE (aC ?_);simp only[PP,simprocAttr,PI,PT,Z];refine aE (aC ?_);simp only[PP,simprocAttr,PI,PT,Z];refine aE ?_;refine aE (aC ?_);simp only[PP,simprocAttr,PI,PT,J];refine sX (aE (aC ?_));simp only[PP,simprocAttr,PI,PT,J];refine u9 rfl ?_;refine aE (aC ?_);simp only[PP,simprocAttr,PI,PT,J];refine u9 rfl ?_;refine aE (aC ?_);simp only[PP,simprocAttr,PI,PT,J];refine u7 rfl ?_;refine aE (aC ?_);simp only[PP,simprocAttr];refine aE (uZ 0 rfl ?_);simp only[PP,simprocAttr,PT,Option.some.injEq,exists_eq_left',Ac,gk,gk0,sk,sk0];refine aC ?_;simp only[PP,simprocAttr,PI,PT,J,S,gk,gk0,sk,sk0];refine rN T (f:=true) (o:=true) (l:=[(u:Int),(ow.length:Int)]) (A:=M) (G:=[]) (vb:=1) (g:=0) (vw:=0) (xs:=[⟨kwP.toArray⟩]) (by simp only[PP,simprocAttr];rfl) m1 (by simp) (by simp) fun E g B=>?_;simp only[PP,simprocAttr,PI,PT,J,S,gk,gk0,sk,sk0];refine C8 (fun(k E g B:Nat)=>k<=ow.length) (fun k E g B=>(zj 3++ .ptr M.length 0 0::zj 8++ .ptr w 0 0::zj 148++slI f1 o1 .u8 ow::p64 ow.length::p64 k::zj 29))
    (fun k E g B=>M++(wdM M.length E g B ([⟨kwP.toArray⟩]++wds [(u:Int),(ow.length:Int)]++wds (ow.take k))++[])) (fun k E g B=>ow.length-k) 0 E g B (by omega) ?_ (by simp only[PW]) (by simp)
  intro k E g B a0 U;refine aH (by kernel_rfl) ?_;simp only[PP,simprocAttr];refine QIf.intro (fun c=>?_) fun c=>?_
  · have hlt:k<ow.length:=by omega
    have hw:=aA (k:=k) (by show _<1000000000000;omega);have i0:(0:Int)<=k:=by omega
    obtain⟨x,L⟩:=aK hlt;have I:=m2 x (Af L);have a1:=I;unfold mG at a1;have w1:IntKind.i64.wrap x=x:=by rw[wrap64]<;>omega
    have tk:(ow.take k).length=k:=by rw[Ay];omega
    simp only[PP,simprocAttr,PT,c,i0,L,gk,gk0,sk,sk0,w1];refine rN T (f:=true) (o:=true) (l:=[x]) (A:=M) (G:=[]) (vb:=E) (g:=g) (vw:=B) (xs:=[⟨kwP.toArray⟩]++wds [(u:Int),(ow.length:Int)]++wds (ow.take k)) (pD (by simp) (by simp)) (fun y hy=>by rw[Ch]at hy;subst hy;exact I) (by simp only[PP,simprocAttr,tk];omega) (by simp) fun E g B=>?_;simp only[PP,simprocAttr,PT,hw];refine bZ (U (k+1) E g B (by omega) (by omega)) (by simp only[PW]) ?_;rw[fK L];refine pD (by simp<;>omega) (by simp)
  · have Q:k=ow.length:=by omega
    subst Q;rw[Bo (Ab _)];simp only[PP,simprocAttr,PT,c,J,S,gk,gk0,sk,sk0];refine rN T (f:=f2) (o:=o2) (l:=pr) (A:=M) (G:=[]) (vb:=E) (g:=g) (vw:=B) (xs:=[⟨kwP.toArray⟩]++wds [(u:Int),(ow.length:Int)]++wds ow) (pD (by simp) (by simp)) m3 (by simp only[PP,simprocAttr];omega) (by omega) fun E g B=>?_;simp only[PP,simprocAttr,PI,PT,J,S,gk,gk0,sk,sk0];refine C8 (fun(k E g B:Nat)=>k<=su.length) (fun k E g B=>(zj 3++ .ptr M.length 0 0::zj 178++slR f3 o3 V Y .i64 su::p64 su.length::p64 k::zj 8))
      (fun k E g B=>M++(wdM M.length E g B ([⟨kwP.toArray⟩]++wds [(u:Int),(ow.length:Int)]++wds ow++wds pr++wds ((su.take k).flatMap fD))++[])) (fun k E g B=>su.length-k) 0 E g B (by omega) ?_ (by simp only[PW]) (by simp)
    intro k E g B a0 U;refine aH (by kernel_rfl) ?_;simp only[PP,simprocAttr];refine QIf.intro (fun c=>?_) fun c=>?_
    · have hlt:k<su.length:=by omega
      have hw:=aA (k:=k) (by show _<1000000000000;omega);have i0:(0:Int)<=k:=by omega
      obtain⟨x,L⟩:=aK hlt;have I:=m4 x (Af L);have h2:=O k;have h3:=O (k+1);rw[fK L,Gp,Al]at h3;simp only[Cc,Fw,Ao,fD,Ak]at h3;simp only[PP,simprocAttr,PT,c,i0,L,gk,gk0,sk,sk0];refine yP T (f:=V) (o:=Y) (l:=x) (A:=M) (G:=[]) (vb:=E) (g:=g) (vw:=B) (xs:=[⟨kwP.toArray⟩]++wds [(u:Int),(ow.length:Int)]++wds ow++wds pr++wds ((su.take k).flatMap fD)) (pD (by simp) (by simp)) I (by simp only[PP,simprocAttr];omega) (by omega) fun E g B=>?_;simp only[PP,simprocAttr,PT,hw];refine bZ (U (k+1) E g B (by omega) (by omega)) (by simp only[PW]) ?_;rw[fK L];refine pD (by simp<;>omega) (by simp)
    · have Q:k=su.length:=by omega
      subst Q;rw[Bo (Ab _)];simp only[PP,simprocAttr,c];refine aC ?_;simp only[PP,simprocAttr,PT,gk,gk0,sk,sk0];refine Q2 T (i:= .g ow pr su) (u:=u) (by rw[gk];rfl) (by simp only[Ak,Al,Ag,An]) (by simp[In.dp,In.kw,Gg]) (by omega) ?_;simp only[PP,simprocAttr,PT];refine Gh.step (GStep.ia (b:=[.str ((In.g ow pr su).mn u)]) (N:=M) M.length (Ab _) (by simp) (by simp only[PW]) (by simp[aD,PV.under]) ?_ (Bj rfl)) (Gh.same ⟨_,rfl,hk⟩);exact(congrArg (fun N:Mem=>N.all (aI M.length)) (Bj rfl)).trans hc
end
structure pt (tab:FuncId->Option AF) (jid b L:Nat) (i:In) (StF:Mem->Nat->Mem->Prop):Prop where
  X:∀A:Mem,A.length=b->A.all (aI b)=Jr->om tab jid 10 i.done i.je (StF A) L i.rp
  sav:∀A:Mem,A.length=b->A.all (aI b)=Jr->∀m M,StF A m M->m<=2147483647->∀(S:Mem) (K:PV->Mem->Prop),K (.str (i.mn m)) (M++S)->au tab 23 [.ptr jid 0 0] (M++S) K
  pre:∀A m M,StF A m M->∃X,M=A++X
  bas:∀(A A':Mem) m X,A.length=b->A'.length=b->StF A m (A++X)->StF A' m (A'++X)
def In.Bw:In->Prop
  | .n N=>BnN N
  | .d D=>BnD D
  | .g ow pr su=>Bnd ow pr su
def In.B99:In->Prop
  | .n N=>True
  | .d D=>D.nx.length<=99
  | .g ow pr su=>ow.length<=99
def In.Bn.w{i:In}(h:i.Bn):i.Bw/\i.B99:=by
  cases i with
  | n N=>exact⟨h,trivial⟩
  | d D=>exact h
  | g ow pr su=>exact h
def In.bn{i:In}(h:i.Bw)(h2:i.B99):i.Bn:=by
  cases i with
  | n N=>exact h
  | d D=>exact⟨h,h2⟩
  | g ow pr su=>exact⟨h,h2⟩
def VN{l:List (List Int)}{c:Nat}(h:∀x∈l,x.length<=c):l.flatten.length<=l.length*c:=by
  induction l with
  | nil=>simp
  | cons x l u=>have h1:=h x (by simp);have h2:=u fun y B=>h y (by simp[B]);rw[Fi,Al,Ak,Dg];omega
def In.lu{i:In}(h0:i.chk=0):i.dp.length<100000000:=by
  cases i with
  | n N=>have C:=nI h0;have B:=C.n0;have E:=C.n64;have K:=C.qz;have h1:=pL B C.st;have h2:=pL B C.fi;have h3:=tP N.es;unfold In.dp fD;simp only[Al,Ak,An,h3];omega
  | d D=>
    have C:=gm.1 h0;have L:=C.v6;have G:=C.n1;have hf:=C.f;have I:2^D.vs.toNat<=2^6:=Ho (by omega) (by omega);have h1:=VN (l:=D.nx) (c:=64) fun x u=>by
      have:=(C.r x u).1;have:((2^D.vs.toNat:Nat):Int)=x.length:=by rw[this];simp
      omega
    unfold In.dp;simp only[Al,Ak,An,Ag];omega
  | g ow pr su=>
    have V:=jB h0;have G:=V.n1;have M:=V.p;have hs:=V.s;have h1:=VN (l:=su.map fD) (c:=4097) fun x u=>by obtain⟨y,J,rfl⟩:=List.mem_map.1 u;have:=pL (n:=ow.length) (by omega) ((KN V).2.2 y J);unfold fD;rw[Ak];omega
    rw[Ag]at h1;have e:su.flatMap fD=(su.map fD).flatten:=by simp[Jk]
    have h2:su.length*4097<=4096*4097:=Dt _ (by omega);unfold In.dp;simp only[Al,Ak,e];omega
section
variable {tab:FuncId->Option AF} (T:HasA tab){M:Mem}{K:PV->Mem->Prop}
include T
omit T in
def IH{u L:Nat}{M S:Mem}{K:PV->Mem->Prop}{t:ByteArray}(hL:M.length=L)(G:u<L)(y:M.all (aI L)=Jr)(I:K (.str t) (M++S))(h:∀B:PV->Mem->Prop,B (.str t) M->au tab 23 [.ptr u 0 0] M B):
    au tab 23 [.ptr u 0 0] (M++S) K:=by
  have E:(M++S).take L=M:=Bj hL;have J:(M++S).drop L=S:=Hf hL;refine oX (m:=L) (by rw[Al];omega) (by simp[aD,PV.under,G]) (by rw[E];exact y) ?_;rw[E,J];exact h _ ⟨by simp[PV.under],hL,y,I⟩
def N3{b:Nat}{N:NF}(hc:gF N=0)(B:BnN N):pt tab (b+7) b (b+8) (.n N) (fun A=>StD A N) where
  X:=fun A hb hA=>by subst hb;exact NY T hc B hA
  sav:=fun A hb hA m M hS hm S K hk=>by subst hb;have J:=NY T hc B hA;refine IH (J.len _ _ hS) (by omega) (J.cut _ _ hS) hk fun K' hk'=>?_;have hL:=J.len _ _ hS;have hC:=J.cut _ _ hS;obtain⟨_,f1,o1,f2,o2,f3,o3,f,o,q,v,rfl⟩:=hS;have C:=nI hc;have n0:=C.n0;have n64:=C.n64;have e5:=C.qz;have h1:=pL n0 C.st;have h2:=pL n0 C.fi;exact aG8 T (w:=A.length+4) BM (by unfold lS;rw[gk];rfl) (In.ls (i:= .n N) hc B trivial) hm (by rw[hL];exact hC) ⟨by omega,by omega,by omega⟩ hk'
  pre:=fun A m M ⟨_,f1,o1,f2,o2,f3,o3,f,o,q,v,h⟩=>⟨_,h⟩
  bas:=fun A A' m X h1 h2 ⟨hb,f1,o1,f2,o2,f3,o3,f,o,q,v,h⟩=>by have hX:=Hp (show A++X=A++_ from h);refine⟨hb,f1,o1,f2,o2,f3,o3,f,o,q,v,?_⟩;unfold lS;rw[hX,h1,h2]
def NZ{b:Nat}{D:DF}(hc:fE D=0)(B:BnD D)(h99:D.nx.length<=99):pt tab (b+1) b (b+2) (.d D) (fun A=>StM A D) where
  X:=fun A hb hA=>by subst hb;exact NX T hc B h99 hA
  sav:=fun A hb hA m M hS hm S K hk=>by subst hb;have J:=NX T hc B h99 hA;refine IH (J.len _ _ hS) (by omega) (J.cut _ _ hS) hk fun K' hk'=>?_;have hL:=J.len _ _ hS;have hC:=J.cut _ _ hS;obtain⟨_,f1,o1,f2,o2,f3,o3,f,o,v1,v2,rfl⟩:=hS;exact aG7 T (w:=A.length) (by unfold nK;rw[gk];rfl) (by unfold nK;rw[gk0];rfl) (In.ls (i:= .d D) hc ⟨B,h99⟩ trivial) hm (by rw[hL];exact hC) (In.lu (i:= .d D) hc) hk'
  pre:=fun A m M ⟨_,f1,o1,f2,o2,f3,o3,f,o,v1,v2,h⟩=>⟨_,h⟩
  bas:=fun A A' m X h1 h2 ⟨hb,f1,o1,f2,o2,f3,o3,f,o,v1,v2,h⟩=>by have hX:=Hp (show A++X=A++_ from h);refine⟨hb,f1,o1,f2,o2,f3,o3,f,o,v1,v2,?_⟩;unfold nK;rw[hX,h1,h2]
def GT{b:Nat}{ow pr:List Int}{su:List (List Int)}(hc:eF ow pr su=0)(B:Bnd ow pr su)(h99:ow.length<=99)(hp:∀x∈ow,0<=x):pt tab (b+3) b (b+4) (.g ow pr su) (fun A=>StP A ow pr su) where
  X:=fun A hb hA=>by subst hb;exact GS T hA hc B h99
  sav:=fun A hb hA m M hS hm S K hk=>by subst hb;have J:=GS T hA hc B h99;refine IH (J.len _ _ hS) (by omega) (J.cut _ _ hS) hk fun K' hk'=>?_;have hL:=J.len _ _ hS;have hC:=J.cut _ _ hS;obtain⟨_,f1,o1,f2,o2,f3,o3,f4,o4,ms,v1,v2,v3,b,hS1,hN,_,rfl⟩:=hS;exact aG6 T (w:=A.length) BL (by unfold kM;rw[gk0];rfl) (In.ls (i:= .g ow pr su) hc ⟨B,h99⟩ hp) hm (by rw[hL];exact hC) (In.lu (i:= .g ow pr su) hc) hk'
  pre:=fun A m M ⟨_,f1,o1,f2,o2,f3,o3,f4,o4,ms,v1,v2,v3,b,_,_,_,h⟩=>⟨_,h⟩
  bas:=fun A A' m X h1 h2 ⟨hb,f1,o1,f2,o2,f3,o3,f4,o4,ms,v1,v2,v3,b,a1,a2,a3,h⟩=>by have hX:=Hp (show A++X=A++_ from h);refine⟨hb,f1,o1,f2,o2,f3,o3,f4,o4,ms,v1,v2,v3,b,a1,a2,a3,?_⟩;unfold kM;rw[hX,h1,h2]
end
def mO(k:IntKind)(u:List Int):gW (u.map (PV.int k))=u.map (PV.int k):=by rw[kE,Cs];exact Cq fun x _=>by simp[PV.jnk]
def rB(u:List Bool):gW (u.map PV.bool)=u.map PV.bool:=by rw[kE,Cs];exact Cq fun x _=>by simp[PV.jnk]
def BN(sz n:Nat)(cs:List PV):PV.jnk (.sl Js Js sz n cs)= .sl Js Js sz n (gW cs):=by simp[PV.jnk]
def aCz{f:PV->PV}(hf:∀k n,f (.int k n)= .int k n)(u:List Eg):(egL u).map f=egL u:=by
  unfold egL
  induction u with
  | nil=>rfl
  | cons e u y=>rw[Cc,Bh,y];simp[hf]
def N6(u:List Eg):gW (egL u)=egL u:=by rw[kE];exact aCz (fun k n=>by simp[PV.jnk]) u
def wZ(u:List Eg):eD (egL u)=egL u:=by rw[gP];exact aCz (fun k n=>by simp[PV.age]) u
abbrev agM(M:Mem):Mem:=M.map (bl.kx eD)
abbrev jkM(M:Mem):Mem:=M.map (bl.kx gW)
def O8(u:List Ms):eD (msL u)=msL u:=by rw[gP];unfold msL;rw[List.map_flatMap];congr 1;funext x;simp[msC,PV.age]
def aCl(u:List Ms):gW (msL u)=msL u:=by rw[kE];unfold msL;rw[List.map_flatMap];congr 1;funext x;simp[msC,PV.jnk]
def lP(f o:Bool)(k:IntKind)(u:List (List Int)):eD (u.map (slI f o k))=u.map (slI Js Js k):=by rw[gP,Cs];exact Cq fun r _=>JY ..
def rA(k:IntKind)(u:List (List Int)):gW (u.map (slI Js Js k))=u.map (slI Js Js k):=by rw[kE,Cs];exact Cq fun r _=>by show PV.jnk _=_;rw[BN,mO]
def PA(f o:Bool)(S:List (BitVec 64)):eD (csD f o S)=csD Js Js S:=by rw[gP,Cs];exact Cq fun r _=>JY ..
def aCm(S:List (BitVec 64)):gW (csD Js Js S)=csD Js Js S:=by rw[kE,Cs];exact Cq fun r _=>by show PV.jnk _=_;rw[BN,mO]
def vV{α:Type} [DecidableEq α](κ:α->ByteArray):∀(S:List α) (k:Nat),(smE (lY κ k S)).all (fun p=>iA p.1&&iA p.2)=Jr
  | [],k=>rfl
  | a::S,k=>by show((iA (.str (κ a))&&iA (p64 (k:Int)))&&(smE (lY κ (k+1) S)).all fun p=>iA p.1&&iA p.2)=Jr;rw[vV κ S (k+1)];rfl
def aF2{A M:Mem}{D:DF}{m:Nat}(h:StM A D m M):StM (agM A) D m (agM M):=by obtain⟨h1,B,E,G,I,f3,J,f,o,u,y,rfl⟩:=h;refine⟨h1,Js,Js,Js,Js,Js,Js,Js,Js,u,y,?_⟩;simp only[nK,agM,Bh,Ah,Av,bl.kx,eD,PV.age,lP,iZ,iK,Ag]
def aF1{A M:Mem}{D:DF}{m:Nat}(h:StM A D m M):StM (jkM (agM A)) D m (jkM (agM M)):=by obtain⟨h1,B,E,G,I,f3,J,f,o,u,y,rfl⟩:=h;refine⟨h1,Js,Js,Js,Js,Js,Js,Js,Js,u,y,?_⟩;simp only[nK,jkM,agM,Bh,Ah,Av,bl.kx,eD,PV.age,lP,iZ,iK,Ag,gW,PV.jnk,BN,rA,rB,mO,Aq,if_false]
def aF0{A M:Mem}{ow pr:List Int}{su:List (List Int)}{m:Nat}(h:StP A ow pr su m M):StP (agM A) ow pr su m (agM M):=by obtain⟨h1,K,L,O,Q,f3,R,S,T,u,y,B,E,b,G,I,J,rfl⟩:=h;refine⟨h1,Js,Js,Js,Js,Js,Js,Js,Js,u,y,B,E,b,G,I,J,?_⟩;simp only[kM,msM,agM,Bh,Ah,Av,bl.kx,eD,PV.age,lP,iZ,iK,O8,Ag]
def aFZ{A M:Mem}{ow pr:List Int}{su:List (List Int)}{m:Nat}(h:StP A ow pr su m M):StP (jkM (agM A)) ow pr su m (jkM (agM M)):=by obtain⟨h1,K,L,O,Q,f3,R,S,T,u,y,B,E,b,G,I,J,rfl⟩:=h;refine⟨h1,Js,Js,Js,Js,Js,Js,Js,Js,u,y,B,E,b,G,I,J,?_⟩;simp only[kM,msM,jkM,agM,Bh,Ah,Av,bl.kx,eD,PV.age,lP,iZ,iK,O8,Ag,gW,PV.jnk,rA,rB,mO,aCl,Aq,if_false]
def aF4{A M:Mem}{N:NF}{m:Nat}(h:StD A N m M):StD (agM A) N m (agM M):=by obtain⟨h1,u,y,B,E,f3,G,f,o,q,v,rfl⟩:=h;refine⟨h1,Js,Js,Js,Js,Js,Js,Js,Js,q,v,?_⟩;simp only[lS,iH,agM,Bh,Ah,Av,bl.kx,eD,PV.age,lP,PA,iZ,iK,wZ,Ag,vV,if_true]
def aF3{A M:Mem}{N:NF}{m:Nat}(h:StD A N m M):StD (jkM (agM A)) N m (jkM (agM M)):=by obtain⟨h1,u,y,B,E,f3,G,f,o,q,v,rfl⟩:=h;refine⟨h1,Js,Js,Js,Js,Js,Js,Js,Js,q,v,?_⟩;simp only[lS,iH,jkM,agM,Bh,Ah,Av,bl.kx,eD,PV.age,lP,PA,iZ,iK,wZ,Ag,vV,if_true,gW,PV.jnk,rA,aCm,rB,mO,N6,Aq,if_false]
structure ke (tab:FuncId->Option AF) (i:In) (A:Mem) (K:PV->Mem->Prop):Prop where
  bad:i.chk≠0->K (.tuple [.aq,p64 i.chk]) A
  ok:i.chk=0->∀jid b L StF A0 M0,pt tab jid b L i StF->A0.length=b->A0.all (aI b)=Jr->StF A0 0 M0->(∃X,A0=A++X)->K (.tuple [.ptr jid 0 0,p64 0]) M0
def In.oc:In->List PV
  | .n N=>nfC Js Jr Js Jr Js Jr N
  | .d D=>dfC Js Jr Js Jr Js Jr D
  | .g ow pr su=>[slI Js Jr .u8 ow,slI Js Jr .i64 pr,slR Js Jr Js Jr .i64 su]
def In.bg:In->FuncId
  | .n _=>121
  | .d _=>124
  | .g .. =>128
section
variable {tab:FuncId->Option AF} (T:HasA tab){M:Mem}{K:PV->Mem->Prop}
include T
def aJe{A Y:Mem}{N:NF}{K:PV->Mem->Prop}{q:Nat->Nat}{v:Nat}(u:gF N=0)(B:BnN N)(h:ke tab (.n N) A K)(y:(A++Y).all (aI (A++Y).length)=Jr):K (.tuple [.ptr ((A++Y).length+7) 0 0,p64 0]) (lS (A++Y) Js Jr Js Jr Js Jr Js Jr N q [gC N] [] [] v 0):=
  h.ok u _ _ _ _ (A++Y) _ (N3 T u B) rfl y ⟨⟨by omega,by show [gC N].length<=4096;simp⟩,Js,Jr,Js,Jr,Js,Jr,Js,Jr,q,v,rfl⟩ ⟨Y,rfl⟩
def aJg{A Y:Mem}{D:DF}{K:PV->Mem->Prop}{v:Nat}(y:fE D=0)(B:BnD D)(u:D.nx.length<=99)(h:ke tab (.d D) A K)(E:(A++Y).all (aI (A++Y).length)=Jr):K (.tuple [.ptr ((A++Y).length+1) 0 0,p64 0]) (nK (A++Y) Js Jr Js Jr Js Jr Js Jr D v 0 0 0):=
  h.ok y _ _ _ _ (A++Y) _ (NZ T y B u) rfl E ⟨fun j G=>by omega,Js,Jr,Js,Jr,Js,Jr,Js,Jr,v,0,rfl⟩ ⟨Y,rfl⟩
def aJf{A Y:Mem}{ow pr:List Int}{su:List (List Int)}{u:List Ms}{b:Bool}{K:PV->Mem->Prop}{v1 v2:Nat}(y:eF ow pr su=0)(B:Bnd ow pr su)(E:ow.length<=99)(J:∀x∈ow,0<=x)(G:vD ow pr su 0 u b 0)(h:ke tab (.g ow pr su) A K)(L:(A++Y).all (aI (A++Y).length)=Jr):K (.tuple [.ptr ((A++Y).length+3) 0 0,p64 0]) (kM (A++Y) Js Jr Js Jr Js Jr Js Jr ow pr su u v1 v2 0 b 0):=by
  rcases G with⟨a,_⟩ | ⟨_,a,_⟩ | ⟨_,_,O,I,Q,_⟩
  · exact absurd y a
  · omega
  · refine h.ok y _ _ _ _ (A++Y) _ (GT T y B E J) rfl L ⟨Au _,Js,Jr,Js,Jr,Js,Jr,Js,Jr,u,v1,v2,0,b,O,I,?_,rfl⟩ ⟨Y,rfl⟩;rw[Q,I];exact Iff.rfl
omit T in
def G5{A Y:Mem}{n:Nat}(hA:A.all (aI A.length)=Jr)(u:Y.all (aI n)=Jr)(y:A.length+Y.length=n):(A++Y).all (aI (A++Y).length)=Jr:=by rw[Al,y,Cl,u,fJ (by omega) hA];rfl
def aGt{A:Mem}{K:PV->Mem->Prop}{u y E G f3 I:Bool}{N:NF}(B:BnN N)(hA:A.all (aI A.length)=Jr)(h:ke tab (.n N) A K):au tab 40 [.agg (nfC u y E G f3 I N)] A K:=
  K8 T B hA h.bad fun J X q v L=>by have:=aJe T (Y:=[X]) (q:=q) (v:=v) J B h (G5 (n:=A.length+1) hA (by simp[L]) rfl);simpa only[Al,Ak,An,Bg,Cn,Ax]using this
def aIC{A:Mem}{K:PV->Mem->Prop}{E G I J f3 L:Bool}{D:DF}(B:BnD D)(u:fE D=0->D.nx.length<=99)(hA:A.all (aI A.length)=Jr)(h:ke tab (.d D) A K):au tab 41 [.agg (dfC E G I J f3 L D)] A K:=
  K7 T B u hA h.bad fun y X Y v O Q=>by have:=aJg T (Y:=[X,Y]) (v:=v) y B (u y) h (G5 (n:=A.length+2) hA (by simp[O,Q]) rfl);simpa only[Al,Ak,An,Bg,Cn,Ax]using this
def aIB{A:Mem}{K:PV->Mem->Prop}{J L O Q f3 R S U:Bool}{ow pr:List Int}{su:List (List Int)}(B:Bnd ow pr su)(u:eF ow pr su=0->ow.length<=99)(V:∀x∈ow,0<=x)(hA:A.all (aI A.length)=Jr)(h:ke tab (.g ow pr su) A K):au tab 42 [gmP J L O Q f3 R S U ow pr su] A K:=
  K6 T B hA h.bad fun E X Y G I ms b Z hy y=>by have:=aJf T (Y:=[X,Y]) (v1:=G) (v2:=I) E B (u E) V y h (G5 (n:=A.length+2) hA (by simp[Z,hy]) rfl);simpa only[Al,Ak,An,Bg,Cn,Ax]using this
def aI6{A:Mem}{K:PV->Mem->Prop}{q R:Nat}{i:In}(Q:i.Bw)(E:i.chk=0->i.B99)(S:i.Pos)(B:A[q]? =Jp (.cells 0 R i.oc))(hA:A.all (aI A.length)=Jr)(h:ke tab i A K):au tab i.bg [.ptr q 0 0] A K:=by
  cases i with
  | n N=>
    refine aV T.h121 ?_;simp only[In.oc]at B;simp only[af121,PP,simprocAttr,B];refine aGt T Q hA ⟨fun u=>?_,fun u y b L StF G I J h1 h2 h3 O=>?_⟩
    · simp only[PP,simprocAttr];exact h.bad u
    · simp only[PP,simprocAttr];exact h.ok u y b L StF G I J h1 h2 h3 O
  | d D=>
    refine aV T.h124 ?_;simp only[In.oc]at B;simp only[af124,PP,simprocAttr,B];refine aIC T Q E hA ⟨fun u=>?_,fun u y b L StF G I J h1 h2 h3 O=>?_⟩
    · simp only[PP,simprocAttr];exact h.bad u
    · simp only[PP,simprocAttr];exact h.ok u y b L StF G I J h1 h2 h3 O
  | g ow pr su=>
    refine aV T.h128 ?_;simp only[In.oc]at B;simp only[af128,PP,simprocAttr,B];refine aIB T Q E S hA ⟨fun u=>?_,fun u y b L StF G I J h1 h2 h3 O=>?_⟩
    · simp only[PP,simprocAttr];exact h.bad u
    · simp only[PP,simprocAttr];exact h.ok u y b L StF G I J h1 h2 h3 O
omit T in
def aEh(x y:ByteArray):eE .eql (.str x) (.str y)=Jp (.bool (decide (x=y))):=by
  have h:(x.toList==y.toList)=decide (x=y):=by rw[ByteArray.toList_eq,ByteArray.toList_eq,Fg,beq_iff_eq,decide_eq_true_eq];exact⟨fun h=>ByteArray.ext (Array.ext' h),fun h=>by rw[h]⟩
  show(Jp (PV.bool (x.toList==y.toList)))=_;rw[h]
omit T in
def UT(x y:ByteArray):eE .neq (.str x) (.str y)=Jp (.bool (!decide (x=y))):=by
  have h:(x.toList==y.toList)=decide (x=y):=by rw[ByteArray.toList_eq,ByteArray.toList_eq,Fg,beq_iff_eq,decide_eq_true_eq];exact⟨fun h=>ByteArray.ext (Array.ext' h),fun h=>by rw[h]⟩
  show(Jp (PV.bool (!(x.toList==y.toList))))=_;rw[h]
end
end Go.Am.Ar
--P14
namespace Go.Am.Ar
open Go.Am.PV renaming aa->Zj
open Go.Am renaming jc->P1,lg->P2,kq->P3,ep->P4,bl.under->P5,fy->P6,dr->P7,bf->P8,pev->P9,iw->P10,bd->P11,jl->P12,dw->P13,fY->P14,AO.effect->P15
open List renaming replicate->L1
section
variable {tab:FuncId->Option AF} (T:HasA tab){M:Mem}{K:PV->Mem->Prop}
include T
end
end Go.Am.Ar

